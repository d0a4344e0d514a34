/- V's text of the functions that this law reaches. -/
import Derived.Test.YthpmfdcmnnbjcaaVCode
import Derived.Test.YthpmfdcmnnbjcaaRows
import Derived.KernelRfl
namespace Go.Proofs.Ythpmfdcmnnbjcaa.Meters
open Go Go.Proofs.Ythpmfdcmnnbjcaa.V

/-- loop.example/g00539/laws.FnMeters -/
def v13 : VFun := {
  code :=
    (.seq
    (.region false [0] [
      ⟨some 2, .asg (.c (.bool false)), none, []⟩])
    (.seq
    (.seq
    (.region false [0, 16] [
      ⟨some 15, .mov (.t 0), none, []⟩,
      ⟨some 16, .call 38 [(.t 15)], none, []⟩])
    (.cond (.t 16)
      (.seq
      (.region false [2] [
        ⟨some 2, .asg (.c (.bool true)), none, []⟩])
      .ret)
      .skip))
    (.seq
    (.region false [0, 3, 4] [
      ⟨some 18, .mov (.t 0), none, []⟩,
      ⟨some 19, .call 52 [(.t 18)], none, []⟩,
      ⟨some 17, .mov (.t 19), none, []⟩,
      ⟨some 20, .ext (.t 17) 0, none, []⟩,
      ⟨some 21, .ext (.t 17) 1, none, []⟩,
      ⟨some 3, .alloc 30 [(.val (.int .i64 0)), (.val (.int .i64 0)), (.val (.int .i64 0)), (.val (.int .i64 0)), (.val (.int .i64 0)), (.val (.int .i64 0)), (.val (.int .i64 0))], none, []⟩,
      ⟨none, .store 30 7 (.t 3) (.t 20), none, []⟩,
      ⟨some 4, .asg (.t 21), none, []⟩])
    (.seq
    (.region false [0, 3, 4, 5] [
      ⟨some 22, .load 30 true 7 (.t 3), none, []⟩,
      ⟨some 23, .mov (.t 4), none, []⟩,
      ⟨some 24, .call 30 [(.t 22), (.t 23)], none, []⟩,
      ⟨some 5, .alloc 23 [(.val (.int .i64 0)), (.val (.int .i64 0))], none, []⟩,
      ⟨none, .store 23 2 (.t 5) (.t 24), none, []⟩])
    (.seq
    (.region false [0, 3, 4, 5, 6, 7] [
      ⟨some 26, .mov (.t 0), none, []⟩,
      ⟨some 27, .call 53 [(.t 26)], none, []⟩,
      ⟨some 25, .mov (.t 27), none, []⟩,
      ⟨some 28, .ext (.t 25) 0, none, []⟩,
      ⟨some 29, .ext (.t 25) 1, none, []⟩,
      ⟨some 6, .alloc 30 [(.val (.int .i64 0)), (.val (.int .i64 0)), (.val (.int .i64 0)), (.val (.int .i64 0)), (.val (.int .i64 0)), (.val (.int .i64 0)), (.val (.int .i64 0))], none, []⟩,
      ⟨none, .store 30 7 (.t 6) (.t 28), none, []⟩,
      ⟨some 7, .asg (.t 29), none, []⟩])
    (.seq
    (.region false [0, 3, 4, 5, 6, 7, 8] [
      ⟨some 30, .load 30 true 7 (.t 6), none, []⟩,
      ⟨some 31, .mov (.t 7), none, []⟩,
      ⟨some 32, .call 37 [(.t 30), (.t 31)], none, []⟩,
      ⟨some 8, .alloc 34 [(.val (.int .i64 0)), (.val (.bool false)), (.val (.int .i64 0)), (.val (.int .i64 0)), (.val (.int .i64 0)), (.val (.int .i64 0)), (.val (.int .i64 0)), (.val (.int .i64 0)), (.val (.int .i64 0))], none, []⟩,
      ⟨none, .store 34 9 (.t 8) (.t 32), none, []⟩])
    (.seq
    (.region false [3, 4, 5, 6, 7, 8, 9, 10, 11, 12] [
      ⟨some 34, .mov (.t 0), none, []⟩,
      ⟨some 35, .call 54 [(.t 34)], none, []⟩,
      ⟨some 33, .mov (.t 35), none, []⟩,
      ⟨some 36, .ext (.t 33) 0, none, []⟩,
      ⟨some 37, .ext (.t 33) 1, none, []⟩,
      ⟨some 38, .ext (.t 33) 2, none, []⟩,
      ⟨some 39, .ext (.t 33) 3, none, []⟩,
      ⟨some 9, .asg (.t 36), none, []⟩,
      ⟨some 10, .asg (.t 37), none, []⟩,
      ⟨some 11, .asg (.t 38), none, []⟩,
      ⟨some 12, .asg (.t 39), none, []⟩])
    (.seq
    (.region false [3, 4, 5, 6, 7, 8, 9, 10, 11, 12, 13] [
      ⟨some 40, .mov (.t 9), none, []⟩,
      ⟨some 41, .mov (.t 10), none, []⟩,
      ⟨some 42, .mov (.t 11), none, []⟩,
      ⟨some 43, .mov (.t 12), none, []⟩,
      ⟨some 44, .call 22 [(.t 40), (.t 41), (.t 42), (.t 43)], none, []⟩,
      ⟨some 13, .alloc 34 [(.val (.int .i64 0)), (.val (.bool false)), (.val (.int .i64 0)), (.val (.int .i64 0)), (.val (.int .i64 0)), (.val (.int .i64 0)), (.val (.int .i64 0)), (.val (.int .i64 0)), (.val (.int .i64 0))], none, []⟩,
      ⟨none, .store 34 9 (.t 13) (.t 44), none, []⟩])
    (.seq
    (.seq
    (.region true [3, 4, 5, 109] [
      ⟨some 45, .fa 34 0 0 1 (.t 8), none, []⟩,
      ⟨some 46, .load 2 false 1 (.t 45), none, []⟩,
      ⟨some 47, .load 30 true 7 (.t 6), none, [0, 1]⟩,
      ⟨some 48, .mov (.t 7), none, [0, 1, 2]⟩,
      ⟨some 49, .call 36 [(.t 47), (.t 48)], none, [0, 1]⟩,
      ⟨some 50, .fld 34 0 0 1 false (.t 49), none, [0, 1]⟩,
      ⟨some 51, .bin false .neq 2 (.t 46) (.t 50), none, []⟩,
      ⟨some 52, .mov (.t 51), none, []⟩,
      ⟨some 53, .fa 34 0 0 1 (.t 8), some (52, false), []⟩,
      ⟨some 54, .load 2 false 1 (.t 53), some (52, false), []⟩,
      ⟨some 55, .bin false .eql 2 (.t 54) (.c (.int .i64 0)), some (52, false), []⟩,
      ⟨some 56, .mov (.t 55), some (52, false), []⟩,
      ⟨some 57, .fa 34 2 2 7 (.t 8), some (56, true), []⟩,
      ⟨some 58, .load 30 true 7 (.t 57), some (56, true), []⟩,
      ⟨some 59, .load 30 true 7 (.t 6), some (56, true), [12, 13]⟩,
      ⟨some 60, .mov (.t 7), some (56, true), [12, 13, 14]⟩,
      ⟨some 61, .call 36 [(.t 59), (.t 60)], some (56, true), [12, 13]⟩,
      ⟨some 62, .fld 34 2 2 7 true (.t 61), some (56, true), [12, 13]⟩,
      ⟨some 63, .eqs true 30 [1, 1, 1, 1, 1, 1, 1] (.t 58) (.t 62), some (56, true), []⟩,
      ⟨some 64, .mov (.t 63), some (56, true), []⟩,
      ⟨some 65, .fa 34 1 1 1 (.t 8), some (64, false), []⟩,
      ⟨some 66, .load 4 false 1 (.t 65), some (64, false), []⟩,
      ⟨some 67, .load 30 true 7 (.t 6), some (64, false), [20, 21]⟩,
      ⟨some 68, .mov (.t 7), some (64, false), [20, 21, 22]⟩,
      ⟨some 69, .call 36 [(.t 67), (.t 68)], some (64, false), [20, 21]⟩,
      ⟨some 70, .fld 34 1 1 1 false (.t 69), some (64, false), [20, 21]⟩,
      ⟨some 71, .bin true .neq 4 (.t 66) (.t 70), some (64, false), []⟩,
      ⟨some 72, .pick (.t 64) (.c (.bool true)) (.t 71), some (56, true), []⟩,
      ⟨some 73, .mov (.t 72), some (56, true), []⟩,
      ⟨some 74, .fa 34 2 2 7 (.t 8), some (73, false), []⟩,
      ⟨some 75, .load 30 true 7 (.t 74), some (73, false), []⟩,
      ⟨some 76, .call 20 [(.t 75)], some (73, false), []⟩,
      ⟨some 77, .bin false .neq 2 (.t 76) (.c (.int .i64 0)), some (73, false), []⟩,
      ⟨some 78, .pick (.t 73) (.c (.bool true)) (.t 77), some (56, true), []⟩,
      ⟨some 79, .pick (.t 56) (.t 78) (.c (.bool false)), some (52, false), []⟩,
      ⟨some 80, .pick (.t 52) (.c (.bool true)) (.t 79), none, []⟩,
      ⟨some 81, .mov (.t 80), none, []⟩,
      ⟨some 82, .fa 34 0 0 1 (.t 13), some (81, false), []⟩,
      ⟨some 83, .load 2 false 1 (.t 82), some (81, false), []⟩,
      ⟨some 84, .mov (.t 9), some (81, false), [37, 38]⟩,
      ⟨some 85, .mov (.t 10), some (81, false), [37, 38, 39]⟩,
      ⟨some 86, .mov (.t 11), some (81, false), [37, 38, 39, 40]⟩,
      ⟨some 87, .mov (.t 12), some (81, false), [37, 38, 39, 40, 41]⟩,
      ⟨some 88, .call 21 [(.t 84), (.t 85), (.t 86), (.t 87)], some (81, false), [37, 38]⟩,
      ⟨some 89, .fld 34 0 0 1 false (.t 88), some (81, false), [37, 38]⟩,
      ⟨some 90, .bin false .neq 2 (.t 83) (.t 89), some (81, false), []⟩,
      ⟨some 91, .pick (.t 81) (.c (.bool true)) (.t 90), none, []⟩,
      ⟨some 92, .mov (.t 91), none, []⟩,
      ⟨some 93, .fa 34 0 0 1 (.t 13), some (92, false), []⟩,
      ⟨some 94, .load 2 false 1 (.t 93), some (92, false), []⟩,
      ⟨some 95, .bin false .eql 2 (.t 94) (.c (.int .i64 0)), some (92, false), []⟩,
      ⟨some 96, .mov (.t 95), some (92, false), []⟩,
      ⟨some 97, .fa 34 2 2 7 (.t 13), some (96, true), []⟩,
      ⟨some 98, .fa 30 0 0 1 (.t 97), some (96, true), []⟩,
      ⟨some 99, .load 2 false 1 (.t 98), some (96, true), []⟩,
      ⟨some 100, .mov (.t 9), some (96, true), [52, 53, 54]⟩,
      ⟨some 101, .bin false .neq 2 (.t 99) (.t 100), some (96, true), []⟩,
      ⟨some 102, .mov (.t 101), some (96, true), []⟩,
      ⟨some 103, .fa 34 2 2 7 (.t 13), some (102, false), []⟩,
      ⟨some 104, .load 30 true 7 (.t 103), some (102, false), []⟩,
      ⟨some 105, .call 20 [(.t 104)], some (102, false), []⟩,
      ⟨some 106, .bin false .neq 2 (.t 105) (.c (.int .i64 0)), some (102, false), []⟩,
      ⟨some 107, .pick (.t 102) (.c (.bool true)) (.t 106), some (96, true), []⟩,
      ⟨some 108, .pick (.t 96) (.t 107) (.c (.bool false)), some (92, false), []⟩,
      ⟨some 109, .pick (.t 92) (.c (.bool true)) (.t 108), none, []⟩])
    (.cond (.t 109)
      (.seq
      (.region false [2] [
        ⟨some 2, .asg (.c (.bool false)), none, []⟩])
      .ret)
      .skip))
    (.seq
    (.seq
    (.region false [3, 4, 5, 112] [
      ⟨some 110, .fa 23 0 0 1 (.t 5), none, []⟩,
      ⟨some 111, .load 2 false 1 (.t 110), none, []⟩,
      ⟨some 112, .bin false .neq 2 (.t 111) (.c (.int .i64 0)), none, []⟩])
    (.cond (.t 112)
      (.seq
      (.region true [2] [
        ⟨some 113, .load 30 true 7 (.t 3), none, []⟩,
        ⟨some 114, .mov (.t 4), none, [0]⟩,
        ⟨some 115, .call 29 [(.t 113), (.t 114)], none, []⟩,
        ⟨some 116, .fld 23 0 0 1 false (.t 115), none, []⟩,
        ⟨some 117, .fa 23 0 0 1 (.t 5), none, [0, 1, 2, 3]⟩,
        ⟨some 118, .load 2 false 1 (.t 117), none, [0, 1, 2, 3]⟩,
        ⟨some 119, .bin false .eql 2 (.t 116) (.t 118), none, []⟩,
        ⟨some 120, .mov (.t 119), none, []⟩,
        ⟨some 121, .load 30 true 7 (.t 3), some (120, true), []⟩,
        ⟨some 122, .call 20 [(.t 121)], some (120, true), []⟩,
        ⟨some 123, .load 30 true 7 (.t 3), some (120, true), [8, 9]⟩,
        ⟨some 124, .call 18 [(.t 123)], some (120, true), []⟩,
        ⟨some 125, .bin false .eql 2 (.t 122) (.t 124), some (120, true), []⟩,
        ⟨some 126, .pick (.t 120) (.t 125) (.c (.bool false)), none, []⟩,
        ⟨some 2, .asg (.t 126), none, []⟩])
      .ret)
      .skip))
    (.seq
    (.region false [3, 4, 5, 14] [
      ⟨some 127, .fa 30 4 4 1 (.t 3), none, []⟩,
      ⟨some 128, .load 2 false 1 (.t 127), none, []⟩,
      ⟨some 129, .fa 30 3 3 1 (.t 3), none, []⟩,
      ⟨some 130, .load 2 false 1 (.t 129), none, []⟩,
      ⟨some 131, .bin false .mul 2 (.t 128) (.t 130), none, []⟩,
      ⟨some 14, .asg (.t 131), none, []⟩])
    (.seq
    (.region true [2] [
      ⟨some 132, .fa 23 1 1 1 (.t 5), none, []⟩,
      ⟨some 133, .load 2 false 1 (.t 132), none, []⟩,
      ⟨some 134, .fa 30 1 1 1 (.t 3), none, [0, 1]⟩,
      ⟨some 135, .load 2 false 1 (.t 134), none, [0, 1]⟩,
      ⟨some 136, .bin false .geq 2 (.t 133) (.t 135), none, []⟩,
      ⟨some 137, .mov (.t 136), none, []⟩,
      ⟨some 138, .fa 23 1 1 1 (.t 5), some (137, true), []⟩,
      ⟨some 139, .load 2 false 1 (.t 138), some (137, true), []⟩,
      ⟨some 140, .fa 30 2 2 1 (.t 3), some (137, true), [6, 7]⟩,
      ⟨some 141, .load 2 false 1 (.t 140), some (137, true), [6, 7]⟩,
      ⟨some 142, .bin false .leq 2 (.t 139) (.t 141), some (137, true), []⟩,
      ⟨some 143, .pick (.t 137) (.t 142) (.c (.bool false)), none, []⟩,
      ⟨some 144, .mov (.t 143), none, []⟩,
      ⟨some 145, .fa 23 1 1 1 (.t 5), some (144, true), []⟩,
      ⟨some 146, .load 2 false 1 (.t 145), some (144, true), []⟩,
      ⟨some 147, .fa 30 0 0 1 (.t 3), some (144, true), [13, 14]⟩,
      ⟨some 148, .load 2 false 1 (.t 147), some (144, true), [13, 14]⟩,
      ⟨some 149, .bin false .mul 2 (.c (.int .i64 4)) (.t 148), some (144, true), [13, 14]⟩,
      ⟨some 150, .bin false .leq 2 (.t 146) (.t 149), some (144, true), []⟩,
      ⟨some 151, .pick (.t 144) (.t 150) (.c (.bool false)), none, []⟩,
      ⟨some 152, .mov (.t 151), none, []⟩,
      ⟨some 153, .fa 23 1 1 1 (.t 5), some (152, true), []⟩,
      ⟨some 154, .load 2 false 1 (.t 153), some (152, true), []⟩,
      ⟨some 155, .bin false .mul 2 (.c (.int .i64 4)) (.t 154), some (152, true), []⟩,
      ⟨some 156, .fa 30 0 0 1 (.t 3), some (152, true), [21, 22, 23]⟩,
      ⟨some 157, .load 2 false 1 (.t 156), some (152, true), [21, 22, 23]⟩,
      ⟨some 158, .bin false .geq 2 (.t 155) (.t 157), some (152, true), []⟩,
      ⟨some 159, .pick (.t 152) (.t 158) (.c (.bool false)), none, []⟩,
      ⟨some 160, .mov (.t 159), none, []⟩,
      ⟨some 161, .mov (.t 14), some (160, true), []⟩,
      ⟨some 162, .bin false .gtr 2 (.t 161) (.c (.int .i64 99999)), some (160, true), []⟩,
      ⟨some 163, .mov (.t 162), some (160, true), []⟩,
      ⟨some 164, .load 30 true 7 (.t 3), some (163, false), []⟩,
      ⟨some 165, .mov (.t 14), some (163, false), [32]⟩,
      ⟨some 166, .call 30 [(.t 164), (.t 165)], some (163, false), []⟩,
      ⟨some 167, .fld 23 1 1 1 false (.t 166), some (163, false), []⟩,
      ⟨some 168, .fa 30 0 0 1 (.t 3), some (163, false), [32, 33, 34, 35]⟩,
      ⟨some 169, .load 2 false 1 (.t 168), some (163, false), [32, 33, 34, 35]⟩,
      ⟨some 170, .bin false .eql 2 (.t 167) (.t 169), some (163, false), []⟩,
      ⟨some 171, .pick (.t 163) (.c (.bool true)) (.t 170), some (160, true), []⟩,
      ⟨some 172, .pick (.t 160) (.t 171) (.c (.bool false)), none, []⟩,
      ⟨some 173, .mov (.t 172), none, []⟩,
      ⟨some 174, .fa 23 1 1 1 (.t 5), some (173, true), []⟩,
      ⟨some 175, .load 2 false 1 (.t 174), some (173, true), []⟩,
      ⟨some 176, .load 30 true 7 (.t 3), some (173, true), [42, 43]⟩,
      ⟨some 177, .mov (.t 4), some (173, true), [42, 43, 44]⟩,
      ⟨some 178, .call 29 [(.t 176), (.t 177)], some (173, true), [42, 43]⟩,
      ⟨some 179, .fld 23 1 1 1 false (.t 178), some (173, true), [42, 43]⟩,
      ⟨some 180, .bin false .eql 2 (.t 175) (.t 179), some (173, true), []⟩,
      ⟨some 181, .pick (.t 173) (.t 180) (.c (.bool false)), none, []⟩,
      ⟨some 2, .asg (.t 181), none, []⟩])
    .ret))))))))))))
  modes := [.lend]
  rets := [⟨2, none⟩] }

/-- loop.example/g00539/spec.MeterFault -/
def v18 : VFun := {
  code :=
    (.seq
    (.region false [1] [
      ⟨some 1, .box 30 (.t 0), none, []⟩,
      ⟨some 2, .asg (.c (.int .i64 0)), none, []⟩])
    (.seq
    (.region false [2] [
      ⟨some 3, .call 59 [(.t 1)], none, []⟩,
      ⟨some 2, .asg (.t 3), none, []⟩])
    .ret))
  modes := [.lend]
  rets := [⟨2, none⟩] }

/-- loop.example/g00539/impl.MeterFault -/
def v20 : VFun := {
  code :=
    (.seq
    (.region false [1] [
      ⟨some 1, .box 30 (.t 0), none, []⟩,
      ⟨some 2, .asg (.c (.int .i64 0)), none, []⟩])
    (.seq
    (.region false [1, 3] [
      ⟨some 4, .fa 30 1 1 1 (.t 1), none, []⟩,
      ⟨some 5, .load 2 false 1 (.t 4), none, []⟩,
      ⟨some 6, .call 58 [(.t 5)], none, []⟩,
      ⟨some 7, .mov (.t 6), none, []⟩,
      ⟨some 8, .fa 30 2 2 1 (.t 1), some (7, true), []⟩,
      ⟨some 9, .load 2 false 1 (.t 8), some (7, true), []⟩,
      ⟨some 10, .call 58 [(.t 9)], some (7, true), []⟩,
      ⟨some 11, .pick (.t 7) (.t 10) (.c (.bool false)), none, []⟩,
      ⟨some 12, .mov (.t 11), none, []⟩,
      ⟨some 13, .fa 30 1 1 1 (.t 1), some (12, true), []⟩,
      ⟨some 14, .load 2 false 1 (.t 13), some (12, true), []⟩,
      ⟨some 15, .fa 30 2 2 1 (.t 1), some (12, true), []⟩,
      ⟨some 16, .load 2 false 1 (.t 15), some (12, true), []⟩,
      ⟨some 17, .bin false .leq 2 (.t 14) (.t 16), some (12, true), []⟩,
      ⟨some 18, .pick (.t 12) (.t 17) (.c (.bool false)), none, []⟩,
      ⟨some 19, .mov (.t 18), none, []⟩,
      ⟨some 20, .fa 30 0 0 1 (.t 1), some (19, true), []⟩,
      ⟨some 21, .load 2 false 1 (.t 20), some (19, true), []⟩,
      ⟨some 22, .fa 30 1 1 1 (.t 1), some (19, true), []⟩,
      ⟨some 23, .load 2 false 1 (.t 22), some (19, true), []⟩,
      ⟨some 24, .fa 30 2 2 1 (.t 1), some (19, true), []⟩,
      ⟨some 25, .load 2 false 1 (.t 24), some (19, true), []⟩,
      ⟨some 26, .call 60 [(.t 21), (.t 23), (.t 25)], some (19, true), []⟩,
      ⟨some 27, .pick (.t 19) (.t 26) (.c (.bool false)), none, []⟩,
      ⟨some 3, .asg (.t 27), none, []⟩])
    (.seq
    (.seq
    (.region false [56] [
      ⟨some 28, .mov (.t 3), none, []⟩,
      ⟨some 29, .un .not (.t 28), none, []⟩,
      ⟨some 30, .mov (.t 29), none, []⟩,
      ⟨some 31, .fa 30 3 3 1 (.t 1), some (30, false), []⟩,
      ⟨some 32, .load 2 false 1 (.t 31), some (30, false), []⟩,
      ⟨some 33, .call 60 [(.t 32), (.c (.int .i64 1)), (.c (.int .i64 999))], some (30, false), []⟩,
      ⟨some 34, .un .not (.t 33), some (30, false), []⟩,
      ⟨some 35, .pick (.t 30) (.c (.bool true)) (.t 34), none, []⟩,
      ⟨some 36, .mov (.t 35), none, []⟩,
      ⟨some 37, .fa 30 4 4 1 (.t 1), some (36, false), []⟩,
      ⟨some 38, .load 2 false 1 (.t 37), some (36, false), []⟩,
      ⟨some 39, .call 60 [(.t 38), (.c (.int .i64 1)), (.c (.int .i64 99))], some (36, false), []⟩,
      ⟨some 40, .un .not (.t 39), some (36, false), []⟩,
      ⟨some 41, .pick (.t 36) (.c (.bool true)) (.t 40), none, []⟩,
      ⟨some 42, .mov (.t 41), none, []⟩,
      ⟨some 43, .fa 30 5 5 1 (.t 1), some (42, false), []⟩,
      ⟨some 44, .load 2 false 1 (.t 43), some (42, false), []⟩,
      ⟨some 45, .fa 30 4 4 1 (.t 1), some (42, false), []⟩,
      ⟨some 46, .load 2 false 1 (.t 45), some (42, false), []⟩,
      ⟨some 47, .bin false .sub 2 (.t 46) (.c (.int .i64 1)), some (42, false), []⟩,
      ⟨some 48, .call 60 [(.t 44), (.c (.int .i64 0)), (.t 47)], some (42, false), []⟩,
      ⟨some 49, .un .not (.t 48), some (42, false), []⟩,
      ⟨some 50, .pick (.t 42) (.c (.bool true)) (.t 49), none, []⟩,
      ⟨some 51, .mov (.t 50), none, []⟩,
      ⟨some 52, .fa 30 6 6 1 (.t 1), some (51, false), []⟩,
      ⟨some 53, .load 2 false 1 (.t 52), some (51, false), []⟩,
      ⟨some 54, .call 60 [(.t 53), (.c (.int .i64 0)), (.c (.int .i64 99999))], some (51, false), []⟩,
      ⟨some 55, .un .not (.t 54), some (51, false), []⟩,
      ⟨some 56, .pick (.t 51) (.c (.bool true)) (.t 55), none, []⟩])
    (.cond (.t 56)
      (.seq
      (.region false [2] [
        ⟨some 2, .asg (.c (.int .i64 3)), none, []⟩])
      .ret)
      .skip))
    (.seq
    (.region false [2] [
      ⟨some 2, .asg (.c (.int .i64 0)), none, []⟩])
    .ret))))
  modes := [.lend]
  rets := [⟨2, none⟩] }

/-- loop.example/g00539/spec.NewMeter -/
def v21 : VFun := {
  code :=
    (.seq
    (.region false [0, 1, 2, 3, 8] [
      ⟨some 8, .alloc 34 [(.val (.int .i64 0)), (.val (.bool false)), (.val (.int .i64 0)), (.val (.int .i64 0)), (.val (.int .i64 0)), (.val (.int .i64 0)), (.val (.int .i64 0)), (.val (.int .i64 0)), (.val (.int .i64 0))], none, []⟩])
    (.seq
    (.region false [8, 9] [
      ⟨some 11, .mov (.t 0), none, []⟩,
      ⟨some 12, .mov (.t 0), none, []⟩,
      ⟨some 13, .mov (.t 1), none, []⟩,
      ⟨some 14, .mov (.t 2), none, []⟩,
      ⟨some 15, .mov (.t 3), none, []⟩,
      ⟨some 16, .build 30 [(.val (.int .i64 0)), (.val (.int .i64 0)), (.val (.int .i64 0)), (.val (.int .i64 0)), (.val (.int .i64 0)), (.val (.int .i64 0)), (.val (.int .i64 0))] [(0, 0, 1, (.t 11)), (1, 1, 1, (.t 12)), (2, 2, 1, (.t 13)), (3, 3, 1, (.t 14)), (4, 4, 1, (.t 15))], none, []⟩,
      ⟨some 9, .alloc 30 [(.val (.int .i64 0)), (.val (.int .i64 0)), (.val (.int .i64 0)), (.val (.int .i64 0)), (.val (.int .i64 0)), (.val (.int .i64 0)), (.val (.int .i64 0))], none, []⟩,
      ⟨none, .store 30 7 (.t 9) (.t 16), none, []⟩])
    (.seq
    (.seq
    (.region false [8, 9, 10] [
      ⟨some 17, .call 59 [(.t 9)], none, []⟩,
      ⟨some 10, .asg (.t 17), none, []⟩])
    (.seq
    (.region false [8, 9, 10, 19] [
      ⟨some 18, .mov (.t 10), none, []⟩,
      ⟨some 19, .bin false .neq 2 (.t 18) (.c (.int .i64 0)), none, []⟩])
    (.cond (.t 19)
      (.seq
      (.region false [8] [
        ⟨some 20, .mov (.t 10), none, []⟩,
        ⟨some 21, .build 34 [(.val (.int .i64 0)), (.val (.bool false)), (.val (.int .i64 0)), (.val (.int .i64 0)), (.val (.int .i64 0)), (.val (.int .i64 0)), (.val (.int .i64 0)), (.val (.int .i64 0)), (.val (.int .i64 0))] [(0, 0, 1, (.t 20))], none, []⟩,
        ⟨none, .store 34 9 (.t 8) (.t 21), none, []⟩])
      .ret)
      .skip)))
    (.seq
    (.region false [8] [
      ⟨some 22, .load 30 true 7 (.t 9), none, []⟩,
      ⟨some 23, .build 34 [(.val (.int .i64 0)), (.val (.bool false)), (.val (.int .i64 0)), (.val (.int .i64 0)), (.val (.int .i64 0)), (.val (.int .i64 0)), (.val (.int .i64 0)), (.val (.int .i64 0)), (.val (.int .i64 0))] [(2, 2, 7, (.t 22))], none, []⟩,
      ⟨none, .store 34 9 (.t 8) (.t 23), none, []⟩])
    .ret))))
  modes := [.lend, .lend, .lend, .lend]
  rets := [⟨8, some (true, 9)⟩] }

/-- loop.example/g00539/impl.NewMeter -/
def v22 : VFun := {
  code :=
    (.seq
    (.region false [0, 1, 2, 3, 8] [
      ⟨some 8, .alloc 34 [(.val (.int .i64 0)), (.val (.bool false)), (.val (.int .i64 0)), (.val (.int .i64 0)), (.val (.int .i64 0)), (.val (.int .i64 0)), (.val (.int .i64 0)), (.val (.int .i64 0)), (.val (.int .i64 0))], none, []⟩])
    (.seq
    (.region false [8, 9] [
      ⟨some 11, .mov (.t 0), none, []⟩,
      ⟨some 12, .mov (.t 0), none, []⟩,
      ⟨some 13, .mov (.t 1), none, []⟩,
      ⟨some 14, .mov (.t 2), none, []⟩,
      ⟨some 15, .mov (.t 3), none, []⟩,
      ⟨some 16, .build 30 [(.val (.int .i64 0)), (.val (.int .i64 0)), (.val (.int .i64 0)), (.val (.int .i64 0)), (.val (.int .i64 0)), (.val (.int .i64 0)), (.val (.int .i64 0))] [(0, 0, 1, (.t 11)), (1, 1, 1, (.t 12)), (2, 2, 1, (.t 13)), (3, 3, 1, (.t 14)), (4, 4, 1, (.t 15))], none, []⟩,
      ⟨some 9, .alloc 30 [(.val (.int .i64 0)), (.val (.int .i64 0)), (.val (.int .i64 0)), (.val (.int .i64 0)), (.val (.int .i64 0)), (.val (.int .i64 0)), (.val (.int .i64 0))], none, []⟩,
      ⟨none, .store 30 7 (.t 9) (.t 16), none, []⟩])
    (.seq
    (.seq
    (.region false [8, 9, 10] [
      ⟨some 17, .load 30 true 7 (.t 9), none, []⟩,
      ⟨some 18, .call 20 [(.t 17)], none, []⟩,
      ⟨some 10, .asg (.t 18), none, []⟩])
    (.seq
    (.region false [8, 9, 10, 20] [
      ⟨some 19, .mov (.t 10), none, []⟩,
      ⟨some 20, .bin false .neq 2 (.t 19) (.c (.int .i64 0)), none, []⟩])
    (.cond (.t 20)
      (.seq
      (.region false [8] [
        ⟨some 21, .mov (.t 10), none, []⟩,
        ⟨some 22, .build 34 [(.val (.int .i64 0)), (.val (.bool false)), (.val (.int .i64 0)), (.val (.int .i64 0)), (.val (.int .i64 0)), (.val (.int .i64 0)), (.val (.int .i64 0)), (.val (.int .i64 0)), (.val (.int .i64 0))] [(0, 0, 1, (.t 21))], none, []⟩,
        ⟨none, .store 34 9 (.t 8) (.t 22), none, []⟩])
      .ret)
      .skip)))
    (.seq
    (.region false [8] [
      ⟨some 23, .load 30 true 7 (.t 9), none, []⟩,
      ⟨some 24, .build 34 [(.val (.int .i64 0)), (.val (.bool false)), (.val (.int .i64 0)), (.val (.int .i64 0)), (.val (.int .i64 0)), (.val (.int .i64 0)), (.val (.int .i64 0)), (.val (.int .i64 0)), (.val (.int .i64 0))] [(2, 2, 7, (.t 23))], none, []⟩,
      ⟨none, .store 34 9 (.t 8) (.t 24), none, []⟩])
    .ret))))
  modes := [.lend, .lend, .lend, .lend]
  rets := [⟨8, some (true, 9)⟩] }

/-- loop.example/g00539/spec.NextLevel -/
def v29 : VFun := {
  code :=
    (.seq
    (.region false [1, 2, 4] [
      ⟨some 2, .box 30 (.t 0), none, []⟩,
      ⟨some 4, .alloc 23 [(.val (.int .i64 0)), (.val (.int .i64 0))], none, []⟩])
    (.seq
    (.seq
    (.region false [1, 2, 4, 5] [
      ⟨some 6, .call 59 [(.t 2)], none, []⟩,
      ⟨some 5, .asg (.t 6), none, []⟩])
    (.seq
    (.region false [1, 2, 4, 5, 8] [
      ⟨some 7, .mov (.t 5), none, []⟩,
      ⟨some 8, .bin false .neq 2 (.t 7) (.c (.int .i64 0)), none, []⟩])
    (.cond (.t 8)
      (.seq
      (.region false [4] [
        ⟨some 9, .mov (.t 5), none, []⟩,
        ⟨some 10, .build 23 [(.val (.int .i64 0)), (.val (.int .i64 0))] [(0, 0, 1, (.t 9))], none, []⟩,
        ⟨none, .store 23 2 (.t 4) (.t 10), none, []⟩])
      .ret)
      .skip)))
    (.seq
    (.seq
    (.region false [1, 2, 4, 13] [
      ⟨some 11, .mov (.t 1), none, []⟩,
      ⟨some 12, .call 57 [(.t 11), (.c (.int .i64 0)), (.c (.int .i64 99999))], none, []⟩,
      ⟨some 13, .un .not (.t 12), none, []⟩])
    (.cond (.t 13)
      (.seq
      (.region false [4] [
        ⟨some 14, .build 23 [(.val (.int .i64 0)), (.val (.int .i64 0))] [(0, 0, 1, (.c (.int .i64 3)))], none, []⟩,
        ⟨none, .store 23 2 (.t 4) (.t 14), none, []⟩])
      .ret)
      .skip))
    (.seq
    (.region false [4] [
      ⟨some 15, .mov (.t 1), none, []⟩,
      ⟨some 16, .call 66 [(.t 2), (.t 15)], none, []⟩,
      ⟨some 17, .build 23 [(.val (.int .i64 0)), (.val (.int .i64 0))] [(1, 1, 1, (.t 16))], none, []⟩,
      ⟨none, .store 23 2 (.t 4) (.t 17), none, []⟩])
    .ret))))
  modes := [.lend, .lend]
  rets := [⟨4, some (true, 2)⟩] }

/-- loop.example/g00539/impl.NextLevel -/
def v30 : VFun := {
  code :=
    (.seq
    (.region false [1, 2, 4] [
      ⟨some 2, .box 30 (.t 0), none, []⟩,
      ⟨some 4, .alloc 23 [(.val (.int .i64 0)), (.val (.int .i64 0))], none, []⟩])
    (.seq
    (.seq
    (.region false [1, 2, 4, 12] [
      ⟨some 5, .load 30 true 7 (.t 2), none, []⟩,
      ⟨some 6, .call 20 [(.t 5)], none, []⟩,
      ⟨some 7, .bin false .neq 2 (.t 6) (.c (.int .i64 0)), none, []⟩,
      ⟨some 8, .mov (.t 7), none, []⟩,
      ⟨some 9, .mov (.t 1), some (8, false), []⟩,
      ⟨some 10, .call 60 [(.t 9), (.c (.int .i64 0)), (.c (.int .i64 99999))], some (8, false), []⟩,
      ⟨some 11, .un .not (.t 10), some (8, false), []⟩,
      ⟨some 12, .pick (.t 8) (.c (.bool true)) (.t 11), none, []⟩])
    (.cond (.t 12)
      (.seq
      (.region false [4] [
        ⟨some 13, .build 23 [(.val (.int .i64 0)), (.val (.int .i64 0))] [(0, 0, 1, (.c (.int .i64 3)))], none, []⟩,
        ⟨none, .store 23 2 (.t 4) (.t 13), none, []⟩])
      .ret)
      .skip))
    (.seq
    (.region false [4] [
      ⟨some 14, .load 30 true 7 (.t 2), none, []⟩,
      ⟨some 15, .mov (.t 1), none, []⟩,
      ⟨some 16, .call 67 [(.t 14), (.t 15)], none, []⟩,
      ⟨some 17, .build 23 [(.val (.int .i64 0)), (.val (.int .i64 0))] [(0, 0, 1, (.c (.int .i64 0))), (1, 1, 1, (.t 16))], none, []⟩,
      ⟨none, .store 23 2 (.t 4) (.t 17), none, []⟩])
    .ret)))
  modes := [.lend, .lend]
  rets := [⟨4, some (true, 2)⟩] }

/-- loop.example/g00539/spec.FeedMeter -/
def v36 : VFun := {
  code :=
    (.seq
    (.region false [1, 2, 4] [
      ⟨some 2, .box 30 (.t 0), none, []⟩,
      ⟨some 4, .alloc 34 [(.val (.int .i64 0)), (.val (.bool false)), (.val (.int .i64 0)), (.val (.int .i64 0)), (.val (.int .i64 0)), (.val (.int .i64 0)), (.val (.int .i64 0)), (.val (.int .i64 0)), (.val (.int .i64 0))], none, []⟩])
    (.seq
    (.seq
    (.region false [1, 2, 4, 5] [
      ⟨some 6, .call 59 [(.t 2)], none, []⟩,
      ⟨some 5, .asg (.t 6), none, []⟩])
    (.seq
    (.region false [1, 2, 4, 5, 8] [
      ⟨some 7, .mov (.t 5), none, []⟩,
      ⟨some 8, .bin false .neq 2 (.t 7) (.c (.int .i64 0)), none, []⟩])
    (.cond (.t 8)
      (.seq
      (.region false [4] [
        ⟨some 9, .mov (.t 5), none, []⟩,
        ⟨some 10, .build 34 [(.val (.int .i64 0)), (.val (.bool false)), (.val (.int .i64 0)), (.val (.int .i64 0)), (.val (.int .i64 0)), (.val (.int .i64 0)), (.val (.int .i64 0)), (.val (.int .i64 0)), (.val (.int .i64 0))] [(0, 0, 1, (.t 9))], none, []⟩,
        ⟨none, .store 34 9 (.t 4) (.t 10), none, []⟩])
      .ret)
      .skip)))
    (.seq
    (.seq
    (.region false [1, 2, 4, 15] [
      ⟨some 11, .mov (.t 1), none, []⟩,
      ⟨some 12, .fa 30 6 6 1 (.t 2), none, []⟩,
      ⟨some 13, .load 2 false 1 (.t 12), none, []⟩,
      ⟨some 14, .call 57 [(.t 11), (.t 13), (.c (.int .i64 99999))], none, []⟩,
      ⟨some 15, .un .not (.t 14), none, []⟩])
    (.cond (.t 15)
      (.seq
      (.region false [4] [
        ⟨some 16, .build 34 [(.val (.int .i64 0)), (.val (.bool false)), (.val (.int .i64 0)), (.val (.int .i64 0)), (.val (.int .i64 0)), (.val (.int .i64 0)), (.val (.int .i64 0)), (.val (.int .i64 0)), (.val (.int .i64 0))] [(0, 0, 1, (.c (.int .i64 3)))], none, []⟩,
        ⟨none, .store 34 9 (.t 4) (.t 16), none, []⟩])
      .ret)
      .skip))
    (.seq
    (.region false [4] [
      ⟨some 17, .load 30 true 7 (.t 2), none, []⟩,
      ⟨some 18, .mov (.t 1), none, []⟩,
      ⟨some 19, .call 73 [(.t 17), (.t 18)], none, []⟩,
      ⟨none, .store 34 9 (.t 4) (.t 19), none, []⟩])
    .ret))))
  modes := [.lend, .lend]
  rets := [⟨4, some (true, 9)⟩] }

/-- loop.example/g00539/impl.FeedMeter -/
def v37 : VFun := {
  code :=
    (.seq
    (.region false [1, 2, 4] [
      ⟨some 2, .box 30 (.t 0), none, []⟩,
      ⟨some 4, .alloc 34 [(.val (.int .i64 0)), (.val (.bool false)), (.val (.int .i64 0)), (.val (.int .i64 0)), (.val (.int .i64 0)), (.val (.int .i64 0)), (.val (.int .i64 0)), (.val (.int .i64 0)), (.val (.int .i64 0))], none, []⟩])
    (.seq
    (.seq
    (.region false [1, 2, 4, 14] [
      ⟨some 5, .load 30 true 7 (.t 2), none, []⟩,
      ⟨some 6, .call 20 [(.t 5)], none, []⟩,
      ⟨some 7, .bin false .neq 2 (.t 6) (.c (.int .i64 0)), none, []⟩,
      ⟨some 8, .mov (.t 7), none, []⟩,
      ⟨some 9, .mov (.t 1), some (8, false), []⟩,
      ⟨some 10, .fa 30 6 6 1 (.t 2), some (8, false), []⟩,
      ⟨some 11, .load 2 false 1 (.t 10), some (8, false), []⟩,
      ⟨some 12, .call 60 [(.t 9), (.t 11), (.c (.int .i64 99999))], some (8, false), []⟩,
      ⟨some 13, .un .not (.t 12), some (8, false), []⟩,
      ⟨some 14, .pick (.t 8) (.c (.bool true)) (.t 13), none, []⟩])
    (.cond (.t 14)
      (.seq
      (.region false [4] [
        ⟨some 15, .build 34 [(.val (.int .i64 0)), (.val (.bool false)), (.val (.int .i64 0)), (.val (.int .i64 0)), (.val (.int .i64 0)), (.val (.int .i64 0)), (.val (.int .i64 0)), (.val (.int .i64 0)), (.val (.int .i64 0))] [(0, 0, 1, (.c (.int .i64 3)))], none, []⟩,
        ⟨none, .store 34 9 (.t 4) (.t 15), none, []⟩])
      .ret)
      .skip))
    (.seq
    (.seq
    (.region false [1, 2, 4] [
      ⟨some 16, .fa 30 5 5 1 (.t 2), none, []⟩,
      ⟨some 17, .load 2 false 1 (.t 16), none, []⟩,
      ⟨some 18, .bin false .add 2 (.t 17) (.c (.int .i64 1)), none, []⟩,
      ⟨some 19, .fa 30 5 5 1 (.t 2), none, []⟩,
      ⟨none, .store 2 1 (.t 19) (.t 18), none, []⟩])
    (.seq
    (.region false [1, 2, 4, 24] [
      ⟨some 20, .fa 30 5 5 1 (.t 2), none, []⟩,
      ⟨some 21, .load 2 false 1 (.t 20), none, []⟩,
      ⟨some 22, .fa 30 4 4 1 (.t 2), none, []⟩,
      ⟨some 23, .load 2 false 1 (.t 22), none, []⟩,
      ⟨some 24, .bin false .lss 2 (.t 21) (.t 23), none, []⟩])
    (.cond (.t 24)
      (.seq
      (.region false [4] [
        ⟨some 25, .load 30 true 7 (.t 2), none, []⟩,
        ⟨some 26, .build 34 [(.val (.int .i64 0)), (.val (.bool false)), (.val (.int .i64 0)), (.val (.int .i64 0)), (.val (.int .i64 0)), (.val (.int .i64 0)), (.val (.int .i64 0)), (.val (.int .i64 0)), (.val (.int .i64 0))] [(2, 2, 7, (.t 25))], none, []⟩,
        ⟨none, .store 34 9 (.t 4) (.t 26), none, []⟩])
      .ret)
      .skip)))
    (.seq
    (.region false [2, 4] [
      ⟨some 27, .load 30 true 7 (.t 2), none, []⟩,
      ⟨some 28, .mov (.t 1), none, []⟩,
      ⟨some 29, .fa 30 6 6 1 (.t 2), none, []⟩,
      ⟨some 30, .load 2 false 1 (.t 29), none, []⟩,
      ⟨some 31, .bin false .sub 2 (.t 28) (.t 30), none, []⟩,
      ⟨some 32, .call 67 [(.t 27), (.t 31)], none, []⟩,
      ⟨some 33, .mov (.t 1), none, []⟩,
      ⟨some 34, .fa 30 0 0 1 (.t 2), none, []⟩,
      ⟨none, .store 2 1 (.t 34) (.t 32), none, []⟩,
      ⟨some 35, .fa 30 5 5 1 (.t 2), none, []⟩,
      ⟨none, .store 2 1 (.t 35) (.c (.int .i64 0)), none, []⟩,
      ⟨some 36, .fa 30 6 6 1 (.t 2), none, []⟩,
      ⟨none, .store 2 1 (.t 36) (.t 33), none, []⟩])
    (.seq
    (.region false [4] [
      ⟨some 37, .load 30 true 7 (.t 2), none, []⟩,
      ⟨some 38, .build 34 [(.val (.int .i64 0)), (.val (.bool false)), (.val (.int .i64 0)), (.val (.int .i64 0)), (.val (.int .i64 0)), (.val (.int .i64 0)), (.val (.int .i64 0)), (.val (.int .i64 0)), (.val (.int .i64 0))] [(0, 0, 1, (.c (.int .i64 0))), (1, 1, 1, (.c (.bool true))), (2, 2, 7, (.t 37))], none, []⟩,
      ⟨none, .store 34 9 (.t 4) (.t 38), none, []⟩])
    .ret)))))
  modes := [.lend, .lend]
  rets := [⟨4, some (true, 9)⟩] }

/-- loop.example/g00539/laws.lwBig -/
def v38 : VFun := {
  code :=
    (.seq
    (.region false [0] [
      ⟨some 2, .asg (.c (.bool false)), none, []⟩])
    (.seq
    (.region false [2] [
      ⟨some 3, .mov (.t 0), none, []⟩,
      ⟨some 4, .len false 38 (.t 3), none, []⟩,
      ⟨some 5, .bin false .gtr 3 (.t 4) (.c (.int .i64 1048576)), none, []⟩,
      ⟨some 2, .asg (.t 5), none, []⟩])
    .ret))
  modes := [.lend]
  rets := [⟨2, none⟩] }

/-- loop.example/g00539/spec.DrawNextLevel -/
def v52 : VFun := {
  code :=
    (.seq
    (.region false [0, 2] [
      ⟨some 2, .alloc 30 [(.val (.int .i64 0)), (.val (.int .i64 0)), (.val (.int .i64 0)), (.val (.int .i64 0)), (.val (.int .i64 0)), (.val (.int .i64 0)), (.val (.int .i64 0))], none, []⟩,
      ⟨some 3, .asg (.c (.int .i64 0)), none, []⟩])
    (.seq
    (.region false [0, 2, 4, 5, 6] [
      ⟨some 5, .mov (.t 0), none, []⟩,
      ⟨some 6, .call 74 [(.t 5)], none, []⟩,
      ⟨some 4, .asg (.t 6), none, []⟩])
    (.seq
    (.region false [2, 3] [
      ⟨some 7, .mov (.t 4), none, []⟩,
      ⟨some 8, .call 75 [(.t 7)], none, []⟩,
      ⟨some 9, .mov (.t 4), none, []⟩,
      ⟨some 10, .mov (.t 4), none, []⟩,
      ⟨some 11, .call 85 [(.t 10), (.c (.int .i64 500))], none, []⟩,
      ⟨some 12, .mov (.t 4), none, []⟩,
      ⟨some 13, .call 85 [(.t 12), (.c (.int .i64 100000))], none, []⟩,
      ⟨some 14, .lit 60 2 1 7 [(.val (.int .i64 0))] [(0, (.c (.int .i64 0))), (1, (.c (.int .i64 1))), (2, (.c (.int .i64 10))), (3, (.t 11)), (4, (.t 13)), (5, (.c (.int .i64 99999))), (6, (.c (.int .i64 100000)))], none, []⟩,
      ⟨some 15, .call 76 [(.t 9), (.t 14)], none, []⟩,
      ⟨none, .store 30 7 (.t 2) (.t 8), none, []⟩,
      ⟨some 3, .asg (.t 15), none, []⟩])
    .ret)))
  modes := [.lend]
  rets := [⟨2, some (true, 7)⟩, ⟨3, none⟩] }

/-- loop.example/g00539/spec.DrawFeedMeter -/
def v53 : VFun := {
  code :=
    (.seq
    (.region false [0, 2] [
      ⟨some 2, .alloc 30 [(.val (.int .i64 0)), (.val (.int .i64 0)), (.val (.int .i64 0)), (.val (.int .i64 0)), (.val (.int .i64 0)), (.val (.int .i64 0)), (.val (.int .i64 0))], none, []⟩,
      ⟨some 3, .asg (.c (.int .i64 0)), none, []⟩])
    (.seq
    (.region false [0, 2, 4, 5, 6] [
      ⟨some 5, .mov (.t 0), none, []⟩,
      ⟨some 6, .call 74 [(.t 5)], none, []⟩,
      ⟨some 4, .asg (.t 6), none, []⟩])
    (.seq
    (.region false [2, 3] [
      ⟨some 7, .mov (.t 4), none, []⟩,
      ⟨some 8, .call 75 [(.t 7)], none, []⟩,
      ⟨some 9, .mov (.t 4), none, []⟩,
      ⟨some 10, .mov (.t 4), none, []⟩,
      ⟨some 11, .call 85 [(.t 10), (.c (.int .i64 500))], none, []⟩,
      ⟨some 12, .lit 60 2 1 6 [(.val (.int .i64 0))] [(0, (.c (.int .i64 50))), (1, (.c (.int .i64 60))), (2, (.t 11)), (3, (.c (.int .i64 99999))), (4, (.c (.int .i64 100000))), (5, (.c (.int .i64 3)))], none, []⟩,
      ⟨some 13, .call 76 [(.t 9), (.t 12)], none, []⟩,
      ⟨none, .store 30 7 (.t 2) (.t 8), none, []⟩,
      ⟨some 3, .asg (.t 13), none, []⟩])
    .ret)))
  modes := [.lend]
  rets := [⟨2, some (true, 7)⟩, ⟨3, none⟩] }

/-- loop.example/g00539/spec.DrawNewMeter -/
def v54 : VFun := {
  code :=
    (.seq
    (.region false [0] [
      ⟨some 2, .asg (.c (.int .i64 0)), none, []⟩,
      ⟨some 3, .asg (.c (.int .i64 0)), none, []⟩,
      ⟨some 4, .asg (.c (.int .i64 0)), none, []⟩,
      ⟨some 5, .asg (.c (.int .i64 0)), none, []⟩])
    (.seq
    (.region false [0, 6, 7, 8] [
      ⟨some 7, .mov (.t 0), none, []⟩,
      ⟨some 8, .call 74 [(.t 7)], none, []⟩,
      ⟨some 6, .asg (.t 8), none, []⟩])
    (.seq
    (.region false [2, 3, 4, 5] [
      ⟨some 9, .mov (.t 6), none, []⟩,
      ⟨some 10, .lit 60 2 1 3 [(.val (.int .i64 0))] [(0, (.c (.int .i64 1))), (1, (.c (.int .i64 5))), (2, (.c (.int .i64 0)))], none, []⟩,
      ⟨some 11, .call 76 [(.t 9), (.t 10)], none, []⟩,
      ⟨some 12, .mov (.t 6), none, []⟩,
      ⟨some 13, .lit 60 2 1 3 [(.val (.int .i64 0))] [(0, (.c (.int .i64 5))), (1, (.c (.int .i64 9999))), (2, (.c (.int .i64 3)))], none, []⟩,
      ⟨some 14, .call 76 [(.t 12), (.t 13)], none, []⟩,
      ⟨some 15, .mov (.t 6), none, []⟩,
      ⟨some 16, .lit 60 2 1 3 [(.val (.int .i64 0))] [(0, (.c (.int .i64 1))), (1, (.c (.int .i64 999))), (2, (.c (.int .i64 1000)))], none, []⟩,
      ⟨some 17, .call 76 [(.t 15), (.t 16)], none, []⟩,
      ⟨some 18, .mov (.t 6), none, []⟩,
      ⟨some 19, .lit 60 2 1 3 [(.val (.int .i64 0))] [(0, (.c (.int .i64 1))), (1, (.c (.int .i64 99))), (2, (.c (.int .i64 0)))], none, []⟩,
      ⟨some 20, .call 76 [(.t 18), (.t 19)], none, []⟩,
      ⟨some 2, .asg (.t 11), none, []⟩,
      ⟨some 3, .asg (.t 14), none, []⟩,
      ⟨some 4, .asg (.t 17), none, []⟩,
      ⟨some 5, .asg (.t 20), none, []⟩])
    .ret)))
  modes := [.lend]
  rets := [⟨2, none⟩, ⟨3, none⟩, ⟨4, none⟩, ⟨5, none⟩] }

/-- loop.example/g00539/spec.l1In -/
def v57 : VFun := {
  code :=
    (.seq
    (.region false [0, 1, 2] [
      ⟨some 6, .asg (.c (.bool false)), none, []⟩])
    (.seq
    (.region false [6] [
      ⟨some 7, .mov (.t 0), none, []⟩,
      ⟨some 8, .mov (.t 1), none, []⟩,
      ⟨some 9, .bin false .geq 2 (.t 7) (.t 8), none, []⟩,
      ⟨some 10, .mov (.t 9), none, []⟩,
      ⟨some 11, .mov (.t 0), some (10, true), []⟩,
      ⟨some 12, .mov (.t 2), some (10, true), []⟩,
      ⟨some 13, .bin false .leq 2 (.t 11) (.t 12), some (10, true), []⟩,
      ⟨some 14, .pick (.t 10) (.t 13) (.c (.bool false)), none, []⟩,
      ⟨some 6, .asg (.t 14), none, []⟩])
    .ret))
  modes := [.lend, .lend, .lend]
  rets := [⟨6, none⟩] }

/-- loop.example/g00539/impl.isLevel -/
def v58 : VFun := {
  code :=
    (.seq
    (.region false [0] [
      ⟨some 2, .asg (.c (.bool false)), none, []⟩])
    (.seq
    (.region false [2] [
      ⟨some 3, .mov (.t 0), none, []⟩,
      ⟨some 4, .call 60 [(.t 3), (.c (.int .i64 1)), (.c (.int .i64 9999))], none, []⟩,
      ⟨some 2, .asg (.t 4), none, []⟩])
    .ret))
  modes := [.lend]
  rets := [⟨2, none⟩] }

/-- loop.example/g00539/spec.l12Fault -/
def v59 : VFun := {
  code :=
    (.seq
    (.region false [0] [
      ⟨some 2, .asg (.c (.int .i64 0)), none, []⟩])
    (.seq
    (.seq
    (.region true [73] [
      ⟨some 3, .mov (.t 0), none, []⟩,
      ⟨some 4, .nilc (.t 3), none, []⟩,
      ⟨some 5, .fa 30 1 1 1 (.t 4), none, []⟩,
      ⟨some 6, .load 2 false 1 (.t 5), none, []⟩,
      ⟨some 7, .call 57 [(.t 6), (.c (.int .i64 1)), (.c (.int .i64 9999))], none, []⟩,
      ⟨some 8, .un .not (.t 7), none, []⟩,
      ⟨some 9, .mov (.t 8), none, []⟩,
      ⟨some 10, .mov (.t 0), some (9, false), []⟩,
      ⟨some 11, .nilc (.t 10), some (9, false), []⟩,
      ⟨some 12, .fa 30 2 2 1 (.t 11), some (9, false), []⟩,
      ⟨some 13, .load 2 false 1 (.t 12), some (9, false), []⟩,
      ⟨some 14, .mov (.t 0), some (9, false), [7, 8, 9, 10]⟩,
      ⟨some 15, .nilc (.t 14), some (9, false), [7, 8, 9, 10]⟩,
      ⟨some 16, .fa 30 1 1 1 (.t 15), some (9, false), [7, 8, 9, 10]⟩,
      ⟨some 17, .load 2 false 1 (.t 16), some (9, false), [7, 8, 9, 10]⟩,
      ⟨some 18, .call 57 [(.t 13), (.t 17), (.c (.int .i64 9999))], some (9, false), []⟩,
      ⟨some 19, .un .not (.t 18), some (9, false), []⟩,
      ⟨some 20, .pick (.t 9) (.c (.bool true)) (.t 19), none, []⟩,
      ⟨some 21, .mov (.t 20), none, []⟩,
      ⟨some 22, .mov (.t 0), some (21, false), []⟩,
      ⟨some 23, .nilc (.t 22), some (21, false), []⟩,
      ⟨some 24, .fa 30 0 0 1 (.t 23), some (21, false), []⟩,
      ⟨some 25, .load 2 false 1 (.t 24), some (21, false), []⟩,
      ⟨some 26, .mov (.t 0), some (21, false), [19, 20, 21, 22]⟩,
      ⟨some 27, .nilc (.t 26), some (21, false), [19, 20, 21, 22]⟩,
      ⟨some 28, .fa 30 1 1 1 (.t 27), some (21, false), [19, 20, 21, 22]⟩,
      ⟨some 29, .load 2 false 1 (.t 28), some (21, false), [19, 20, 21, 22]⟩,
      ⟨some 30, .mov (.t 0), some (21, false), [19, 20, 21, 22, 23, 24, 25, 26]⟩,
      ⟨some 31, .nilc (.t 30), some (21, false), [19, 20, 21, 22, 23, 24, 25, 26]⟩,
      ⟨some 32, .fa 30 2 2 1 (.t 31), some (21, false), [19, 20, 21, 22, 23, 24, 25, 26]⟩,
      ⟨some 33, .load 2 false 1 (.t 32), some (21, false), [19, 20, 21, 22, 23, 24, 25, 26]⟩,
      ⟨some 34, .call 57 [(.t 25), (.t 29), (.t 33)], some (21, false), []⟩,
      ⟨some 35, .un .not (.t 34), some (21, false), []⟩,
      ⟨some 36, .pick (.t 21) (.c (.bool true)) (.t 35), none, []⟩,
      ⟨some 37, .mov (.t 36), none, []⟩,
      ⟨some 38, .mov (.t 0), some (37, false), []⟩,
      ⟨some 39, .nilc (.t 38), some (37, false), []⟩,
      ⟨some 40, .fa 30 3 3 1 (.t 39), some (37, false), []⟩,
      ⟨some 41, .load 2 false 1 (.t 40), some (37, false), []⟩,
      ⟨some 42, .call 57 [(.t 41), (.c (.int .i64 1)), (.c (.int .i64 999))], some (37, false), []⟩,
      ⟨some 43, .un .not (.t 42), some (37, false), []⟩,
      ⟨some 44, .pick (.t 37) (.c (.bool true)) (.t 43), none, []⟩,
      ⟨some 45, .mov (.t 44), none, []⟩,
      ⟨some 46, .mov (.t 0), some (45, false), []⟩,
      ⟨some 47, .nilc (.t 46), some (45, false), []⟩,
      ⟨some 48, .fa 30 4 4 1 (.t 47), some (45, false), []⟩,
      ⟨some 49, .load 2 false 1 (.t 48), some (45, false), []⟩,
      ⟨some 50, .call 57 [(.t 49), (.c (.int .i64 1)), (.c (.int .i64 99))], some (45, false), []⟩,
      ⟨some 51, .un .not (.t 50), some (45, false), []⟩,
      ⟨some 52, .pick (.t 45) (.c (.bool true)) (.t 51), none, []⟩,
      ⟨some 53, .mov (.t 52), none, []⟩,
      ⟨some 54, .mov (.t 0), some (53, false), []⟩,
      ⟨some 55, .nilc (.t 54), some (53, false), []⟩,
      ⟨some 56, .fa 30 5 5 1 (.t 55), some (53, false), []⟩,
      ⟨some 57, .load 2 false 1 (.t 56), some (53, false), []⟩,
      ⟨some 58, .mov (.t 0), some (53, false), [51, 52, 53, 54]⟩,
      ⟨some 59, .nilc (.t 58), some (53, false), [51, 52, 53, 54]⟩,
      ⟨some 60, .fa 30 4 4 1 (.t 59), some (53, false), [51, 52, 53, 54]⟩,
      ⟨some 61, .load 2 false 1 (.t 60), some (53, false), [51, 52, 53, 54]⟩,
      ⟨some 62, .bin false .sub 2 (.t 61) (.c (.int .i64 1)), some (53, false), [51, 52, 53, 54]⟩,
      ⟨some 63, .call 57 [(.t 57), (.c (.int .i64 0)), (.t 62)], some (53, false), []⟩,
      ⟨some 64, .un .not (.t 63), some (53, false), []⟩,
      ⟨some 65, .pick (.t 53) (.c (.bool true)) (.t 64), none, []⟩,
      ⟨some 66, .mov (.t 65), none, []⟩,
      ⟨some 67, .mov (.t 0), some (66, false), []⟩,
      ⟨some 68, .nilc (.t 67), some (66, false), []⟩,
      ⟨some 69, .fa 30 6 6 1 (.t 68), some (66, false), []⟩,
      ⟨some 70, .load 2 false 1 (.t 69), some (66, false), []⟩,
      ⟨some 71, .call 57 [(.t 70), (.c (.int .i64 0)), (.c (.int .i64 99999))], some (66, false), []⟩,
      ⟨some 72, .un .not (.t 71), some (66, false), []⟩,
      ⟨some 73, .pick (.t 66) (.c (.bool true)) (.t 72), none, []⟩])
    (.cond (.t 73)
      (.seq
      (.region false [2] [
        ⟨some 2, .asg (.c (.int .i64 3)), none, []⟩])
      .ret)
      .skip))
    (.seq
    (.region false [2] [
      ⟨some 2, .asg (.c (.int .i64 0)), none, []⟩])
    .ret)))
  modes := [.lend]
  rets := [⟨2, none⟩] }

/-- loop.example/g00539/impl.in -/
def v60 : VFun := {
  code :=
    (.seq
    (.region false [0, 1, 2] [
      ⟨some 6, .asg (.c (.bool false)), none, []⟩])
    (.seq
    (.region false [6] [
      ⟨some 7, .mov (.t 0), none, []⟩,
      ⟨some 8, .mov (.t 1), none, []⟩,
      ⟨some 9, .bin false .geq 2 (.t 7) (.t 8), none, []⟩,
      ⟨some 10, .mov (.t 9), none, []⟩,
      ⟨some 11, .mov (.t 0), some (10, true), []⟩,
      ⟨some 12, .mov (.t 2), some (10, true), []⟩,
      ⟨some 13, .bin false .leq 2 (.t 11) (.t 12), some (10, true), []⟩,
      ⟨some 14, .pick (.t 10) (.t 13) (.c (.bool false)), none, []⟩,
      ⟨some 6, .asg (.t 14), none, []⟩])
    .ret))
  modes := [.lend, .lend, .lend]
  rets := [⟨6, none⟩] }

/-- loop.example/g00539/spec.l12Next -/
def v66 : VFun := {
  code :=
    (.seq
    (.region false [0, 1] [
      ⟨some 4, .asg (.c (.int .i64 0)), none, []⟩])
    (.seq
    (.region true [0, 5] [
      ⟨some 6, .mov (.t 0), none, []⟩,
      ⟨some 7, .nilc (.t 6), none, []⟩,
      ⟨some 8, .fa 30 0 0 1 (.t 7), none, []⟩,
      ⟨some 9, .load 2 false 1 (.t 8), none, []⟩,
      ⟨some 10, .mov (.t 0), none, [0, 1, 2, 3]⟩,
      ⟨some 11, .nilc (.t 10), none, [0, 1, 2, 3]⟩,
      ⟨some 12, .fa 30 4 4 1 (.t 11), none, [0, 1, 2, 3]⟩,
      ⟨some 13, .load 2 false 1 (.t 12), none, [0, 1, 2, 3]⟩,
      ⟨some 14, .bin false .mul 2 (.t 9) (.t 13), none, []⟩,
      ⟨some 15, .mov (.t 0), none, [0, 1, 2, 3, 4, 5, 6, 7, 8]⟩,
      ⟨some 16, .nilc (.t 15), none, [0, 1, 2, 3, 4, 5, 6, 7, 8]⟩,
      ⟨some 17, .fa 30 3 3 1 (.t 16), none, [0, 1, 2, 3, 4, 5, 6, 7, 8]⟩,
      ⟨some 18, .load 2 false 1 (.t 17), none, [0, 1, 2, 3, 4, 5, 6, 7, 8]⟩,
      ⟨some 19, .bin false .mul 2 (.t 14) (.t 18), none, []⟩,
      ⟨some 20, .mov (.t 1), none, [0, 1, 2, 3, 4, 5, 6, 7, 8, 9, 10, 11, 12, 13]⟩,
      ⟨some 21, .call 87 [(.c (.int .i64 1)), (.t 20)], none, [0, 1, 2, 3, 4, 5, 6, 7, 8, 9, 10, 11, 12, 13]⟩,
      ⟨some 22, .bin false .quo 2 (.t 19) (.t 21), none, []⟩,
      ⟨some 5, .asg (.t 22), none, []⟩])
    (.seq
    (.region true [0, 5] [
      ⟨some 23, .mov (.t 0), none, []⟩,
      ⟨some 24, .nilc (.t 23), none, []⟩,
      ⟨some 25, .fa 30 0 0 1 (.t 24), none, []⟩,
      ⟨some 26, .load 2 false 1 (.t 25), none, []⟩,
      ⟨some 27, .bin false .mul 2 (.c (.int .i64 4)) (.t 26), none, []⟩,
      ⟨some 28, .mov (.t 0), none, [0, 1, 2, 3, 4]⟩,
      ⟨some 29, .nilc (.t 28), none, [0, 1, 2, 3, 4]⟩,
      ⟨some 30, .fa 30 0 0 1 (.t 29), none, [0, 1, 2, 3, 4]⟩,
      ⟨some 31, .load 2 false 1 (.t 30), none, [0, 1, 2, 3, 4]⟩,
      ⟨some 32, .bin false .add 2 (.t 31) (.c (.int .i64 3)), none, [0, 1, 2, 3, 4]⟩,
      ⟨some 33, .bin false .quo 2 (.t 32) (.c (.int .i64 4)), none, [0, 1, 2, 3, 4]⟩,
      ⟨some 34, .mov (.t 5), none, [0, 1, 2, 3, 4, 5, 6, 7, 8, 9, 10]⟩,
      ⟨some 35, .call 87 [(.t 33), (.t 34)], none, [0, 1, 2, 3, 4]⟩,
      ⟨some 36, .call 77 [(.t 27), (.t 35)], none, []⟩,
      ⟨some 5, .asg (.t 36), none, []⟩])
    (.seq
    (.region true [4] [
      ⟨some 37, .mov (.t 0), none, []⟩,
      ⟨some 38, .nilc (.t 37), none, []⟩,
      ⟨some 39, .fa 30 2 2 1 (.t 38), none, []⟩,
      ⟨some 40, .load 2 false 1 (.t 39), none, []⟩,
      ⟨some 41, .mov (.t 0), none, [0, 1, 2, 3]⟩,
      ⟨some 42, .nilc (.t 41), none, [0, 1, 2, 3]⟩,
      ⟨some 43, .fa 30 1 1 1 (.t 42), none, [0, 1, 2, 3]⟩,
      ⟨some 44, .load 2 false 1 (.t 43), none, [0, 1, 2, 3]⟩,
      ⟨some 45, .mov (.t 5), none, [0, 1, 2, 3, 4, 5, 6, 7]⟩,
      ⟨some 46, .call 87 [(.t 44), (.t 45)], none, [0, 1, 2, 3]⟩,
      ⟨some 47, .call 77 [(.t 40), (.t 46)], none, []⟩,
      ⟨some 4, .asg (.t 47), none, []⟩])
    .ret))))
  modes := [.lend, .lend]
  rets := [⟨4, none⟩] }

/-- loop.example/g00539/impl.nextLevel -/
def v67 : VFun := {
  code :=
    (.seq
    (.region false [1, 2] [
      ⟨some 2, .box 30 (.t 0), none, []⟩,
      ⟨some 4, .asg (.c (.int .i64 0)), none, []⟩])
    (.seq
    (.region false [2, 5] [
      ⟨some 6, .fa 30 0 0 1 (.t 2), none, []⟩,
      ⟨some 7, .load 2 false 1 (.t 6), none, []⟩,
      ⟨some 8, .fa 30 4 4 1 (.t 2), none, []⟩,
      ⟨some 9, .load 2 false 1 (.t 8), none, []⟩,
      ⟨some 10, .bin false .mul 2 (.t 7) (.t 9), none, []⟩,
      ⟨some 11, .fa 30 3 3 1 (.t 2), none, []⟩,
      ⟨some 12, .load 2 false 1 (.t 11), none, []⟩,
      ⟨some 13, .bin false .mul 2 (.t 10) (.t 12), none, []⟩,
      ⟨some 14, .mov (.t 1), none, []⟩,
      ⟨some 15, .mm true (.t 14) (.c (.int .i64 1)), none, []⟩,
      ⟨some 16, .bin false .quo 2 (.t 13) (.t 15), none, []⟩,
      ⟨some 5, .asg (.t 16), none, []⟩])
    (.seq
    (.region false [2, 5] [
      ⟨some 17, .mov (.t 5), none, []⟩,
      ⟨some 18, .fa 30 0 0 1 (.t 2), none, []⟩,
      ⟨some 19, .load 2 false 1 (.t 18), none, []⟩,
      ⟨some 20, .bin false .mul 2 (.c (.int .i64 4)) (.t 19), none, []⟩,
      ⟨some 21, .mm false (.t 17) (.t 20), none, []⟩,
      ⟨some 22, .fa 30 0 0 1 (.t 2), none, []⟩,
      ⟨some 23, .load 2 false 1 (.t 22), none, []⟩,
      ⟨some 24, .bin false .add 2 (.t 23) (.c (.int .i64 4)), none, []⟩,
      ⟨some 25, .bin false .sub 2 (.t 24) (.c (.int .i64 1)), none, []⟩,
      ⟨some 26, .bin false .quo 2 (.t 25) (.c (.int .i64 4)), none, []⟩,
      ⟨some 27, .mm true (.t 21) (.t 26), none, []⟩,
      ⟨some 5, .asg (.t 27), none, []⟩])
    (.seq
    (.region false [4] [
      ⟨some 28, .mov (.t 5), none, []⟩,
      ⟨some 29, .fa 30 2 2 1 (.t 2), none, []⟩,
      ⟨some 30, .load 2 false 1 (.t 29), none, []⟩,
      ⟨some 31, .mm false (.t 28) (.t 30), none, []⟩,
      ⟨some 32, .fa 30 1 1 1 (.t 2), none, []⟩,
      ⟨some 33, .load 2 false 1 (.t 32), none, []⟩,
      ⟨some 34, .mm true (.t 31) (.t 33), none, []⟩,
      ⟨some 4, .asg (.t 34), none, []⟩])
    .ret))))
  modes := [.lend, .lend]
  rets := [⟨4, none⟩] }

/-- loop.example/g00539/spec.l12Feed -/
def v73 : VFun := {
  code :=
    (.seq
    (.region false [1, 2, 4] [
      ⟨some 2, .box 30 (.t 0), none, []⟩,
      ⟨some 4, .alloc 34 [(.val (.int .i64 0)), (.val (.bool false)), (.val (.int .i64 0)), (.val (.int .i64 0)), (.val (.int .i64 0)), (.val (.int .i64 0)), (.val (.int .i64 0)), (.val (.int .i64 0)), (.val (.int .i64 0))], none, []⟩])
    (.seq
    (.region false [1, 2, 4] [
      ⟨some 5, .fa 30 5 5 1 (.t 2), none, []⟩,
      ⟨some 6, .load 2 false 1 (.t 5), none, []⟩,
      ⟨some 7, .bin false .add 2 (.t 6) (.c (.int .i64 1)), none, []⟩,
      ⟨some 8, .fa 30 5 5 1 (.t 2), none, []⟩,
      ⟨none, .store 2 1 (.t 8) (.t 7), none, []⟩])
    (.seq
    (.seq
    (.region false [1, 2, 4, 13] [
      ⟨some 9, .fa 30 5 5 1 (.t 2), none, []⟩,
      ⟨some 10, .load 2 false 1 (.t 9), none, []⟩,
      ⟨some 11, .fa 30 4 4 1 (.t 2), none, []⟩,
      ⟨some 12, .load 2 false 1 (.t 11), none, []⟩,
      ⟨some 13, .bin false .lss 2 (.t 10) (.t 12), none, []⟩])
    (.cond (.t 13)
      (.seq
      (.region false [4] [
        ⟨some 14, .load 30 true 7 (.t 2), none, []⟩,
        ⟨some 15, .build 34 [(.val (.int .i64 0)), (.val (.bool false)), (.val (.int .i64 0)), (.val (.int .i64 0)), (.val (.int .i64 0)), (.val (.int .i64 0)), (.val (.int .i64 0)), (.val (.int .i64 0)), (.val (.int .i64 0))] [(2, 2, 7, (.t 14))], none, []⟩,
        ⟨none, .store 34 9 (.t 4) (.t 15), none, []⟩])
      .ret)
      .skip))
    (.seq
    (.region false [1, 2, 4] [
      ⟨some 16, .mov (.t 1), none, []⟩,
      ⟨some 17, .fa 30 6 6 1 (.t 2), none, []⟩,
      ⟨some 18, .load 2 false 1 (.t 17), none, []⟩,
      ⟨some 19, .bin false .sub 2 (.t 16) (.t 18), none, []⟩,
      ⟨some 20, .call 66 [(.t 2), (.t 19)], none, []⟩,
      ⟨some 21, .fa 30 0 0 1 (.t 2), none, []⟩,
      ⟨none, .store 2 1 (.t 21) (.t 20), none, []⟩])
    (.seq
    (.region false [1, 2, 4] [
      ⟨some 22, .fa 30 5 5 1 (.t 2), none, []⟩,
      ⟨none, .store 2 1 (.t 22) (.c (.int .i64 0)), none, []⟩])
    (.seq
    (.region false [2, 4] [
      ⟨some 23, .mov (.t 1), none, []⟩,
      ⟨some 24, .fa 30 6 6 1 (.t 2), none, []⟩,
      ⟨none, .store 2 1 (.t 24) (.t 23), none, []⟩])
    (.seq
    (.region false [4] [
      ⟨some 25, .load 30 true 7 (.t 2), none, []⟩,
      ⟨some 26, .build 34 [(.val (.int .i64 0)), (.val (.bool false)), (.val (.int .i64 0)), (.val (.int .i64 0)), (.val (.int .i64 0)), (.val (.int .i64 0)), (.val (.int .i64 0)), (.val (.int .i64 0)), (.val (.int .i64 0))] [(1, 1, 1, (.c (.bool true))), (2, 2, 7, (.t 25))], none, []⟩,
      ⟨none, .store 34 9 (.t 4) (.t 26), none, []⟩])
    .ret)))))))
  modes := [.lend, .lend]
  rets := [⟨4, some (true, 9)⟩] }

/-- loop.example/g00539/spec.l1Source -/
def v74 : VFun := {
  code :=
    (.seq
    (.region false [0] [
      ⟨some 2, .asg (.c (.pointer none)), none, []⟩])
    (.seq
    (.region false [2, 5] [
      ⟨some 3, .mov (.t 0), none, []⟩,
      ⟨some 4, .build 110 [(.nl 1), (.val (.int .i64 0))] [(0, 0, 1, (.t 3))], none, []⟩,
      ⟨some 5, .box 110 (.t 4), none, []⟩,
      ⟨some 2, .asg (.t 5), none, []⟩])
    .ret))
  modes := [.lend]
  rets := [⟨2, none⟩] }

/-- loop.example/g00539/spec.l12Bent -/
def v75 : VFun := {
  code :=
    (.seq
    (.region false [0, 2] [
      ⟨some 2, .alloc 30 [(.val (.int .i64 0)), (.val (.int .i64 0)), (.val (.int .i64 0)), (.val (.int .i64 0)), (.val (.int .i64 0)), (.val (.int .i64 0)), (.val (.int .i64 0))], none, []⟩])
    (.seq
    (.region false [0, 2, 3] [
      ⟨some 4, .mov (.t 0), none, []⟩,
      ⟨some 5, .call 92 [(.t 4)], none, []⟩,
      ⟨some 3, .alloc 30 [(.val (.int .i64 0)), (.val (.int .i64 0)), (.val (.int .i64 0)), (.val (.int .i64 0)), (.val (.int .i64 0)), (.val (.int .i64 0)), (.val (.int .i64 0))], none, []⟩,
      ⟨none, .store 30 7 (.t 3) (.t 5), none, []⟩])
    (.seq
    (.seq
    (.region false [0, 2, 3, 7] [
      ⟨some 6, .mov (.t 0), none, []⟩,
      ⟨some 7, .call 85 [(.t 6), (.c (.int .i64 12))], none, []⟩])
    (.block 0
      (.seq
      (.region false [0, 2, 3, 7, 8] [
        ⟨some 9, .bin false .eql 2 (.t 7) (.c (.int .i64 0)), none, []⟩,
        ⟨some 8, .asg (.t 9), none, []⟩])
      (.cond (.t 8)
        (.region false [0, 2, 3] [
          ⟨some 10, .mov (.t 0), none, []⟩,
          ⟨some 11, .lit 60 2 1 2 [(.val (.int .i64 0))] [(0, (.c (.int .i64 0))), (1, (.c (.int .i64 10000)))], none, []⟩,
          ⟨some 12, .call 76 [(.t 10), (.t 11)], none, []⟩,
          ⟨some 13, .fa 30 0 0 1 (.t 3), none, []⟩,
          ⟨none, .store 2 1 (.t 13) (.t 12), none, []⟩])
        (.seq
        (.region false [0, 2, 3, 7, 14] [
          ⟨some 15, .bin false .eql 2 (.t 7) (.c (.int .i64 1)), none, []⟩,
          ⟨some 14, .asg (.t 15), none, []⟩])
        (.cond (.t 14)
          (.region false [0, 2, 3] [
            ⟨some 16, .mov (.t 0), none, []⟩,
            ⟨some 17, .fa 30 4 4 1 (.t 3), none, []⟩,
            ⟨some 18, .load 2 false 1 (.t 17), none, []⟩,
            ⟨some 19, .lit 60 2 1 2 [(.val (.int .i64 0))] [(0, (.c (.int .i64 (-1)))), (1, (.t 18))], none, []⟩,
            ⟨some 20, .call 76 [(.t 16), (.t 19)], none, []⟩,
            ⟨some 21, .fa 30 5 5 1 (.t 3), none, []⟩,
            ⟨none, .store 2 1 (.t 21) (.t 20), none, []⟩])
          (.seq
          (.region false [0, 2, 3, 7, 22] [
            ⟨some 23, .bin false .eql 2 (.t 7) (.c (.int .i64 2)), none, []⟩,
            ⟨some 22, .asg (.t 23), none, []⟩])
          (.cond (.t 22)
            (.region false [0, 2, 3] [
              ⟨some 24, .mov (.t 0), none, []⟩,
              ⟨some 25, .lit 60 2 1 2 [(.val (.int .i64 0))] [(0, (.c (.int .i64 0))), (1, (.c (.int .i64 1000)))], none, []⟩,
              ⟨some 26, .call 76 [(.t 24), (.t 25)], none, []⟩,
              ⟨some 27, .fa 30 3 3 1 (.t 3), none, []⟩,
              ⟨none, .store 2 1 (.t 27) (.t 26), none, []⟩])
            (.seq
            (.region false [0, 2, 3, 28] [
              ⟨some 29, .bin false .eql 2 (.t 7) (.c (.int .i64 3)), none, []⟩,
              ⟨some 28, .asg (.t 29), none, []⟩])
            (.cond (.t 28)
              (.region false [0, 2, 3] [
                ⟨some 30, .mov (.t 0), none, []⟩,
                ⟨some 31, .lit 60 2 1 2 [(.val (.int .i64 0))] [(0, (.c (.int .i64 0))), (1, (.c (.int .i64 10000)))], none, []⟩,
                ⟨some 32, .call 76 [(.t 30), (.t 31)], none, []⟩,
                ⟨some 33, .fa 30 2 2 1 (.t 3), none, []⟩,
                ⟨none, .store 2 1 (.t 33) (.t 32), none, []⟩])
              .skip))))))))))
    (.seq
    (.region false [0, 2] [
      ⟨some 34, .load 30 true 7 (.t 3), none, []⟩,
      ⟨none, .store 30 7 (.t 2) (.t 34), none, []⟩])
    .ret))))
  modes := [.io]
  rets := [⟨2, some (true, 7)⟩] }

/-- loop.example/g00539/spec.l1Pick -/
def v76 : VFun := {
  code :=
    (.seq
    (.region false [0, 1] [
      ⟨some 4, .asg (.c (.int .i64 0)), none, []⟩])
    (.seq
    (.region false [0, 4] [
      ⟨some 5, .mov (.t 1), none, []⟩,
      ⟨some 6, .mov (.t 0), none, []⟩,
      ⟨some 7, .mov (.t 1), none, []⟩,
      ⟨some 8, .len false 60 (.t 7), none, []⟩,
      ⟨some 9, .call 85 [(.t 6), (.t 8)], none, []⟩,
      ⟨some 10, .ia 60 2 1 (.t 5) (.t 9), none, []⟩,
      ⟨some 11, .load 2 false 1 (.t 10), none, []⟩,
      ⟨some 4, .asg (.t 11), none, []⟩])
    .ret))
  modes := [.io, .lend]
  rets := [⟨4, none⟩] }

/-- loop.example/g00539/spec.l1Min -/
def v77 : VFun := {
  code :=
    (.seq
    (.region false [0, 1] [
      ⟨some 4, .asg (.c (.int .i64 0)), none, []⟩])
    (.seq
    (.seq
    (.region false [0, 1, 7] [
      ⟨some 5, .mov (.t 0), none, []⟩,
      ⟨some 6, .mov (.t 1), none, []⟩,
      ⟨some 7, .bin false .lss 2 (.t 5) (.t 6), none, []⟩])
    (.cond (.t 7)
      (.seq
      (.region false [4] [
        ⟨some 8, .mov (.t 0), none, []⟩,
        ⟨some 4, .asg (.t 8), none, []⟩])
      .ret)
      .skip))
    (.seq
    (.region false [4] [
      ⟨some 9, .mov (.t 1), none, []⟩,
      ⟨some 4, .asg (.t 9), none, []⟩])
    .ret)))
  modes := [.lend, .lend]
  rets := [⟨4, none⟩] }

/-- loop.example/g00539/spec.l1Next -/
def v85 : VFun := {
  code :=
    (.seq
    (.region false [0, 1] [
      ⟨some 4, .asg (.c (.int .i64 0)), none, []⟩])
    (.seq
    (.region false [0, 1] [
      ⟨some 8, .mov (.t 0), none, []⟩,
      ⟨some 9, .mov (.t 0), none, []⟩,
      ⟨some 10, .nilc (.t 9), none, []⟩,
      ⟨some 11, .fa 110 1 1 1 (.t 10), none, []⟩,
      ⟨some 12, .load 2 false 1 (.t 11), none, []⟩,
      ⟨some 13, .bin false .add 2 (.t 12) (.c (.int .i64 1)), none, []⟩,
      ⟨some 14, .nilc (.t 8), none, []⟩,
      ⟨some 15, .fa 110 1 1 1 (.t 14), none, []⟩,
      ⟨none, .store 2 1 (.t 15) (.t 13), none, []⟩])
    (.seq
    (.seq
    (.region false [0, 1, 17] [
      ⟨some 16, .mov (.t 1), none, []⟩,
      ⟨some 17, .bin false .lss 2 (.t 16) (.c (.int .i64 1)), none, []⟩])
    (.cond (.t 17)
      (.seq
      (.region false [0, 4] [
        ⟨some 4, .asg (.c (.int .i64 0)), none, []⟩])
      .ret)
      .skip))
    (.seq
    (.region false [0, 1, 5] [
      ⟨some 18, .mov (.t 0), none, []⟩,
      ⟨some 19, .nilc (.t 18), none, []⟩,
      ⟨some 20, .fa 110 1 1 1 (.t 19), none, []⟩,
      ⟨some 21, .load 2 false 1 (.t 20), none, []⟩,
      ⟨some 22, .bin false .sub 2 (.t 21) (.c (.int .i64 1)), none, []⟩,
      ⟨some 5, .asg (.t 22), none, []⟩])
    (.seq
    (.region false [0, 1, 5, 6] [
      ⟨some 23, .mov (.t 0), none, []⟩,
      ⟨some 24, .nilc (.t 23), none, []⟩,
      ⟨some 25, .fa 110 0 0 1 (.t 24), none, []⟩,
      ⟨some 26, .load 38 false 1 (.t 25), none, []⟩,
      ⟨some 27, .len false 38 (.t 26), none, []⟩,
      ⟨some 6, .asg (.t 27), none, []⟩])
    (.seq
    (.seq
    (.region false [0, 1, 5, 6, 29] [
      ⟨some 28, .mov (.t 6), none, []⟩,
      ⟨some 29, .bin false .eql 2 (.t 28) (.c (.int .i64 0)), none, []⟩])
    (.cond (.t 29)
      (.seq
      (.region false [0, 4] [
        ⟨some 30, .mov (.t 5), none, []⟩,
        ⟨some 31, .bin false .mul 2 (.t 30) (.c (.int .i64 7)), none, []⟩,
        ⟨some 32, .mov (.t 1), none, []⟩,
        ⟨some 33, .bin false .rem 2 (.t 31) (.t 32), none, []⟩,
        ⟨some 4, .asg (.t 33), none, []⟩])
      .ret)
      .skip))
    (.seq
    (.region true [0, 1, 5, 6, 7] [
      ⟨some 34, .mov (.t 0), none, []⟩,
      ⟨some 35, .nilc (.t 34), none, []⟩,
      ⟨some 36, .fa 110 0 0 1 (.t 35), none, []⟩,
      ⟨some 37, .load 38 false 1 (.t 36), none, []⟩,
      ⟨some 38, .mov (.t 5), none, [0, 1, 2, 3]⟩,
      ⟨some 39, .mov (.t 6), none, [0, 1, 2, 3, 4]⟩,
      ⟨some 40, .bin false .rem 2 (.t 38) (.t 39), none, [0, 1, 2, 3]⟩,
      ⟨some 41, .ia 38 5 1 (.t 37) (.t 40), none, []⟩,
      ⟨some 42, .load 5 false 1 (.t 41), none, []⟩,
      ⟨some 43, .conv 5 2 .i64 (.t 42), none, []⟩,
      ⟨some 44, .mov (.t 5), none, [0, 1, 2, 3, 4, 5, 6, 7, 8, 9]⟩,
      ⟨some 45, .mov (.t 6), none, [0, 1, 2, 3, 4, 5, 6, 7, 8, 9, 10]⟩,
      ⟨some 46, .bin false .quo 2 (.t 44) (.t 45), none, [0, 1, 2, 3, 4, 5, 6, 7, 8, 9]⟩,
      ⟨some 47, .bin false .mul 2 (.t 46) (.c (.int .i64 37)), none, [0, 1, 2, 3, 4, 5, 6, 7, 8, 9]⟩,
      ⟨some 48, .bin false .add 2 (.t 43) (.t 47), none, []⟩,
      ⟨some 7, .asg (.t 48), none, []⟩])
    (.seq
    (.seq
    (.region false [0, 1, 5, 6, 7, 50] [
      ⟨some 49, .mov (.t 1), none, []⟩,
      ⟨some 50, .bin false .gtr 2 (.t 49) (.c (.int .i64 200)), none, []⟩])
    (.cond (.t 50)
      (.region true [0, 1, 7] [
        ⟨some 51, .mov (.t 7), none, []⟩,
        ⟨some 52, .bin false .mul 2 (.t 51) (.c (.int .i64 251)), none, []⟩,
        ⟨some 53, .mov (.t 0), none, [0, 1]⟩,
        ⟨some 54, .nilc (.t 53), none, [0, 1]⟩,
        ⟨some 55, .fa 110 0 0 1 (.t 54), none, [0, 1]⟩,
        ⟨some 56, .load 38 false 1 (.t 55), none, [0, 1]⟩,
        ⟨some 57, .mov (.t 5), none, [0, 1, 2, 3, 4, 5]⟩,
        ⟨some 58, .bin false .add 2 (.t 57) (.c (.int .i64 1)), none, [0, 1, 2, 3, 4, 5]⟩,
        ⟨some 59, .mov (.t 6), none, [0, 1, 2, 3, 4, 5, 6, 7]⟩,
        ⟨some 60, .bin false .rem 2 (.t 58) (.t 59), none, [0, 1, 2, 3, 4, 5]⟩,
        ⟨some 61, .ia 38 5 1 (.t 56) (.t 60), none, [0, 1]⟩,
        ⟨some 62, .load 5 false 1 (.t 61), none, [0, 1]⟩,
        ⟨some 63, .conv 5 2 .i64 (.t 62), none, [0, 1]⟩,
        ⟨some 64, .bin false .mul 2 (.t 63) (.c (.int .i64 13)), none, [0, 1]⟩,
        ⟨some 65, .bin false .add 2 (.t 52) (.t 64), none, []⟩,
        ⟨some 66, .mov (.t 5), none, [0, 1, 2, 3, 4, 5, 6, 7, 8, 9, 10, 11, 12, 13, 14]⟩,
        ⟨some 67, .bin false .add 2 (.t 65) (.t 66), none, []⟩,
        ⟨some 7, .asg (.t 67), none, []⟩])
      .skip))
    (.seq
    (.region false [0, 4] [
      ⟨some 68, .mov (.t 7), none, []⟩,
      ⟨some 69, .mov (.t 1), none, []⟩,
      ⟨some 70, .bin false .rem 2 (.t 68) (.t 69), none, []⟩,
      ⟨some 4, .asg (.t 70), none, []⟩])
    .ret)))))))))
  modes := [.io, .lend]
  rets := [⟨4, none⟩] }

/-- loop.example/g00539/spec.l1Max -/
def v87 : VFun := {
  code :=
    (.seq
    (.region false [0, 1] [
      ⟨some 4, .asg (.c (.int .i64 0)), none, []⟩])
    (.seq
    (.seq
    (.region false [0, 1, 7] [
      ⟨some 5, .mov (.t 0), none, []⟩,
      ⟨some 6, .mov (.t 1), none, []⟩,
      ⟨some 7, .bin false .gtr 2 (.t 5) (.t 6), none, []⟩])
    (.cond (.t 7)
      (.seq
      (.region false [4] [
        ⟨some 8, .mov (.t 0), none, []⟩,
        ⟨some 4, .asg (.t 8), none, []⟩])
      .ret)
      .skip))
    (.seq
    (.region false [4] [
      ⟨some 9, .mov (.t 1), none, []⟩,
      ⟨some 4, .asg (.t 9), none, []⟩])
    .ret)))
  modes := [.lend, .lend]
  rets := [⟨4, none⟩] }

/-- loop.example/g00539/spec.l12Draw -/
def v92 : VFun := {
  code :=
    (.seq
    (.region false [0, 2] [
      ⟨some 2, .alloc 30 [(.val (.int .i64 0)), (.val (.int .i64 0)), (.val (.int .i64 0)), (.val (.int .i64 0)), (.val (.int .i64 0)), (.val (.int .i64 0)), (.val (.int .i64 0))], none, []⟩])
    (.seq
    (.region false [0, 2, 3] [
      ⟨some 4, .mov (.t 0), none, []⟩,
      ⟨some 5, .lit 60 2 1 3 [(.val (.int .i64 0))] [(0, (.c (.int .i64 1))), (1, (.c (.int .i64 2))), (2, (.c (.int .i64 10)))], none, []⟩,
      ⟨some 6, .call 76 [(.t 4), (.t 5)], none, []⟩,
      ⟨some 7, .mov (.t 0), none, []⟩,
      ⟨some 8, .lit 60 2 1 3 [(.val (.int .i64 0))] [(0, (.c (.int .i64 10))), (1, (.c (.int .i64 500))), (2, (.c (.int .i64 9999)))], none, []⟩,
      ⟨some 9, .call 76 [(.t 7), (.t 8)], none, []⟩,
      ⟨some 10, .mov (.t 0), none, []⟩,
      ⟨some 11, .lit 60 2 1 3 [(.val (.int .i64 0))] [(0, (.c (.int .i64 1))), (1, (.c (.int .i64 10))), (2, (.c (.int .i64 60)))], none, []⟩,
      ⟨some 12, .call 76 [(.t 10), (.t 11)], none, []⟩,
      ⟨some 13, .mov (.t 0), none, []⟩,
      ⟨some 14, .lit 60 2 1 3 [(.val (.int .i64 0))] [(0, (.c (.int .i64 1))), (1, (.c (.int .i64 3))), (2, (.c (.int .i64 8)))], none, []⟩,
      ⟨some 15, .call 76 [(.t 13), (.t 14)], none, []⟩,
      ⟨some 16, .mov (.t 0), none, []⟩,
      ⟨some 17, .call 85 [(.t 16), (.c (.int .i64 50))], none, []⟩,
      ⟨some 18, .build 30 [(.val (.int .i64 0)), (.val (.int .i64 0)), (.val (.int .i64 0)), (.val (.int .i64 0)), (.val (.int .i64 0)), (.val (.int .i64 0)), (.val (.int .i64 0))] [(1, 1, 1, (.t 6)), (2, 2, 1, (.t 9)), (3, 3, 1, (.t 12)), (4, 4, 1, (.t 15)), (6, 6, 1, (.t 17))], none, []⟩,
      ⟨some 3, .alloc 30 [(.val (.int .i64 0)), (.val (.int .i64 0)), (.val (.int .i64 0)), (.val (.int .i64 0)), (.val (.int .i64 0)), (.val (.int .i64 0)), (.val (.int .i64 0))], none, []⟩,
      ⟨none, .store 30 7 (.t 3) (.t 18), none, []⟩])
    (.seq
    (.region false [0, 2, 3] [
      ⟨some 19, .mov (.t 0), none, []⟩,
      ⟨some 20, .fa 30 1 1 1 (.t 3), none, []⟩,
      ⟨some 21, .load 2 false 1 (.t 20), none, []⟩,
      ⟨some 22, .fa 30 2 2 1 (.t 3), none, []⟩,
      ⟨some 23, .load 2 false 1 (.t 22), none, []⟩,
      ⟨some 24, .fa 30 1 1 1 (.t 3), none, []⟩,
      ⟨some 25, .load 2 false 1 (.t 24), none, []⟩,
      ⟨some 26, .fa 30 2 2 1 (.t 3), none, []⟩,
      ⟨some 27, .load 2 false 1 (.t 26), none, []⟩,
      ⟨some 28, .bin false .add 2 (.t 25) (.t 27), none, []⟩,
      ⟨some 29, .bin false .quo 2 (.t 28) (.c (.int .i64 2)), none, []⟩,
      ⟨some 30, .lit 60 2 1 3 [(.val (.int .i64 0))] [(0, (.t 21)), (1, (.t 23)), (2, (.t 29))], none, []⟩,
      ⟨some 31, .call 76 [(.t 19), (.t 30)], none, []⟩,
      ⟨some 32, .fa 30 0 0 1 (.t 3), none, []⟩,
      ⟨none, .store 2 1 (.t 32) (.t 31), none, []⟩])
    (.seq
    (.region false [0, 2, 3] [
      ⟨some 33, .mov (.t 0), none, []⟩,
      ⟨some 34, .fa 30 4 4 1 (.t 3), none, []⟩,
      ⟨some 35, .load 2 false 1 (.t 34), none, []⟩,
      ⟨some 36, .bin false .sub 2 (.t 35) (.c (.int .i64 1)), none, []⟩,
      ⟨some 37, .fa 30 4 4 1 (.t 3), none, []⟩,
      ⟨some 38, .load 2 false 1 (.t 37), none, []⟩,
      ⟨some 39, .bin false .sub 2 (.t 38) (.c (.int .i64 1)), none, []⟩,
      ⟨some 40, .lit 60 2 1 3 [(.val (.int .i64 0))] [(0, (.c (.int .i64 0))), (1, (.t 36)), (2, (.t 39))], none, []⟩,
      ⟨some 41, .call 76 [(.t 33), (.t 40)], none, []⟩,
      ⟨some 42, .fa 30 5 5 1 (.t 3), none, []⟩,
      ⟨none, .store 2 1 (.t 42) (.t 41), none, []⟩])
    (.seq
    (.region false [0, 2] [
      ⟨some 43, .load 30 true 7 (.t 3), none, []⟩,
      ⟨none, .store 30 7 (.t 2) (.t 43), none, []⟩])
    .ret)))))
  modes := [.io]
  rets := [⟨2, some (true, 7)⟩] }

def tab : List (Nat × VFun) := [(13, v13), (18, v18), (20, v20), (21, v21), (22, v22), (29, v29), (30, v30), (36, v36), (37, v37), (38, v38), (52, v52), (53, v53), (54, v54), (57, v57), (58, v58), (59, v59), (60, v60), (66, v66), (67, v67), (73, v73), (74, v74), (75, v75), (76, v76), (77, v77), (85, v85), (87, v87), (92, v92)]
def F (f : FuncId) : Option VFun := getA none (tab.map fun x => (x.1, some x.2)) f
theorem tab_ok : tab.all (fun x => matchFun Try.prog x.1 x.2) = true := by kernel_rfl
theorem F_mem {f : FuncId} {fn : VFun} : ∀ {l : List (Nat × VFun)}, getA none (l.map fun x => (x.1, some x.2)) f = some fn → (f, fn) ∈ l
  | [], h => by simp [getA] at h
  | (k, v) :: l, h => by
    simp only [List.map_cons, getA] at h
    split at h
    · rename_i e
      injection h with h
      subst e; subst h
      exact List.mem_cons_self ..
    · exact List.mem_cons_of_mem _ (F_mem h)
theorem F_ok (f : FuncId) (fn : VFun) (h : F f = some fn) : matchFun Try.prog f fn = true := List.all_eq_true.1 tab_ok _ (F_mem h)
end Go.Proofs.Ythpmfdcmnnbjcaa.Meters
