/- V's text of the functions that this law reaches. -/
import Derived.Test.YtfmkbpiobddhdaaDoorVCode
import Derived.Test.YtfmkbpiobddhdaaDoorRows
import Derived.KernelRfl
namespace Go.Proofs.YtfmkbpiobddhdaaDoor.Splits
open Go Go.Proofs.YtfmkbpiobddhdaaDoor.V
set_option maxRecDepth 20000
def vo (d : Nat) (x : VOp) : VO := ⟨some d, x, none, []⟩
def vn (x : VOp) : VO := ⟨none, x, none, []⟩

def b11_2 : VC :=
 (.seq
 (.seq
 (.region false [3, 5, 6, 7, 8, 10, 11, 12, 134] [
 vo 130 (.mov (.t 12)),
 vo 131 (.fa 63 1 1 1 (.t 6)),
 vo 132 (.load 28 false 1 (.t 131)),
 vo 133 (.len false 28 (.t 132)),
 vo 134 (.bin false .lss 3 (.t 130) (.t 133))])
 (.cond (.t 134)
 .skip
 (.exit 4)))
 (.seq
 (.block 5
 (.seq
 (.region true [3, 5, 6, 7, 8, 10, 11, 12, 185] [
 vo 137 (.mov (.t 3)),
 ⟨some 138, .fa 63 1 1 1 (.t 6), none, [0]⟩,
 ⟨some 139, .load 28 false 1 (.t 138), none, [0]⟩,
 ⟨some 140, .mov (.t 10), none, [0, 1, 2]⟩,
 ⟨some 141, .ia 28 46 2 (.t 139) (.t 140), none, [0]⟩,
 ⟨some 142, .fa 46 1 1 1 (.t 141), none, [0]⟩,
 ⟨some 143, .load 2 false 1 (.t 142), none, [0]⟩,
 vo 144 (.bin false .mul 2 (.t 137) (.t 143)),
 ⟨some 145, .mov (.t 7), none, [0, 1, 2, 3, 4, 5, 6, 7]⟩,
 vo 146 (.bin false .rem 2 (.t 144) (.t 145)),
 ⟨some 147, .mov (.t 3), none, [0, 1, 2, 3, 4, 5, 6, 7, 8, 9]⟩,
 ⟨some 148, .fa 63 1 1 1 (.t 6), none, [0, 1, 2, 3, 4, 5, 6, 7, 8, 9, 10]⟩,
 ⟨some 149, .load 28 false 1 (.t 148), none, [0, 1, 2, 3, 4, 5, 6, 7, 8, 9, 10]⟩,
 ⟨some 150, .mov (.t 12), none, [0, 1, 2, 3, 4, 5, 6, 7, 8, 9, 10, 11, 12]⟩,
 ⟨some 151, .ia 28 46 2 (.t 149) (.t 150), none, [0, 1, 2, 3, 4, 5, 6, 7, 8, 9, 10]⟩,
 ⟨some 152, .fa 46 1 1 1 (.t 151), none, [0, 1, 2, 3, 4, 5, 6, 7, 8, 9, 10]⟩,
 ⟨some 153, .load 2 false 1 (.t 152), none, [0, 1, 2, 3, 4, 5, 6, 7, 8, 9, 10]⟩,
 ⟨some 154, .bin false .mul 2 (.t 147) (.t 153), none, [0, 1, 2, 3, 4, 5, 6, 7, 8, 9]⟩,
 ⟨some 155, .mov (.t 7), none, [0, 1, 2, 3, 4, 5, 6, 7, 8, 9, 10, 11, 12, 13, 14, 15, 16, 17]⟩,
 ⟨some 156, .bin false .rem 2 (.t 154) (.t 155), none, [0, 1, 2, 3, 4, 5, 6, 7, 8, 9]⟩,
 vo 157 (.bin false .gtr 2 (.t 146) (.t 156)),
 vo 158 (.mov (.t 157)),
 ⟨some 159, .fa 63 1 1 1 (.t 5), some (158, true), []⟩,
 ⟨some 160, .load 28 false 1 (.t 159), some (158, true), []⟩,
 ⟨some 161, .mov (.t 10), some (158, true), [22, 23]⟩,
 ⟨some 162, .ia 28 46 2 (.t 160) (.t 161), some (158, true), []⟩,
 ⟨some 163, .fa 46 1 1 1 (.t 162), some (158, true), []⟩,
 ⟨some 164, .load 2 false 1 (.t 163), some (158, true), []⟩,
 ⟨some 165, .mov (.t 11), some (158, true), [22, 23, 24, 25, 26, 27]⟩,
 ⟨some 166, .bin false .sub 2 (.t 164) (.t 165), some (158, true), []⟩,
 ⟨some 167, .fa 63 1 1 1 (.t 5), some (158, true), [22, 23, 24, 25, 26, 27, 28, 29]⟩,
 ⟨some 168, .load 28 false 1 (.t 167), some (158, true), [22, 23, 24, 25, 26, 27, 28, 29]⟩,
 ⟨some 169, .mov (.t 12), some (158, true), [22, 23, 24, 25, 26, 27, 28, 29, 30, 31]⟩,
 ⟨some 170, .ia 28 46 2 (.t 168) (.t 169), some (158, true), [22, 23, 24, 25, 26, 27, 28, 29]⟩,
 ⟨some 171, .fa 46 1 1 1 (.t 170), some (158, true), [22, 23, 24, 25, 26, 27, 28, 29]⟩,
 ⟨some 172, .load 2 false 1 (.t 171), some (158, true), [22, 23, 24, 25, 26, 27, 28, 29]⟩,
 ⟨some 173, .mov (.t 3), some (158, true), [22, 23, 24, 25, 26, 27, 28, 29, 30, 31, 32, 33, 34, 35]⟩,
 ⟨some 174, .fa 63 1 1 1 (.t 6), some (158, true), [22, 23, 24, 25, 26, 27, 28, 29, 30, 31, 32, 33, 34, 35, 36]⟩,
 ⟨some 175, .load 28 false 1 (.t 174), some (158, true), [22, 23, 24, 25, 26, 27, 28, 29, 30, 31, 32, 33, 34, 35, 36]⟩,
 ⟨some 176, .mov (.t 12), some (158, true), [22, 23, 24, 25, 26, 27, 28, 29, 30, 31, 32, 33, 34, 35, 36, 37, 38]⟩,
 ⟨some 177, .ia 28 46 2 (.t 175) (.t 176), some (158, true), [22, 23, 24, 25, 26, 27, 28, 29, 30, 31, 32, 33, 34, 35, 36]⟩,
 ⟨some 178, .fa 46 1 1 1 (.t 177), some (158, true), [22, 23, 24, 25, 26, 27, 28, 29, 30, 31, 32, 33, 34, 35, 36]⟩,
 ⟨some 179, .load 2 false 1 (.t 178), some (158, true), [22, 23, 24, 25, 26, 27, 28, 29, 30, 31, 32, 33, 34, 35, 36]⟩,
 ⟨some 180, .bin false .mul 2 (.t 173) (.t 179), some (158, true), [22, 23, 24, 25, 26, 27, 28, 29, 30, 31, 32, 33, 34, 35]⟩,
 ⟨some 181, .mov (.t 7), some (158, true), [22, 23, 24, 25, 26, 27, 28, 29, 30, 31, 32, 33, 34, 35, 36, 37, 38, 39, 40, 41, 42, 43]⟩,
 ⟨some 182, .bin false .quo 2 (.t 180) (.t 181), some (158, true), [22, 23, 24, 25, 26, 27, 28, 29, 30, 31, 32, 33, 34, 35]⟩,
 ⟨some 183, .bin false .sub 2 (.t 172) (.t 182), some (158, true), [22, 23, 24, 25, 26, 27, 28, 29]⟩,
 ⟨some 184, .bin false .lss 2 (.t 166) (.t 183), some (158, true), []⟩,
 vo 185 (.pick (.t 158) (.t 184) (.c (.bool false)))])
 (.cond (.t 185)
 (.seq
 (.region false [2] [
 vo 2 (.asg (.c (.bool false)))])
 .ret)
 .skip)))
 (.region false [3, 5, 6, 7, 8, 10, 11, 12] [
 vo 135 (.mov (.t 12)),
 vo 136 (.bin false .add 3 (.t 135) (.c (.int .i64 1))),
 vo 12 (.asg (.t 136))])))
def l11_2 : VC := .loop b11_2
def b11_1 : VC :=
 (.seq
 (.seq
 (.region false [3, 5, 6, 7, 8, 10, 81] [
 vo 77 (.mov (.t 10)),
 vo 78 (.fa 63 1 1 1 (.t 6)),
 vo 79 (.load 28 false 1 (.t 78)),
 vo 80 (.len false 28 (.t 79)),
 vo 81 (.bin false .lss 3 (.t 77) (.t 80))])
 (.cond (.t 81)
 .skip
 (.exit 2)))
 (.seq
 (.block 3
 (.seq
 (.seq
 (.region false [3, 5, 6, 7, 8, 10, 85] [
 vo 84 (.mov (.t 7)),
 vo 85 (.bin false .lss 2 (.t 84) (.c (.int .i64 1)))])
 (.cond (.t 85)
 (.seq
 (.region false [2] [
 vo 2 (.asg (.c (.bool false)))])
 .ret)
 .skip))
 (.seq
 (.region false [3, 5, 6, 7, 8, 10, 11] [
 vo 86 (.mov (.t 3)),
 vo 87 (.fa 63 1 1 1 (.t 6)),
 vo 88 (.load 28 false 1 (.t 87)),
 vo 89 (.mov (.t 10)),
 vo 90 (.ia 28 46 2 (.t 88) (.t 89)),
 vo 91 (.fa 46 1 1 1 (.t 90)),
 vo 92 (.load 2 false 1 (.t 91)),
 vo 93 (.bin false .mul 2 (.t 86) (.t 92)),
 vo 94 (.mov (.t 7)),
 vo 95 (.bin false .quo 2 (.t 93) (.t 94)),
 vo 11 (.asg (.t 95))])
 (.seq
 (.seq
 (.region true [3, 5, 6, 7, 8, 10, 11, 129] [
 vo 96 (.fa 63 1 1 1 (.t 5)),
 vo 97 (.load 28 false 1 (.t 96)),
 ⟨some 98, .mov (.t 10), none, [0, 1]⟩,
 vo 99 (.ia 28 46 2 (.t 97) (.t 98)),
 vo 100 (.fa 46 0 0 1 (.t 99)),
 vo 101 (.load 9 false 1 (.t 100)),
 ⟨some 102, .fa 63 1 1 1 (.t 6), none, [0, 1, 2, 3, 4, 5]⟩,
 ⟨some 103, .load 28 false 1 (.t 102), none, [0, 1, 2, 3, 4, 5]⟩,
 ⟨some 104, .mov (.t 10), none, [0, 1, 2, 3, 4, 5, 6, 7]⟩,
 ⟨some 105, .ia 28 46 2 (.t 103) (.t 104), none, [0, 1, 2, 3, 4, 5]⟩,
 ⟨some 106, .fa 46 0 0 1 (.t 105), none, [0, 1, 2, 3, 4, 5]⟩,
 ⟨some 107, .load 9 false 1 (.t 106), none, [0, 1, 2, 3, 4, 5]⟩,
 vo 108 (.bin false .neq 9 (.t 101) (.t 107)),
 vo 109 (.mov (.t 108)),
 ⟨some 110, .fa 63 1 1 1 (.t 5), some (109, false), []⟩,
 ⟨some 111, .load 28 false 1 (.t 110), some (109, false), []⟩,
 ⟨some 112, .mov (.t 10), some (109, false), [14, 15]⟩,
 ⟨some 113, .ia 28 46 2 (.t 111) (.t 112), some (109, false), []⟩,
 ⟨some 114, .fa 46 1 1 1 (.t 113), some (109, false), []⟩,
 ⟨some 115, .load 2 false 1 (.t 114), some (109, false), []⟩,
 ⟨some 116, .mov (.t 11), some (109, false), [14, 15, 16, 17, 18, 19]⟩,
 ⟨some 117, .bin false .lss 2 (.t 115) (.t 116), some (109, false), []⟩,
 vo 118 (.pick (.t 109) (.c (.bool true)) (.t 117)),
 vo 119 (.mov (.t 118)),
 ⟨some 120, .fa 63 1 1 1 (.t 5), some (119, false), []⟩,
 ⟨some 121, .load 28 false 1 (.t 120), some (119, false), []⟩,
 ⟨some 122, .mov (.t 10), some (119, false), [24, 25]⟩,
 ⟨some 123, .ia 28 46 2 (.t 121) (.t 122), some (119, false), []⟩,
 ⟨some 124, .fa 46 1 1 1 (.t 123), some (119, false), []⟩,
 ⟨some 125, .load 2 false 1 (.t 124), some (119, false), []⟩,
 ⟨some 126, .mov (.t 11), some (119, false), [24, 25, 26, 27, 28, 29]⟩,
 ⟨some 127, .bin false .add 2 (.t 126) (.c (.int .i64 1)), some (119, false), [24, 25, 26, 27, 28, 29]⟩,
 ⟨some 128, .bin false .gtr 2 (.t 125) (.t 127), some (119, false), []⟩,
 vo 129 (.pick (.t 119) (.c (.bool true)) (.t 128))])
 (.cond (.t 129)
 (.seq
 (.region false [2] [
 vo 2 (.asg (.c (.bool false)))])
 .ret)
 .skip))
 (.seq
 (.region false [3, 5, 6, 7, 8, 10, 11, 12] [
 vo 12 (.asg (.c (.int .i64 0)))])
 (.block 4
 l11_2))))))
 (.region false [3, 5, 6, 7, 8, 10] [
 vo 82 (.mov (.t 10)),
 vo 83 (.bin false .add 3 (.t 82) (.c (.int .i64 1))),
 vo 10 (.asg (.t 83))])))
def l11_1 : VC := .loop b11_1
def b11_0 : VC :=
 (.seq
 (.seq
 (.region false [3, 5, 6, 7, 8, 9, 58] [
 vo 54 (.mov (.t 9)),
 vo 55 (.fa 63 1 1 1 (.t 6)),
 vo 56 (.load 28 false 1 (.t 55)),
 vo 57 (.len false 28 (.t 56)),
 vo 58 (.bin false .lss 3 (.t 54) (.t 57))])
 (.cond (.t 58)
 .skip
 (.exit 0)))
 (.seq
 (.block 1
 (.seq
 (.region false [3, 5, 6, 7, 8, 9] [
 vo 61 (.mov (.t 7)),
 vo 62 (.fa 63 1 1 1 (.t 6)),
 vo 63 (.load 28 false 1 (.t 62)),
 vo 64 (.mov (.t 9)),
 vo 65 (.ia 28 46 2 (.t 63) (.t 64)),
 vo 66 (.fa 46 1 1 1 (.t 65)),
 vo 67 (.load 2 false 1 (.t 66)),
 vo 68 (.bin false .add 2 (.t 61) (.t 67)),
 vo 7 (.asg (.t 68))])
 (.region false [3, 5, 6, 7, 8, 9] [
 vo 69 (.mov (.t 8)),
 vo 70 (.fa 63 1 1 1 (.t 5)),
 vo 71 (.load 28 false 1 (.t 70)),
 vo 72 (.mov (.t 9)),
 vo 73 (.ia 28 46 2 (.t 71) (.t 72)),
 vo 74 (.fa 46 1 1 1 (.t 73)),
 vo 75 (.load 2 false 1 (.t 74)),
 vo 76 (.bin false .add 2 (.t 69) (.t 75)),
 vo 8 (.asg (.t 76))])))
 (.region false [3, 5, 6, 7, 8, 9] [
 vo 59 (.mov (.t 9)),
 vo 60 (.bin false .add 3 (.t 59) (.c (.int .i64 1))),
 vo 9 (.asg (.t 60))])))
def l11_0 : VC := .loop b11_0
/-- loop.example/g00539/laws.FnSplits -/
def v11 : VFun := {
 code :=
 (.seq
 (.region false [0] [
 vo 2 (.asg (.c (.bool false)))])
 (.seq
 (.seq
 (.region false [0, 14] [
 vo 13 (.mov (.t 0)),
 vo 14 (.call 38 [(.t 13)])])
 (.cond (.t 14)
 (.seq
 (.region false [2] [
 vo 2 (.asg (.c (.bool true)))])
 .ret)
 .skip))
 (.seq
 (.region false [3, 4, 17] [
 vo 16 (.mov (.t 0)),
 vo 17 (.call 47 [(.t 16)]),
 vo 15 (.mov (.t 17)),
 vo 18 (.ext (.t 15) 0),
 vo 19 (.ext (.t 15) 1),
 vo 3 (.asg (.t 18)),
 vo 4 (.asg (.t 19))])
 (.seq
 (.region false [3, 4, 5, 17] [
 vo 20 (.mov (.t 3)),
 vo 21 (.mov (.t 4)),
 vo 22 (.call 48 [(.t 20), (.t 21)]),
 vo 5 (.alloc 63 [(.val (.int .i64 0)), (.nl 2)]),
 vn (.store 63 2 (.t 5) (.t 22))])
 (.seq
 (.seq
 (.region false [3, 4, 5, 17, 25] [
 vo 23 (.fa 63 0 0 1 (.t 5)),
 vo 24 (.load 2 false 1 (.t 23)),
 vo 25 (.bin false .neq 2 (.t 24) (.c (.int .i64 0)))])
 (.cond (.t 25)
 (.seq
 (.region true [2] [
 vo 26 (.mov (.t 3)),
 ⟨some 27, .mov (.t 4), none, [0]⟩,
 vo 28 (.call 49 [(.t 26), (.t 27)]),
 vo 29 (.fld 63 0 0 1 false (.t 28)),
 ⟨some 30, .fa 63 0 0 1 (.t 5), none, [0, 1, 2, 3]⟩,
 ⟨some 31, .load 2 false 1 (.t 30), none, [0, 1, 2, 3]⟩,
 vo 32 (.bin false .eql 2 (.t 29) (.t 31)),
 vo 33 (.mov (.t 32)),
 ⟨some 34, .mov (.t 4), some (33, true), []⟩,
 ⟨some 35, .call 46 [(.t 34)], some (33, true), []⟩,
 ⟨some 36, .mov (.t 4), some (33, true), [8, 9]⟩,
 ⟨some 37, .call 50 [(.t 36)], some (33, true), []⟩,
 ⟨some 38, .bin false .eql 2 (.t 35) (.t 37), some (33, true), []⟩,
 vo 39 (.pick (.t 33) (.t 38) (.c (.bool false))),
 vo 2 (.asg (.t 39))])
 .ret)
 .skip))
 (.seq
 (.region false [3, 5, 6] [
 vo 40 (.mov (.t 4)),
 vo 41 (.call 45 [(.t 40)]),
 vo 6 (.alloc 63 [(.val (.int .i64 0)), (.nl 2)]),
 vn (.store 63 2 (.t 6) (.t 41))])
 (.seq
 (.seq
 (.region false [3, 5, 6, 53] [
 vo 42 (.fa 63 1 1 1 (.t 6)),
 vo 43 (.load 28 false 1 (.t 42)),
 vo 44 (.len false 28 (.t 43)),
 vo 45 (.fa 63 1 1 1 (.t 5)),
 vo 46 (.load 28 false 1 (.t 45)),
 vo 47 (.len false 28 (.t 46)),
 vo 48 (.bin false .neq 3 (.t 44) (.t 47)),
 vo 49 (.mov (.t 48)),
 ⟨some 50, .fa 63 0 0 1 (.t 6), some (49, false), []⟩,
 ⟨some 51, .load 2 false 1 (.t 50), some (49, false), []⟩,
 ⟨some 52, .bin false .neq 2 (.t 51) (.c (.int .i64 0)), some (49, false), []⟩,
 vo 53 (.pick (.t 49) (.c (.bool true)) (.t 52))])
 (.cond (.t 53)
 (.seq
 (.region false [2] [
 vo 2 (.asg (.c (.bool false)))])
 .ret)
 .skip))
 (.seq
 (.region false [3, 5, 6, 7] [
 vo 7 (.asg (.c (.int .i64 0)))])
 (.seq
 (.region false [3, 5, 6, 7, 8] [
 vo 8 (.asg (.c (.int .i64 0)))])
 (.seq
 (.seq
 (.region false [3, 5, 6, 7, 8, 9] [
 vo 9 (.asg (.c (.int .i64 0)))])
 (.block 0
 l11_0))
 (.seq
 (.seq
 (.region false [3, 5, 6, 7, 8, 10] [
 vo 10 (.asg (.c (.int .i64 0)))])
 (.block 2
 l11_1))
 (.seq
 (.region false [2] [
 vo 186 (.mov (.t 8)),
 vo 187 (.mov (.t 3)),
 vo 188 (.bin false .eql 2 (.t 186) (.t 187)),
 vo 189 (.mov (.t 188)),
 ⟨some 190, .fa 63 1 1 1 (.t 5), some (189, true), []⟩,
 ⟨some 191, .load 28 false 1 (.t 190), some (189, true), []⟩,
 ⟨some 192, .len false 28 (.t 191), some (189, true), []⟩,
 ⟨some 193, .bin false .gtr 3 (.t 192) (.c (.int .i64 0)), some (189, true), []⟩,
 vo 194 (.pick (.t 189) (.t 193) (.c (.bool false))),
 vo 2 (.asg (.t 194))])
 .ret))))))))))))
 modes := [.lend]
 rets := [⟨2, none⟩] }

/-- loop.example/g00539/laws.lwBig -/
def v38 : VFun := {
 code :=
 (.seq
 (.region false [0] [
 vo 2 (.asg (.c (.bool false)))])
 (.seq
 (.region false [2] [
 vo 3 (.mov (.t 0)),
 vo 4 (.len false 58 (.t 3)),
 vo 5 (.bin false .gtr 3 (.t 4) (.c (.int .i64 1048576))),
 vo 2 (.asg (.t 5))])
 .ret))
 modes := [.lend]
 rets := [⟨2, none⟩] }

/-- loop.example/g00539/impl.MergeWeights -/
def v45 : VFun := {
 code :=
 (.seq
 (.region false [0, 2] [
 vo 2 (.alloc 63 [(.val (.int .i64 0)), (.nl 2)])])
 (.seq
 (.seq
 (.region false [0, 2, 3] [
 vo 4 (.mov (.t 0)),
 vo 5 (.call 46 [(.t 4)]),
 vo 3 (.asg (.t 5))])
 (.seq
 (.region false [0, 2, 3, 7] [
 vo 6 (.mov (.t 3)),
 vo 7 (.bin false .neq 2 (.t 6) (.c (.int .i64 0)))])
 (.cond (.t 7)
 (.seq
 (.region false [2] [
 vo 8 (.mov (.t 3)),
 vo 9 (.build 63 [(.val (.int .i64 0)), (.nl 2)] [(0, 0, 1, (.t 8))]),
 vn (.store 63 2 (.t 2) (.t 9))])
 .ret)
 .skip)))
 (.seq
 (.region false [2] [
 vo 10 (.mov (.t 0)),
 vo 11 (.call 112 [(.t 10)]),
 vo 12 (.build 63 [(.val (.int .i64 0)), (.nl 2)] [(0, 0, 1, (.c (.int .i64 0))), (1, 1, 1, (.t 11))]),
 vn (.store 63 2 (.t 2) (.t 12))])
 .ret)))
 modes := [.lend]
 rets := [⟨2, some (true, 2)⟩] }

def b46_0 : VC :=
 (.seq
 (.region false [8, 9, 10, 11] [
 vo 11 (.bin false .lss 3 (.t 10) (.t 9))])
 (.seq
 (.cond (.t 11)
 .skip
 (.exit 0))
 (.seq
 (.block 1
 (.seq
 (.region false [4, 8, 9, 10] [
 vo 12 (.ia 28 46 2 (.t 8) (.t 10)),
 vo 13 (.load 46 true 2 (.t 12)),
 vo 4 (.alloc 46 [(.val (.string (⟨#[]⟩ : ByteArray))), (.val (.int .i64 0))]),
 vn (.store 46 2 (.t 4) (.t 13))])
 (.block 2
 (.seq
 (.region false [4, 8, 9, 10, 14] [
 vo 15 (.fa 46 0 0 1 (.t 4)),
 vo 16 (.load 9 false 1 (.t 15)),
 vo 17 (.call 113 [(.t 16)]),
 vo 18 (.un .not (.t 17)),
 vo 14 (.asg (.t 18))])
 (.cond (.t 14)
 (.seq
 (.region false [2] [
 vo 2 (.asg (.c (.int .i64 5)))])
 .ret)
 (.seq
 (.region false [8, 9, 10, 19] [
 vo 20 (.fa 46 1 1 1 (.t 4)),
 vo 21 (.load 2 false 1 (.t 20)),
 vo 22 (.call 93 [(.t 21), (.c (.int .i64 1)), (.c (.int .i64 9999))]),
 vo 23 (.un .not (.t 22)),
 vo 19 (.asg (.t 23))])
 (.cond (.t 19)
 (.seq
 (.region false [2] [
 vo 2 (.asg (.c (.int .i64 3)))])
 .ret)
 .skip)))))))
 (.region false [8, 9, 10] [
 vo 24 (.bin false .add 3 (.t 10) (.c (.int .i64 1))),
 vo 10 (.mov (.t 24))]))))
def l46_0 : VC := .loop b46_0
/-- loop.example/g00539/impl.WindowFault -/
def v46 : VFun := {
 code :=
 (.seq
 (.region false [0] [
 vo 2 (.asg (.c (.int .i64 0)))])
 (.seq
 (.seq
 (.region false [0, 7] [
 vo 5 (.mov (.t 0)),
 vo 6 (.len false 28 (.t 5)),
 vo 7 (.bin false .gtr 3 (.t 6) (.c (.int .i64 12)))])
 (.cond (.t 7)
 (.seq
 (.region false [2] [
 vo 2 (.asg (.c (.int .i64 2)))])
 .ret)
 .skip))
 (.seq
 (.seq
 (.region false [8, 9, 10] [
 vo 8 (.mov (.t 0)),
 vo 9 (.len false 28 (.t 8)),
 vo 10 (.mov (.c (.int .i64 0)))])
 (.block 0
 l46_0))
 (.seq
 (.region false [2] [
 vo 2 (.asg (.c (.int .i64 0)))])
 .ret))))
 modes := [.lend]
 rets := [⟨2, none⟩] }

/-- loop.example/g00539/spec.DrawSplitAmount -/
def v47 : VFun := {
 code :=
 (.seq
 (.region false [0] [
 vo 2 (.asg (.c (.int .i64 0))),
 vo 3 (.asg (.n 2))])
 (.seq
 (.region false [4, 6] [
 vo 5 (.mov (.t 0)),
 vo 6 (.call 102 [(.t 5)]),
 vo 4 (.asg (.t 6))])
 (.seq
 (.region false [2, 3, 13] [
 vo 7 (.mov (.t 4)),
 vo 8 (.mov (.t 4)),
 vo 9 (.call 114 [(.t 8), (.c (.int .i64 5000))]),
 vo 10 (.lit 172 2 1 7 [(.val (.int .i64 0))] [(0, (.c (.int .i64 50))), (1, (.c (.int .i64 49))), (2, (.c (.int .i64 7))), (3, (.c (.int .i64 0))), (4, (.c (.int .i64 1000000))), (5, (.c (.int .i64 1000001))), (6, (.t 9))]),
 vo 11 (.call 105 [(.t 7), (.t 10)]),
 vo 12 (.mov (.t 4)),
 vo 13 (.call 103 [(.t 12)]),
 vo 2 (.asg (.t 11)),
 vo 3 (.asg (.t 13))])
 .ret)))
 modes := [.lend]
 rets := [⟨2, none⟩, ⟨3, none⟩] }

/-- loop.example/g00539/impl.SplitAmount -/
def v48 : VFun := {
 code :=
 (.seq
 (.region false [0, 1, 4] [
 vo 4 (.alloc 63 [(.val (.int .i64 0)), (.nl 2)])])
 (.seq
 (.seq
 (.region false [0, 1, 4, 5] [
 vo 6 (.mov (.t 1)),
 vo 7 (.call 46 [(.t 6)]),
 vo 5 (.asg (.t 7))])
 (.seq
 (.region false [0, 1, 4, 5, 9] [
 vo 8 (.mov (.t 5)),
 vo 9 (.bin false .neq 2 (.t 8) (.c (.int .i64 0)))])
 (.cond (.t 9)
 (.seq
 (.region false [4] [
 vo 10 (.mov (.t 5)),
 vo 11 (.build 63 [(.val (.int .i64 0)), (.nl 2)] [(0, 0, 1, (.t 10))]),
 vn (.store 63 2 (.t 4) (.t 11))])
 .ret)
 .skip)))
 (.seq
 (.block 0
 (.seq
 (.region false [0, 1, 4, 12] [
 vo 13 (.mov (.t 0)),
 vo 14 (.call 72 [(.t 13)]),
 vo 15 (.un .not (.t 14)),
 vo 12 (.asg (.t 15))])
 (.cond (.t 12)
 (.seq
 (.region false [4] [
 vo 16 (.build 63 [(.val (.int .i64 0)), (.nl 2)] [(0, 0, 1, (.c (.int .i64 3)))]),
 vn (.store 63 2 (.t 4) (.t 16))])
 .ret)
 (.seq
 (.region false [0, 1, 4, 17] [
 vo 18 (.mov (.t 1)),
 vo 19 (.len false 28 (.t 18)),
 vo 20 (.bin false .eql 3 (.t 19) (.c (.int .i64 0))),
 vo 17 (.asg (.t 20))])
 (.cond (.t 17)
 (.seq
 (.region false [4] [
 vo 21 (.build 63 [(.val (.int .i64 0)), (.nl 2)] [(0, 0, 1, (.c (.int .i64 4)))]),
 vn (.store 63 2 (.t 4) (.t 21))])
 .ret)
 .skip)))))
 (.seq
 (.region false [4] [
 vo 22 (.mov (.t 0)),
 vo 23 (.mov (.t 1)),
 vo 24 (.call 101 [(.t 22), (.t 23)]),
 vo 25 (.build 63 [(.val (.int .i64 0)), (.nl 2)] [(0, 0, 1, (.c (.int .i64 0))), (1, 1, 1, (.t 24))]),
 vn (.store 63 2 (.t 4) (.t 25))])
 .ret))))
 modes := [.lend, .lend]
 rets := [⟨4, some (true, 2)⟩] }

/-- loop.example/g00539/spec.SplitAmount -/
def v49 : VFun := {
 code :=
 (.seq
 (.region false [0, 1, 4] [
 vo 4 (.alloc 63 [(.val (.int .i64 0)), (.nl 2)])])
 (.seq
 (.seq
 (.region false [0, 1, 4, 5] [
 vo 6 (.mov (.t 1)),
 vo 7 (.call 107 [(.t 6)]),
 vo 5 (.asg (.t 7))])
 (.seq
 (.region false [0, 1, 4, 5, 9] [
 vo 8 (.mov (.t 5)),
 vo 9 (.bin false .neq 2 (.t 8) (.c (.int .i64 0)))])
 (.cond (.t 9)
 (.seq
 (.region false [4] [
 vo 10 (.mov (.t 5)),
 vo 11 (.build 63 [(.val (.int .i64 0)), (.nl 2)] [(0, 0, 1, (.t 10))]),
 vn (.store 63 2 (.t 4) (.t 11))])
 .ret)
 .skip)))
 (.seq
 (.seq
 (.region false [0, 1, 4, 14] [
 vo 12 (.mov (.t 0)),
 vo 13 (.call 115 [(.t 12)]),
 vo 14 (.un .not (.t 13))])
 (.cond (.t 14)
 (.seq
 (.region false [4] [
 vo 15 (.build 63 [(.val (.int .i64 0)), (.nl 2)] [(0, 0, 1, (.c (.int .i64 3)))]),
 vn (.store 63 2 (.t 4) (.t 15))])
 .ret)
 .skip))
 (.seq
 (.seq
 (.region false [0, 1, 4, 18] [
 vo 16 (.mov (.t 1)),
 vo 17 (.len false 28 (.t 16)),
 vo 18 (.bin false .eql 3 (.t 17) (.c (.int .i64 0)))])
 (.cond (.t 18)
 (.seq
 (.region false [4] [
 vo 19 (.build 63 [(.val (.int .i64 0)), (.nl 2)] [(0, 0, 1, (.c (.int .i64 4)))]),
 vn (.store 63 2 (.t 4) (.t 19))])
 .ret)
 .skip))
 (.seq
 (.region false [4] [
 vo 20 (.mov (.t 0)),
 vo 21 (.mov (.t 1)),
 vo 22 (.call 116 [(.t 20), (.t 21)]),
 vo 23 (.build 63 [(.val (.int .i64 0)), (.nl 2)] [(1, 1, 1, (.t 22))]),
 vn (.store 63 2 (.t 4) (.t 23))])
 .ret)))))
 modes := [.lend, .lend]
 rets := [⟨4, some (true, 2)⟩] }

/-- loop.example/g00539/spec.WindowFault -/
def v50 : VFun := {
 code :=
 (.seq
 (.region false [0] [
 vo 2 (.asg (.c (.int .i64 0)))])
 (.seq
 (.region false [2] [
 vo 3 (.mov (.t 0)),
 vo 4 (.call 107 [(.t 3)]),
 vo 2 (.asg (.t 4))])
 .ret))
 modes := [.lend]
 rets := [⟨2, none⟩] }

/-- loop.example/g00539/impl.isAmount -/
def v72 : VFun := {
 code :=
 (.seq
 (.region false [0] [
 vo 2 (.asg (.c (.bool false)))])
 (.seq
 (.region false [2] [
 vo 3 (.mov (.t 0)),
 vo 4 (.call 93 [(.t 3), (.c (.int .i64 0)), (.c (.int .i64 1000000))]),
 vo 2 (.asg (.t 4))])
 .ret))
 modes := [.lend]
 rets := [⟨2, none⟩] }

def b75_0 : VC :=
 (.seq
 (.region false [3, 6, 7, 8, 9] [
 vo 9 (.bin false .lss 3 (.t 8) (.t 7))])
 (.seq
 (.cond (.t 9)
 .skip
 (.exit 0))
 (.seq
 (.block 1
 (.seq
 (.region false [3, 5, 6, 7, 8] [
 vo 10 (.ia 28 46 2 (.t 6) (.t 8)),
 vo 11 (.load 46 true 2 (.t 10)),
 vo 5 (.alloc 46 [(.val (.string (⟨#[]⟩ : ByteArray))), (.val (.int .i64 0))]),
 vn (.store 46 2 (.t 5) (.t 11))])
 (.region false [3, 6, 7, 8] [
 vo 12 (.mov (.t 3)),
 vo 13 (.fa 46 1 1 1 (.t 5)),
 vo 14 (.load 2 false 1 (.t 13)),
 vo 15 (.bin false .add 2 (.t 12) (.t 14)),
 vo 3 (.asg (.t 15))])))
 (.region false [3, 6, 7, 8] [
 vo 16 (.bin false .add 3 (.t 8) (.c (.int .i64 1))),
 vo 8 (.mov (.t 16))]))))
def l75_0 : VC := .loop b75_0
/-- loop.example/g00539/impl.amounts -/
def v75 : VFun := {
 code :=
 (.seq
 (.region false [0] [
 vo 2 (.asg (.c (.int .i64 0)))])
 (.seq
 (.region false [0, 3] [
 vo 3 (.asg (.c (.int .i64 0)))])
 (.seq
 (.seq
 (.region false [3, 6, 7, 8] [
 vo 6 (.mov (.t 0)),
 vo 7 (.len false 28 (.t 6)),
 vo 8 (.mov (.c (.int .i64 0)))])
 (.block 0
 l75_0))
 (.seq
 (.region false [2] [
 vo 17 (.mov (.t 3)),
 vo 2 (.asg (.t 17))])
 .ret))))
 modes := [.lend]
 rets := [⟨2, none⟩] }

def b79_0 : VC :=
 (.seq
 (.seq
 (.region false [0, 1, 5, 9] [
 vo 6 (.mov (.t 5)),
 vo 7 (.mov (.t 0)),
 vo 8 (.len false 28 (.t 7)),
 vo 9 (.bin false .lss 3 (.t 6) (.t 8))])
 (.cond (.t 9)
 .skip
 (.exit 0)))
 (.seq
 (.block 1
 (.seq
 (.region false [0, 1, 5, 18] [
 vo 12 (.mov (.t 0)),
 vo 13 (.mov (.t 5)),
 vo 14 (.ia 28 46 2 (.t 12) (.t 13)),
 vo 15 (.fa 46 0 0 1 (.t 14)),
 vo 16 (.load 9 false 1 (.t 15)),
 vo 17 (.mov (.t 1)),
 vo 18 (.bin false .eql 9 (.t 16) (.t 17))])
 (.cond (.t 18)
 (.seq
 (.region false [4] [
 vo 19 (.mov (.t 5)),
 vo 4 (.asg (.t 19))])
 .ret)
 .skip)))
 (.region false [0, 1, 5] [
 vo 10 (.mov (.t 5)),
 vo 11 (.bin false .add 3 (.t 10) (.c (.int .i64 1))),
 vo 5 (.asg (.t 11))])))
def l79_0 : VC := .loop b79_0
/-- loop.example/g00539/spec.l13At -/
def v79 : VFun := {
 code :=
 (.seq
 (.region false [0, 1] [
 vo 4 (.asg (.c (.int .i64 0)))])
 (.seq
 (.seq
 (.region false [0, 1, 5] [
 vo 5 (.asg (.c (.int .i64 0)))])
 (.block 0
 l79_0))
 (.seq
 (.region false [4] [
 vo 4 (.asg (.c (.int .i64 (-1))))])
 .ret)))
 modes := [.lend, .lend]
 rets := [⟨4, none⟩] }

/-- loop.example/g00539/impl.in -/
def v93 : VFun := {
 code :=
 (.seq
 (.region false [0, 1, 2] [
 vo 6 (.asg (.c (.bool false)))])
 (.seq
 (.region false [6] [
 vo 7 (.mov (.t 0)),
 vo 8 (.mov (.t 1)),
 vo 9 (.bin false .geq 2 (.t 7) (.t 8)),
 vo 10 (.mov (.t 9)),
 ⟨some 11, .mov (.t 0), some (10, true), []⟩,
 ⟨some 12, .mov (.t 2), some (10, true), []⟩,
 ⟨some 13, .bin false .leq 2 (.t 11) (.t 12), some (10, true), []⟩,
 vo 14 (.pick (.t 10) (.t 13) (.c (.bool false))),
 vo 6 (.asg (.t 14))])
 .ret))
 modes := [.lend, .lend, .lend]
 rets := [⟨6, none⟩] }

/-- loop.example/g00539/impl.weightAt -/
def v94 : VFun := {
 code :=
 (.seq
 (.region false [0, 3] [
 vo 3 (.box 9 (.t 1)),
 vo 4 (.asg (.c (.int .i64 0)))])
 (.seq
 (.region false [4] [
 vo 5 (.mov (.t 0)),
 vo 6 (.fn 148 [] [(.t 3)]),
 vo 7 (.call 147 [(.t 5), (.t 6)]),
 vo 4 (.asg (.t 7))])
 .ret))
 modes := [.lend, .lend]
 rets := [⟨4, none⟩] }

def b101_1 : VC :=
 (.seq
 (.region false [5, 7, 14, 17, 42, 49, 50, 51] [
 vo 51 (.bin false .lss 2 (.t 50) (.t 49))])
 (.seq
 (.cond (.t 51)
 .skip
 (.exit 2))
 (.seq
 (.block 3
 (.seq
 (.region false [5, 7, 12, 14, 17, 42, 49, 50] [
 vo 52 (.mov (.t 7)),
 vo 53 (.mov (.t 7)),
 vo 54 (.call 152 [(.t 53)]),
 vo 55 (.call 151 [(.t 52), (.t 54)]),
 vo 12 (.asg (.t 55))])
 (.seq
 (.region false [5, 7, 12, 14, 17, 42, 49, 50] [
 vo 56 (.mov (.t 5)),
 vo 57 (.mov (.t 12)),
 vo 58 (.ia 28 46 2 (.t 56) (.t 57)),
 vo 59 (.fa 46 1 1 1 (.t 58)),
 vo 60 (.load 2 false 1 (.t 59)),
 vo 61 (.bin false .add 2 (.t 60) (.c (.int .i64 1))),
 vo 62 (.ia 28 46 2 (.t 56) (.t 57)),
 vo 63 (.fa 46 1 1 1 (.t 62)),
 vn (.store 2 1 (.t 63) (.t 61))])
 (.region false [5, 7, 14, 17, 42, 49, 50] [
 vo 64 (.mov (.t 7)),
 vo 65 (.mov (.t 12)),
 vo 66 (.ia 172 2 1 (.t 64) (.t 65)),
 vn (.store 2 1 (.t 66) (.c (.int .i64 (-1))))]))))
 (.region false [5, 7, 14, 17, 42, 49, 50] [
 vo 67 (.bin false .add 2 (.t 50) (.c (.int .i64 1))),
 vo 50 (.mov (.t 67))]))))
def l101_1 : VC := .loop b101_1
def b101_0 : VC :=
 (.seq
 (.region false [0, 5, 6, 7, 8, 14, 17, 19, 20, 21, 22, 42] [
 vo 22 (.bin false .lss 3 (.t 21) (.t 20))])
 (.seq
 (.cond (.t 22)
 .skip
 (.exit 0))
 (.seq
 (.block 1
 (.seq
 (.region false [0, 5, 6, 7, 8, 9, 10, 14, 17, 19, 20, 21, 42] [
 vo 23 (.mov (.t 21)),
 vo 24 (.ia 28 46 2 (.t 19) (.t 21)),
 vo 25 (.load 46 true 2 (.t 24)),
 vo 10 (.alloc 46 [(.val (.string (⟨#[]⟩ : ByteArray))), (.val (.int .i64 0))]),
 vo 9 (.asg (.t 23)),
 vn (.store 46 2 (.t 10) (.t 25))])
 (.seq
 (.region false [0, 5, 6, 7, 8, 9, 11, 14, 17, 19, 20, 21, 42] [
 vo 26 (.mov (.t 0)),
 vo 27 (.fa 46 1 1 1 (.t 10)),
 vo 28 (.load 2 false 1 (.t 27)),
 vo 29 (.bin false .mul 2 (.t 26) (.t 28)),
 vo 11 (.asg (.t 29))])
 (.seq
 (.region false [0, 5, 6, 7, 8, 11, 14, 17, 19, 20, 21, 42] [
 vo 30 (.mov (.t 5)),
 vo 31 (.mov (.t 9)),
 vo 32 (.mov (.t 11)),
 vo 33 (.mov (.t 6)),
 vo 34 (.bin false .quo 2 (.t 32) (.t 33)),
 vo 35 (.ia 28 46 2 (.t 30) (.t 31)),
 vo 36 (.fa 46 1 1 1 (.t 35)),
 vn (.store 2 1 (.t 36) (.t 34))])
 (.seq
 (.region false [0, 5, 6, 7, 8, 11, 14, 17, 19, 20, 21, 42] [
 vo 37 (.mov (.t 7)),
 vo 38 (.mov (.t 11)),
 vo 39 (.mov (.t 6)),
 vo 40 (.bin false .rem 2 (.t 38) (.t 39)),
 vo 41 (.lit 172 2 1 1 [(.val (.int .i64 0))] [(0, (.t 40))]),
 vo 42 (.app 172 2 1 8 (.t 37) (.t 41)),
 vo 7 (.asg (.t 42))])
 (.region false [0, 5, 6, 7, 8, 14, 17, 19, 20, 21, 42] [
 vo 43 (.mov (.t 8)),
 vo 44 (.mov (.t 11)),
 vo 45 (.mov (.t 6)),
 vo 46 (.bin false .quo 2 (.t 44) (.t 45)),
 vo 47 (.bin false .sub 2 (.t 43) (.t 46)),
 vo 8 (.asg (.t 47))]))))))
 (.region false [0, 5, 6, 7, 8, 14, 17, 19, 20, 21, 42] [
 vo 48 (.bin false .add 3 (.t 21) (.c (.int .i64 1))),
 vo 21 (.mov (.t 48))]))))
def l101_0 : VC := .loop b101_0
/-- loop.example/g00539/impl.divided -/
def v101 : VFun := {
 code :=
 (.seq
 (.region false [0, 1] [
 vo 4 (.asg (.n 2))])
 (.seq
 (.region false [0, 5, 6, 7, 14, 17, 42] [
 vo 13 (.mov (.t 1)),
 vo 14 (.call 112 [(.t 13)]),
 vo 15 (.mov (.t 1)),
 vo 16 (.call 75 [(.t 15)]),
 vo 17 (.lit 172 2 1 0 [(.val (.int .i64 0))] []),
 vo 5 (.asg (.t 14)),
 vo 6 (.asg (.t 16)),
 vo 7 (.asg (.t 17))])
 (.seq
 (.region false [0, 5, 6, 7, 8, 14, 17, 42] [
 vo 18 (.mov (.t 0)),
 vo 8 (.asg (.t 18))])
 (.seq
 (.seq
 (.region false [0, 5, 6, 7, 8, 14, 17, 19, 20, 21, 42] [
 vo 19 (.mov (.t 5)),
 vo 20 (.len false 28 (.t 19)),
 vo 21 (.mov (.c (.int .i64 0)))])
 (.block 0
 l101_0))
 (.seq
 (.seq
 (.region false [5, 7, 14, 17, 42, 49, 50] [
 vo 49 (.mov (.t 8)),
 vo 50 (.mov (.c (.int .i64 0)))])
 (.block 2
 l101_1))
 (.seq
 (.region false [4, 5, 14] [
 vo 68 (.mov (.t 5)),
 vo 4 (.asg (.t 68))])
 .ret))))))
 modes := [.lend, .lend]
 rets := [⟨4, none⟩] }

/-- loop.example/g00539/spec.l1Source -/
def v102 : VFun := {
 code :=
 (.seq
 (.region false [0] [
 vo 2 (.asg (.c (.pointer none)))])
 (.seq
 (.region false [2, 5] [
 vo 3 (.mov (.t 0)),
 vo 4 (.build 176 [(.nl 1), (.val (.int .i64 0))] [(0, 0, 1, (.t 3))]),
 vo 5 (.box 176 (.t 4)),
 vo 2 (.asg (.t 5))])
 .ret))
 modes := [.lend]
 rets := [⟨2, none⟩] }

/-- loop.example/g00539/spec.l13Bent -/
def v103 : VFun := {
 code :=
 (.seq
 (.region false [0] [
 vo 2 (.asg (.n 2))])
 (.seq
 (.region false [0, 3, 5, 21, 24] [
 vo 4 (.mov (.t 0)),
 vo 5 (.call 153 [(.t 4)]),
 vo 3 (.asg (.t 5))])
 (.seq
 (.seq
 (.region false [0, 3, 5, 7, 21, 24] [
 vo 6 (.mov (.t 0)),
 vo 7 (.call 114 [(.t 6), (.c (.int .i64 12))])])
 (.block 0
 (.seq
 (.region false [0, 3, 5, 7, 8, 21, 24] [
 vo 9 (.bin false .eql 2 (.t 7) (.c (.int .i64 0))),
 vo 8 (.asg (.t 9))])
 (.cond (.t 8)
 (.region true [0, 3, 5, 21, 24] [
 vo 10 (.mov (.t 3)),
 ⟨some 11, .lit 136 9 1 3 [(.val (.string (⟨#[]⟩ : ByteArray)))] [(0, (.c (.string (⟨#[]⟩ : ByteArray)))), (1, (.c (.string (⟨#[97, 32, 98]⟩ : ByteArray)))), (2, (.c (.string (⟨#[111, 107]⟩ : ByteArray))))], none, [0]⟩,
 ⟨some 12, .mov (.t 0), none, [0, 1]⟩,
 ⟨some 13, .call 114 [(.t 12), (.c (.int .i64 3))], none, [0, 1]⟩,
 ⟨some 14, .ia 136 9 1 (.t 11) (.t 13), none, [0]⟩,
 ⟨some 15, .load 9 false 1 (.t 14), none, [0]⟩,
 ⟨some 16, .mov (.t 0), none, [0, 1, 2, 3, 4, 5]⟩,
 ⟨some 17, .lit 172 2 1 3 [(.val (.int .i64 0))] [(0, (.c (.int .i64 0))), (1, (.c (.int .i64 1))), (2, (.c (.int .i64 10000)))], none, [0, 1, 2, 3, 4, 5, 6]⟩,
 ⟨some 18, .call 105 [(.t 16), (.t 17)], none, [0, 1, 4, 5]⟩,
 ⟨some 19, .build 46 [(.val (.string (⟨#[]⟩ : ByteArray))), (.val (.int .i64 0))] [(0, 0, 1, (.t 15)), (1, 1, 1, (.t 18))], none, [0]⟩,
 ⟨some 20, .lit 28 46 2 1 [(.val (.string (⟨#[]⟩ : ByteArray))), (.val (.int .i64 0))] [(0, (.t 19))], none, [0]⟩,
 vo 21 (.app 28 46 2 24 (.t 10) (.t 20)),
 vo 3 (.asg (.t 21))])
 (.seq
 (.region false [0, 3, 5, 21, 22, 24] [
 vo 23 (.bin false .eql 2 (.t 7) (.c (.int .i64 1))),
 vo 22 (.asg (.t 23))])
 (.cond (.t 22)
 (.region false [0, 3, 5, 21, 24] [
 vo 24 (.mk 28 46 2 24 [(.val (.string (⟨#[]⟩ : ByteArray))), (.val (.int .i64 0))] (.c (.int .i64 13)) (.c (.int .i64 13))),
 vo 3 (.asg (.t 24))])
 .skip))))))
 (.seq
 (.region false [0, 2, 3, 5, 21, 24] [
 vo 25 (.mov (.t 3)),
 vo 2 (.asg (.t 25))])
 .ret))))
 modes := [.io]
 rets := [⟨2, none⟩] }

/-- loop.example/g00539/spec.l13Worker -/
def v104 : VFun := {
 code :=
 (.seq
 (.region false [0] [
 vo 2 (.asg (.c (.string (⟨#[]⟩ : ByteArray))))])
 (.seq
 (.region false [0, 2] [
 vo 3 (.lit 136 9 1 4 [(.val (.string (⟨#[]⟩ : ByteArray)))] [(0, (.c (.string (⟨#[98, 111, 98]⟩ : ByteArray)))), (1, (.c (.string (⟨#[97, 110, 110]⟩ : ByteArray)))), (2, (.c (.string (⟨#[101, 118, 101]⟩ : ByteArray)))), (3, (.c (.string (⟨#[120, 49]⟩ : ByteArray))))]),
 vo 4 (.mov (.t 0)),
 vo 5 (.call 114 [(.t 4), (.c (.int .i64 4))]),
 vo 6 (.ia 136 9 1 (.t 3) (.t 5)),
 vo 7 (.load 9 false 1 (.t 6)),
 vo 2 (.asg (.t 7))])
 .ret))
 modes := [.io]
 rets := [⟨2, none⟩] }

/-- loop.example/g00539/spec.l1Pick -/
def v105 : VFun := {
 code :=
 (.seq
 (.region false [0, 1] [
 vo 4 (.asg (.c (.int .i64 0)))])
 (.seq
 (.region false [0, 4] [
 vo 5 (.mov (.t 1)),
 vo 6 (.mov (.t 0)),
 vo 7 (.mov (.t 1)),
 vo 8 (.len false 172 (.t 7)),
 vo 9 (.call 114 [(.t 6), (.t 8)]),
 vo 10 (.ia 172 2 1 (.t 5) (.t 9)),
 vo 11 (.load 2 false 1 (.t 10)),
 vo 4 (.asg (.t 11))])
 .ret))
 modes := [.io, .lend]
 rets := [⟨4, none⟩] }

def b107_0 : VC :=
 (.seq
 (.seq
 (.region false [0, 3, 11] [
 vo 8 (.mov (.t 3)),
 vo 9 (.mov (.t 0)),
 vo 10 (.len false 28 (.t 9)),
 vo 11 (.bin false .lss 3 (.t 8) (.t 10))])
 (.cond (.t 11)
 .skip
 (.exit 0)))
 (.seq
 (.block 1
 (.seq
 (.region false [0, 3, 4] [
 vo 14 (.mov (.t 0)),
 vo 15 (.mov (.t 3)),
 vo 16 (.ia 28 46 2 (.t 14) (.t 15)),
 vo 17 (.call 109 [(.t 16)]),
 vo 4 (.asg (.t 17))])
 (.seq
 (.region false [0, 3, 4, 19] [
 vo 18 (.mov (.t 4)),
 vo 19 (.bin false .neq 2 (.t 18) (.c (.int .i64 0)))])
 (.cond (.t 19)
 (.seq
 (.region false [2] [
 vo 20 (.mov (.t 4)),
 vo 2 (.asg (.t 20))])
 .ret)
 .skip))))
 (.region false [0, 3] [
 vo 12 (.mov (.t 3)),
 vo 13 (.bin false .add 3 (.t 12) (.c (.int .i64 1))),
 vo 3 (.asg (.t 13))])))
def l107_0 : VC := .loop b107_0
/-- loop.example/g00539/spec.l13Fault -/
def v107 : VFun := {
 code :=
 (.seq
 (.region false [0] [
 vo 2 (.asg (.c (.int .i64 0)))])
 (.seq
 (.seq
 (.region false [0, 7] [
 vo 5 (.mov (.t 0)),
 vo 6 (.len false 28 (.t 5)),
 vo 7 (.bin false .gtr 3 (.t 6) (.c (.int .i64 12)))])
 (.cond (.t 7)
 (.seq
 (.region false [2] [
 vo 2 (.asg (.c (.int .i64 2)))])
 .ret)
 .skip))
 (.seq
 (.seq
 (.region false [0, 3] [
 vo 3 (.asg (.c (.int .i64 0)))])
 (.block 0
 l107_0))
 (.seq
 (.region false [2] [
 vo 2 (.asg (.c (.int .i64 0)))])
 .ret))))
 modes := [.lend]
 rets := [⟨2, none⟩] }

def b108_0 : VC :=
 (.seq
 (.seq
 (.region false [0, 3, 4, 6, 10, 43] [
 vo 7 (.mov (.t 4)),
 vo 8 (.mov (.t 0)),
 vo 9 (.len false 28 (.t 8)),
 vo 10 (.bin false .lss 3 (.t 7) (.t 9))])
 (.cond (.t 10)
 .skip
 (.exit 0)))
 (.seq
 (.block 1
 (.seq
 (.region false [0, 3, 4, 5, 6, 43] [
 vo 13 (.mov (.t 3)),
 vo 14 (.mov (.t 0)),
 vo 15 (.mov (.t 4)),
 vo 16 (.ia 28 46 2 (.t 14) (.t 15)),
 vo 17 (.fa 46 0 0 1 (.t 16)),
 vo 18 (.load 9 false 1 (.t 17)),
 vo 19 (.call 79 [(.t 13), (.t 18)]),
 vo 5 (.asg (.t 19))])
 (.seq
 (.region false [0, 3, 4, 5, 6, 21, 43] [
 vo 20 (.mov (.t 5)),
 vo 21 (.bin false .geq 3 (.t 20) (.c (.int .i64 0)))])
 (.cond (.t 21)
 (.region true [0, 3, 4, 6, 43] [
 vo 22 (.mov (.t 3)),
 ⟨some 23, .mov (.t 5), none, [0]⟩,
 ⟨some 24, .mov (.t 3), none, [0, 1]⟩,
 ⟨some 25, .mov (.t 5), none, [0, 1, 2]⟩,
 ⟨some 26, .ia 28 46 2 (.t 24) (.t 25), none, [0, 1]⟩,
 ⟨some 27, .fa 46 1 1 1 (.t 26), none, [0, 1]⟩,
 ⟨some 28, .load 2 false 1 (.t 27), none, [0, 1]⟩,
 ⟨some 29, .mov (.t 0), none, [0, 1, 2, 3, 4, 5, 6]⟩,
 ⟨some 30, .mov (.t 4), none, [0, 1, 2, 3, 4, 5, 6, 7]⟩,
 ⟨some 31, .ia 28 46 2 (.t 29) (.t 30), none, [0, 1, 2, 3, 4, 5, 6]⟩,
 ⟨some 32, .fa 46 1 1 1 (.t 31), none, [0, 1, 2, 3, 4, 5, 6]⟩,
 ⟨some 33, .load 2 false 1 (.t 32), none, [0, 1, 2, 3, 4, 5, 6]⟩,
 ⟨some 34, .bin false .add 2 (.t 28) (.t 33), none, [0, 1]⟩,
 vo 35 (.ia 28 46 2 (.t 22) (.t 23)),
 vo 36 (.fa 46 1 1 1 (.t 35)),
 vn (.store 2 1 (.t 36) (.t 34))])
 (.region false [0, 3, 4, 6, 43] [
 vo 37 (.mov (.t 3)),
 vo 38 (.mov (.t 0)),
 vo 39 (.mov (.t 4)),
 vo 40 (.ia 28 46 2 (.t 38) (.t 39)),
 vo 41 (.load 46 true 2 (.t 40)),
 vo 42 (.lit 28 46 2 1 [(.val (.string (⟨#[]⟩ : ByteArray))), (.val (.int .i64 0))] [(0, (.t 41))]),
 vo 43 (.app 28 46 2 24 (.t 37) (.t 42)),
 vo 3 (.asg (.t 43))])))))
 (.region false [0, 3, 4, 6, 43] [
 vo 11 (.mov (.t 4)),
 vo 12 (.bin false .add 3 (.t 11) (.c (.int .i64 1))),
 vo 4 (.asg (.t 12))])))
def l108_0 : VC := .loop b108_0
/-- loop.example/g00539/spec.l13Merge -/
def v108 : VFun := {
 code :=
 (.seq
 (.region false [0] [
 vo 2 (.asg (.n 2))])
 (.seq
 (.region false [0, 3, 6, 43] [
 vo 6 (.lit 28 46 2 0 [(.val (.string (⟨#[]⟩ : ByteArray))), (.val (.int .i64 0))] []),
 vo 3 (.asg (.t 6))])
 (.seq
 (.seq
 (.region false [0, 3, 4, 6, 43] [
 vo 4 (.asg (.c (.int .i64 0)))])
 (.block 0
 l108_0))
 (.seq
 (.region false [2, 3, 6, 43] [
 vo 44 (.mov (.t 3)),
 vo 2 (.asg (.t 44))])
 .ret))))
 modes := [.lend]
 rets := [⟨2, none⟩] }

/-- loop.example/g00539/spec.l13One -/
def v109 : VFun := {
 code :=
 (.seq
 (.region false [0] [
 vo 2 (.asg (.c (.int .i64 0)))])
 (.seq
 (.seq
 (.region false [0, 15] [
 vo 3 (.mov (.t 0)),
 vo 4 (.nilc (.t 3)),
 vo 5 (.fa 46 0 0 1 (.t 4)),
 vo 6 (.load 9 false 1 (.t 5)),
 vo 7 (.bin false .eql 9 (.t 6) (.c (.string (⟨#[]⟩ : ByteArray)))),
 vo 8 (.mov (.t 7)),
 ⟨some 9, .mov (.t 0), some (8, false), []⟩,
 ⟨some 10, .nilc (.t 9), some (8, false), []⟩,
 ⟨some 11, .fa 46 0 0 1 (.t 10), some (8, false), []⟩,
 ⟨some 12, .load 9 false 1 (.t 11), some (8, false), []⟩,
 ⟨some 13, .call 154 [(.t 12)], some (8, false), []⟩,
 ⟨some 14, .un .not (.t 13), some (8, false), []⟩,
 vo 15 (.pick (.t 8) (.c (.bool true)) (.t 14))])
 (.cond (.t 15)
 (.seq
 (.region false [2] [
 vo 2 (.asg (.c (.int .i64 5)))])
 .ret)
 .skip))
 (.seq
 (.seq
 (.region false [21] [
 vo 16 (.mov (.t 0)),
 vo 17 (.nilc (.t 16)),
 vo 18 (.fa 46 1 1 1 (.t 17)),
 vo 19 (.load 2 false 1 (.t 18)),
 vo 20 (.call 110 [(.t 19), (.c (.int .i64 1)), (.c (.int .i64 9999))]),
 vo 21 (.un .not (.t 20))])
 (.cond (.t 21)
 (.seq
 (.region false [2] [
 vo 2 (.asg (.c (.int .i64 3)))])
 .ret)
 .skip))
 (.seq
 (.region false [2] [
 vo 2 (.asg (.c (.int .i64 0)))])
 .ret))))
 modes := [.lend]
 rets := [⟨2, none⟩] }

/-- loop.example/g00539/spec.l1In -/
def v110 : VFun := {
 code :=
 (.seq
 (.region false [0, 1, 2] [
 vo 6 (.asg (.c (.bool false)))])
 (.seq
 (.region false [6] [
 vo 7 (.mov (.t 0)),
 vo 8 (.mov (.t 1)),
 vo 9 (.bin false .geq 2 (.t 7) (.t 8)),
 vo 10 (.mov (.t 9)),
 ⟨some 11, .mov (.t 0), some (10, true), []⟩,
 ⟨some 12, .mov (.t 2), some (10, true), []⟩,
 ⟨some 13, .bin false .leq 2 (.t 11) (.t 12), some (10, true), []⟩,
 vo 14 (.pick (.t 10) (.t 13) (.c (.bool false))),
 vo 6 (.asg (.t 14))])
 .ret))
 modes := [.lend, .lend, .lend]
 rets := [⟨6, none⟩] }

def b112_0 : VC :=
 (.seq
 (.region false [3, 7, 8, 9, 10, 11, 33] [
 vo 11 (.bin false .lss 3 (.t 10) (.t 9))])
 (.seq
 (.cond (.t 11)
 .skip
 (.exit 0))
 (.seq
 (.block 1
 (.seq
 (.region false [3, 5, 7, 8, 9, 10, 33] [
 vo 12 (.ia 28 46 2 (.t 8) (.t 10)),
 vo 13 (.load 46 true 2 (.t 12)),
 vo 5 (.alloc 46 [(.val (.string (⟨#[]⟩ : ByteArray))), (.val (.int .i64 0))]),
 vn (.store 46 2 (.t 5) (.t 13))])
 (.seq
 (.region false [3, 5, 6, 7, 8, 9, 10, 33] [
 vo 14 (.mov (.t 3)),
 vo 15 (.fa 46 0 0 1 (.t 5)),
 vo 16 (.load 9 false 1 (.t 15)),
 vo 17 (.call 94 [(.t 14), (.t 16)]),
 vo 6 (.asg (.t 17))])
 (.seq
 (.region false [3, 5, 6, 7, 8, 9, 10, 19, 33] [
 vo 18 (.mov (.t 6)),
 vo 19 (.bin false .geq 3 (.t 18) (.c (.int .i64 0)))])
 (.cond (.t 19)
 (.region true [3, 7, 8, 9, 10, 33] [
 vo 20 (.mov (.t 3)),
 ⟨some 21, .mov (.t 6), none, [0]⟩,
 vo 22 (.ia 28 46 2 (.t 20) (.t 21)),
 vo 23 (.fa 46 1 1 1 (.t 22)),
 vo 24 (.load 2 false 1 (.t 23)),
 ⟨some 25, .fa 46 1 1 1 (.t 5), none, [0, 1, 2, 3, 4]⟩,
 ⟨some 26, .load 2 false 1 (.t 25), none, [0, 1, 2, 3, 4]⟩,
 vo 27 (.bin false .add 2 (.t 24) (.t 26)),
 vo 28 (.ia 28 46 2 (.t 20) (.t 21)),
 vo 29 (.fa 46 1 1 1 (.t 28)),
 vn (.store 2 1 (.t 29) (.t 27))])
 (.region false [3, 7, 8, 9, 10, 33] [
 vo 30 (.mov (.t 3)),
 vo 31 (.load 46 true 2 (.t 5)),
 vo 32 (.lit 28 46 2 1 [(.val (.string (⟨#[]⟩ : ByteArray))), (.val (.int .i64 0))] [(0, (.t 31))]),
 vo 33 (.app 28 46 2 24 (.t 30) (.t 32)),
 vo 3 (.asg (.t 33))]))))))
 (.region false [3, 7, 8, 9, 10, 33] [
 vo 34 (.bin false .add 3 (.t 10) (.c (.int .i64 1))),
 vo 10 (.mov (.t 34))]))))
def l112_0 : VC := .loop b112_0
/-- loop.example/g00539/impl.merged -/
def v112 : VFun := {
 code :=
 (.seq
 (.region false [0] [
 vo 2 (.asg (.n 2))])
 (.seq
 (.region false [0, 3, 7, 33] [
 vo 7 (.lit 28 46 2 0 [(.val (.string (⟨#[]⟩ : ByteArray))), (.val (.int .i64 0))] []),
 vo 3 (.asg (.t 7))])
 (.seq
 (.seq
 (.region false [3, 7, 8, 9, 10, 33] [
 vo 8 (.mov (.t 0)),
 vo 9 (.len false 28 (.t 8)),
 vo 10 (.mov (.c (.int .i64 0)))])
 (.block 0
 l112_0))
 (.seq
 (.region false [2, 3, 7, 33] [
 vo 35 (.mov (.t 3)),
 vo 2 (.asg (.t 35))])
 .ret))))
 modes := [.lend]
 rets := [⟨2, none⟩] }

/-- loop.example/g00539/impl.workerOk -/
def v113 : VFun := {
 code :=
 (.seq
 (.region false [0] [
 vo 2 (.asg (.c (.bool false)))])
 (.seq
 (.region false [2] [
 vo 3 (.mov (.t 0)),
 vo 4 (.bin false .neq 9 (.t 3) (.c (.string (⟨#[]⟩ : ByteArray)))),
 vo 5 (.mov (.t 4)),
 ⟨some 6, .mov (.t 0), some (5, true), []⟩,
 ⟨some 7, .call 155 [(.t 6)], some (5, true), []⟩,
 vo 8 (.pick (.t 5) (.t 7) (.c (.bool false))),
 vo 2 (.asg (.t 8))])
 .ret))
 modes := [.lend]
 rets := [⟨2, none⟩] }

/-- loop.example/g00539/spec.l1Next -/
def v114 : VFun := {
 code :=
 (.seq
 (.region false [0, 1] [
 vo 4 (.asg (.c (.int .i64 0)))])
 (.seq
 (.region false [0, 1] [
 vo 8 (.mov (.t 0)),
 vo 9 (.mov (.t 0)),
 vo 10 (.nilc (.t 9)),
 vo 11 (.fa 176 1 1 1 (.t 10)),
 vo 12 (.load 2 false 1 (.t 11)),
 vo 13 (.bin false .add 2 (.t 12) (.c (.int .i64 1))),
 vo 14 (.nilc (.t 8)),
 vo 15 (.fa 176 1 1 1 (.t 14)),
 vn (.store 2 1 (.t 15) (.t 13))])
 (.seq
 (.seq
 (.region false [0, 1, 17] [
 vo 16 (.mov (.t 1)),
 vo 17 (.bin false .lss 2 (.t 16) (.c (.int .i64 1)))])
 (.cond (.t 17)
 (.seq
 (.region false [0, 4] [
 vo 4 (.asg (.c (.int .i64 0)))])
 .ret)
 .skip))
 (.seq
 (.region false [0, 1, 5] [
 vo 18 (.mov (.t 0)),
 vo 19 (.nilc (.t 18)),
 vo 20 (.fa 176 1 1 1 (.t 19)),
 vo 21 (.load 2 false 1 (.t 20)),
 vo 22 (.bin false .sub 2 (.t 21) (.c (.int .i64 1))),
 vo 5 (.asg (.t 22))])
 (.seq
 (.region false [0, 1, 5, 6] [
 vo 23 (.mov (.t 0)),
 vo 24 (.nilc (.t 23)),
 vo 25 (.fa 176 0 0 1 (.t 24)),
 vo 26 (.load 58 false 1 (.t 25)),
 vo 27 (.len false 58 (.t 26)),
 vo 6 (.asg (.t 27))])
 (.seq
 (.seq
 (.region false [0, 1, 5, 6, 29] [
 vo 28 (.mov (.t 6)),
 vo 29 (.bin false .eql 2 (.t 28) (.c (.int .i64 0)))])
 (.cond (.t 29)
 (.seq
 (.region false [0, 4] [
 vo 30 (.mov (.t 5)),
 vo 31 (.bin false .mul 2 (.t 30) (.c (.int .i64 7))),
 vo 32 (.mov (.t 1)),
 vo 33 (.bin false .rem 2 (.t 31) (.t 32)),
 vo 4 (.asg (.t 33))])
 .ret)
 .skip))
 (.seq
 (.region true [0, 1, 5, 6, 7] [
 vo 34 (.mov (.t 0)),
 vo 35 (.nilc (.t 34)),
 vo 36 (.fa 176 0 0 1 (.t 35)),
 vo 37 (.load 58 false 1 (.t 36)),
 ⟨some 38, .mov (.t 5), none, [0, 1, 2, 3]⟩,
 ⟨some 39, .mov (.t 6), none, [0, 1, 2, 3, 4]⟩,
 ⟨some 40, .bin false .rem 2 (.t 38) (.t 39), none, [0, 1, 2, 3]⟩,
 vo 41 (.ia 58 5 1 (.t 37) (.t 40)),
 vo 42 (.load 5 false 1 (.t 41)),
 vo 43 (.conv 5 2 .i64 (.t 42)),
 ⟨some 44, .mov (.t 5), none, [0, 1, 2, 3, 4, 5, 6, 7, 8, 9]⟩,
 ⟨some 45, .mov (.t 6), none, [0, 1, 2, 3, 4, 5, 6, 7, 8, 9, 10]⟩,
 ⟨some 46, .bin false .quo 2 (.t 44) (.t 45), none, [0, 1, 2, 3, 4, 5, 6, 7, 8, 9]⟩,
 ⟨some 47, .bin false .mul 2 (.t 46) (.c (.int .i64 37)), none, [0, 1, 2, 3, 4, 5, 6, 7, 8, 9]⟩,
 vo 48 (.bin false .add 2 (.t 43) (.t 47)),
 vo 7 (.asg (.t 48))])
 (.seq
 (.seq
 (.region false [0, 1, 5, 6, 7, 50] [
 vo 49 (.mov (.t 1)),
 vo 50 (.bin false .gtr 2 (.t 49) (.c (.int .i64 200)))])
 (.cond (.t 50)
 (.region true [0, 1, 7] [
 vo 51 (.mov (.t 7)),
 vo 52 (.bin false .mul 2 (.t 51) (.c (.int .i64 251))),
 ⟨some 53, .mov (.t 0), none, [0, 1]⟩,
 ⟨some 54, .nilc (.t 53), none, [0, 1]⟩,
 ⟨some 55, .fa 176 0 0 1 (.t 54), none, [0, 1]⟩,
 ⟨some 56, .load 58 false 1 (.t 55), none, [0, 1]⟩,
 ⟨some 57, .mov (.t 5), none, [0, 1, 2, 3, 4, 5]⟩,
 ⟨some 58, .bin false .add 2 (.t 57) (.c (.int .i64 1)), none, [0, 1, 2, 3, 4, 5]⟩,
 ⟨some 59, .mov (.t 6), none, [0, 1, 2, 3, 4, 5, 6, 7]⟩,
 ⟨some 60, .bin false .rem 2 (.t 58) (.t 59), none, [0, 1, 2, 3, 4, 5]⟩,
 ⟨some 61, .ia 58 5 1 (.t 56) (.t 60), none, [0, 1]⟩,
 ⟨some 62, .load 5 false 1 (.t 61), none, [0, 1]⟩,
 ⟨some 63, .conv 5 2 .i64 (.t 62), none, [0, 1]⟩,
 ⟨some 64, .bin false .mul 2 (.t 63) (.c (.int .i64 13)), none, [0, 1]⟩,
 vo 65 (.bin false .add 2 (.t 52) (.t 64)),
 ⟨some 66, .mov (.t 5), none, [0, 1, 2, 3, 4, 5, 6, 7, 8, 9, 10, 11, 12, 13, 14]⟩,
 vo 67 (.bin false .add 2 (.t 65) (.t 66)),
 vo 7 (.asg (.t 67))])
 .skip))
 (.seq
 (.region false [0, 4] [
 vo 68 (.mov (.t 7)),
 vo 69 (.mov (.t 1)),
 vo 70 (.bin false .rem 2 (.t 68) (.t 69)),
 vo 4 (.asg (.t 70))])
 .ret)))))))))
 modes := [.io, .lend]
 rets := [⟨4, none⟩] }

/-- loop.example/g00539/spec.l1Amount -/
def v115 : VFun := {
 code :=
 (.seq
 (.region false [0] [
 vo 2 (.asg (.c (.bool false)))])
 (.seq
 (.region false [2] [
 vo 3 (.mov (.t 0)),
 vo 4 (.call 110 [(.t 3), (.c (.int .i64 0)), (.c (.int .i64 1000000))]),
 vo 2 (.asg (.t 4))])
 .ret))
 modes := [.lend]
 rets := [⟨2, none⟩] }

def b116_2 : VC :=
 (.seq
 (.seq
 (.region false [7, 8, 9, 12, 13, 18, 19, 45, 57, 68] [
 vo 65 (.mov (.t 13)),
 vo 66 (.mov (.t 8)),
 vo 67 (.len false 172 (.t 66)),
 vo 68 (.bin false .lss 3 (.t 65) (.t 67))])
 (.cond (.t 68)
 .skip
 (.exit 4)))
 (.seq
 (.block 5
 (.seq
 (.region true [7, 8, 9, 12, 13, 18, 19, 45, 57, 79] [
 vo 71 (.mov (.t 8)),
 ⟨some 72, .mov (.t 13), none, [0]⟩,
 vo 73 (.ia 172 2 1 (.t 71) (.t 72)),
 vo 74 (.load 2 false 1 (.t 73)),
 ⟨some 75, .mov (.t 8), none, [0, 1, 2, 3]⟩,
 ⟨some 76, .mov (.t 12), none, [0, 1, 2, 3, 4]⟩,
 ⟨some 77, .ia 172 2 1 (.t 75) (.t 76), none, [0, 1, 2, 3]⟩,
 ⟨some 78, .load 2 false 1 (.t 77), none, [0, 1, 2, 3]⟩,
 vo 79 (.bin false .gtr 2 (.t 74) (.t 78))])
 (.cond (.t 79)
 (.region false [7, 8, 9, 12, 13, 18, 19, 45, 57] [
 vo 80 (.mov (.t 13)),
 vo 12 (.asg (.t 80))])
 .skip)))
 (.region false [7, 8, 9, 12, 13, 18, 19, 45, 57] [
 vo 69 (.mov (.t 13)),
 vo 70 (.bin false .add 3 (.t 69) (.c (.int .i64 1))),
 vo 13 (.asg (.t 70))])))
def l116_2 : VC := .loop b116_2
def b116_1 : VC :=
 (.seq
 (.seq
 (.region false [7, 8, 9, 18, 19, 45, 57, 62] [
 vo 61 (.mov (.t 9)),
 vo 62 (.bin false .gtr 2 (.t 61) (.c (.int .i64 0)))])
 (.cond (.t 62)
 .skip
 (.exit 2)))
 (.seq
 (.block 3
 (.seq
 (.region false [7, 8, 9, 12, 18, 19, 45, 57] [
 vo 12 (.asg (.c (.int .i64 0)))])
 (.seq
 (.seq
 (.region false [7, 8, 9, 12, 13, 18, 19, 45, 57] [
 vo 13 (.asg (.c (.int .i64 1)))])
 (.block 4
 l116_2))
 (.seq
 (.region false [7, 8, 9, 12, 18, 19, 45, 57] [
 vo 81 (.mov (.t 7)),
 vo 82 (.mov (.t 12)),
 vo 83 (.ia 28 46 2 (.t 81) (.t 82)),
 vo 84 (.fa 46 1 1 1 (.t 83)),
 vo 85 (.load 2 false 1 (.t 84)),
 vo 86 (.bin false .add 2 (.t 85) (.c (.int .i64 1))),
 vo 87 (.ia 28 46 2 (.t 81) (.t 82)),
 vo 88 (.fa 46 1 1 1 (.t 87)),
 vn (.store 2 1 (.t 88) (.t 86))])
 (.region false [7, 8, 9, 18, 19, 45, 57] [
 vo 89 (.mov (.t 8)),
 vo 90 (.mov (.t 12)),
 vo 91 (.ia 172 2 1 (.t 89) (.t 90)),
 vn (.store 2 1 (.t 91) (.c (.int .i64 (-1))))])))))
 (.region false [7, 8, 9, 18, 19, 45, 57] [
 vo 63 (.mov (.t 9)),
 vo 64 (.bin false .sub 2 (.t 63) (.c (.int .i64 1))),
 vo 9 (.asg (.t 64))])))
def l116_1 : VC := .loop b116_1
def b116_0 : VC :=
 (.seq
 (.seq
 (.region false [0, 5, 6, 7, 8, 9, 10, 15, 18, 19, 24, 45, 57] [
 vo 21 (.mov (.t 10)),
 vo 22 (.mov (.t 5)),
 vo 23 (.len false 28 (.t 22)),
 vo 24 (.bin false .lss 3 (.t 21) (.t 23))])
 (.cond (.t 24)
 .skip
 (.exit 0)))
 (.seq
 (.block 1
 (.seq
 (.region false [0, 5, 6, 7, 8, 9, 10, 11, 15, 18, 19, 45, 57] [
 vo 27 (.mov (.t 0)),
 vo 28 (.mov (.t 5)),
 vo 29 (.mov (.t 10)),
 vo 30 (.ia 28 46 2 (.t 28) (.t 29)),
 vo 31 (.fa 46 1 1 1 (.t 30)),
 vo 32 (.load 2 false 1 (.t 31)),
 vo 33 (.bin false .mul 2 (.t 27) (.t 32)),
 vo 34 (.mov (.t 6)),
 vo 35 (.bin false .quo 2 (.t 33) (.t 34)),
 vo 11 (.asg (.t 35))])
 (.seq
 (.region false [0, 5, 6, 7, 8, 9, 10, 11, 15, 18, 19, 45, 57] [
 vo 36 (.mov (.t 7)),
 vo 37 (.mov (.t 5)),
 vo 38 (.mov (.t 10)),
 vo 39 (.ia 28 46 2 (.t 37) (.t 38)),
 vo 40 (.fa 46 0 0 1 (.t 39)),
 vo 41 (.load 9 false 1 (.t 40)),
 vo 42 (.mov (.t 11)),
 vo 43 (.build 46 [(.val (.string (⟨#[]⟩ : ByteArray))), (.val (.int .i64 0))] [(0, 0, 1, (.t 41)), (1, 1, 1, (.t 42))]),
 vo 44 (.lit 28 46 2 1 [(.val (.string (⟨#[]⟩ : ByteArray))), (.val (.int .i64 0))] [(0, (.t 43))]),
 vo 45 (.app 28 46 2 24 (.t 36) (.t 44)),
 vo 7 (.asg (.t 45))])
 (.seq
 (.region false [0, 5, 6, 7, 8, 9, 10, 11, 15, 18, 19, 45, 57] [
 vo 46 (.mov (.t 8)),
 vo 47 (.mov (.t 0)),
 vo 48 (.mov (.t 5)),
 vo 49 (.mov (.t 10)),
 vo 50 (.ia 28 46 2 (.t 48) (.t 49)),
 vo 51 (.fa 46 1 1 1 (.t 50)),
 vo 52 (.load 2 false 1 (.t 51)),
 vo 53 (.bin false .mul 2 (.t 47) (.t 52)),
 vo 54 (.mov (.t 6)),
 vo 55 (.bin false .rem 2 (.t 53) (.t 54)),
 vo 56 (.lit 172 2 1 1 [(.val (.int .i64 0))] [(0, (.t 55))]),
 vo 57 (.app 172 2 1 8 (.t 46) (.t 56)),
 vo 8 (.asg (.t 57))])
 (.region false [0, 5, 6, 7, 8, 9, 10, 15, 18, 19, 45, 57] [
 vo 58 (.mov (.t 9)),
 vo 59 (.mov (.t 11)),
 vo 60 (.bin false .sub 2 (.t 58) (.t 59)),
 vo 9 (.asg (.t 60))])))))
 (.region false [0, 5, 6, 7, 8, 9, 10, 15, 18, 19, 45, 57] [
 vo 25 (.mov (.t 10)),
 vo 26 (.bin false .add 3 (.t 25) (.c (.int .i64 1))),
 vo 10 (.asg (.t 26))])))
def l116_0 : VC := .loop b116_0
/-- loop.example/g00539/spec.l13Split -/
def v116 : VFun := {
 code :=
 (.seq
 (.region false [0, 1] [
 vo 4 (.asg (.n 2))])
 (.seq
 (.region false [0, 5, 15] [
 vo 14 (.mov (.t 1)),
 vo 15 (.call 108 [(.t 14)]),
 vo 5 (.asg (.t 15))])
 (.seq
 (.region false [0, 5, 6, 15] [
 vo 16 (.mov (.t 5)),
 vo 17 (.call 134 [(.t 16)]),
 vo 6 (.asg (.t 17))])
 (.seq
 (.region false [0, 5, 6, 7, 15, 18, 45] [
 vo 18 (.lit 28 46 2 0 [(.val (.string (⟨#[]⟩ : ByteArray))), (.val (.int .i64 0))] []),
 vo 7 (.asg (.t 18))])
 (.seq
 (.region false [0, 5, 6, 7, 8, 15, 18, 19, 45, 57] [
 vo 19 (.lit 172 2 1 0 [(.val (.int .i64 0))] []),
 vo 8 (.asg (.t 19))])
 (.seq
 (.region false [0, 5, 6, 7, 8, 9, 15, 18, 19, 45, 57] [
 vo 20 (.mov (.t 0)),
 vo 9 (.asg (.t 20))])
 (.seq
 (.seq
 (.region false [0, 5, 6, 7, 8, 9, 10, 15, 18, 19, 45, 57] [
 vo 10 (.asg (.c (.int .i64 0)))])
 (.block 0
 l116_0))
 (.seq
 (.block 2
 l116_1)
 (.seq
 (.region false [4, 7, 18, 45] [
 vo 92 (.mov (.t 7)),
 vo 4 (.asg (.t 92))])
 .ret)))))))))
 modes := [.lend, .lend]
 rets := [⟨4, none⟩] }

def b134_0 : VC :=
 (.seq
 (.seq
 (.region false [0, 3, 4, 8] [
 vo 5 (.mov (.t 4)),
 vo 6 (.mov (.t 0)),
 vo 7 (.len false 28 (.t 6)),
 vo 8 (.bin false .lss 3 (.t 5) (.t 7))])
 (.cond (.t 8)
 .skip
 (.exit 0)))
 (.seq
 (.block 1
 (.region false [0, 3, 4] [
 vo 11 (.mov (.t 3)),
 vo 12 (.mov (.t 0)),
 vo 13 (.mov (.t 4)),
 vo 14 (.ia 28 46 2 (.t 12) (.t 13)),
 vo 15 (.fa 46 1 1 1 (.t 14)),
 vo 16 (.load 2 false 1 (.t 15)),
 vo 17 (.bin false .add 2 (.t 11) (.t 16)),
 vo 3 (.asg (.t 17))]))
 (.region false [0, 3, 4] [
 vo 9 (.mov (.t 4)),
 vo 10 (.bin false .add 3 (.t 9) (.c (.int .i64 1))),
 vo 4 (.asg (.t 10))])))
def l134_0 : VC := .loop b134_0
/-- loop.example/g00539/spec.l13Total -/
def v134 : VFun := {
 code :=
 (.seq
 (.region false [0] [
 vo 2 (.asg (.c (.int .i64 0)))])
 (.seq
 (.region false [0, 3] [
 vo 3 (.asg (.c (.int .i64 0)))])
 (.seq
 (.seq
 (.region false [0, 3, 4] [
 vo 4 (.asg (.c (.int .i64 0)))])
 (.block 0
 l134_0))
 (.seq
 (.region false [2] [
 vo 18 (.mov (.t 3)),
 vo 2 (.asg (.t 18))])
 .ret))))
 modes := [.lend]
 rets := [⟨2, none⟩] }

def b147_0 : VC :=
 (.seq
 (.region false [0, 1, 7, 8, 9] [
 vo 9 (.bin false .lss 3 (.t 8) (.t 7))])
 (.seq
 (.cond (.t 9)
 .skip
 (.exit 0))
 (.seq
 (.block 1
 (.seq
 (.region false [0, 1, 5, 7, 8] [
 vo 10 (.mov (.t 8)),
 vo 5 (.asg (.t 10))])
 (.seq
 (.region false [0, 1, 5, 7, 8, 16] [
 vo 11 (.mov (.t 1)),
 vo 12 (.mov (.t 0)),
 vo 13 (.mov (.t 5)),
 vo 14 (.ia 28 46 2 (.t 12) (.t 13)),
 vo 15 (.load 46 true 2 (.t 14)),
 vo 16 (.callv (.t 11) [(.t 15)])])
 (.cond (.t 16)
 (.seq
 (.region false [4] [
 vo 17 (.mov (.t 5)),
 vo 4 (.asg (.t 17))])
 .ret)
 .skip))))
 (.region false [0, 1, 7, 8] [
 vo 18 (.bin false .add 3 (.t 8) (.c (.int .i64 1))),
 vo 8 (.mov (.t 18))]))))
def l147_0 : VC := .loop b147_0
/-- slices.IndexFunc[[]loop.example/g00539/impl.Weight,loop.example/g00539/impl.Weight] -/
def v147 : VFun := {
 code :=
 (.seq
 (.region false [0, 1] [
 vo 4 (.asg (.c (.int .i64 0)))])
 (.seq
 (.seq
 (.region false [0, 1, 7, 8] [
 vo 6 (.mov (.t 0)),
 vo 7 (.len false 28 (.t 6)),
 vo 8 (.mov (.c (.int .i64 0)))])
 (.block 0
 l147_0))
 (.seq
 (.region false [4] [
 vo 4 (.asg (.c (.int .i64 (-1))))])
 .ret)))
 modes := [.lend, .lend]
 rets := [⟨4, none⟩] }

/-- loop.example/g00539/impl.weightAt$1 -/
def v148 : VFun := {
 code :=
 (.seq
 (.region false [1, 2] [
 vo 2 (.box 46 (.t 0)),
 vo 3 (.asg (.c (.bool false)))])
 (.seq
 (.region false [3] [
 vo 4 (.fa 46 0 0 1 (.t 2)),
 vo 5 (.load 9 false 1 (.t 4)),
 vo 6 (.load 9 false 1 (.t 1)),
 vo 7 (.bin false .eql 9 (.t 5) (.t 6)),
 vo 3 (.asg (.t 7))])
 .ret))
 modes := [.lend, .lend]
 rets := [⟨3, none⟩] }

def b151_0 : VC :=
 (.seq
 (.region false [0, 1, 7, 8, 9] [
 vo 9 (.bin false .lss 3 (.t 8) (.t 7))])
 (.seq
 (.cond (.t 9)
 .skip
 (.exit 0))
 (.seq
 (.block 1
 (.seq
 (.region false [0, 1, 5, 7, 8] [
 vo 10 (.mov (.t 8)),
 vo 5 (.asg (.t 10))])
 (.seq
 (.region false [0, 1, 5, 7, 8, 16] [
 vo 11 (.mov (.t 1)),
 vo 12 (.mov (.t 0)),
 vo 13 (.mov (.t 5)),
 vo 14 (.ia 172 2 1 (.t 12) (.t 13)),
 vo 15 (.load 2 false 1 (.t 14)),
 vo 16 (.bin false .eql 2 (.t 11) (.t 15))])
 (.cond (.t 16)
 (.seq
 (.region false [4] [
 vo 17 (.mov (.t 5)),
 vo 4 (.asg (.t 17))])
 .ret)
 .skip))))
 (.region false [0, 1, 7, 8] [
 vo 18 (.bin false .add 3 (.t 8) (.c (.int .i64 1))),
 vo 8 (.mov (.t 18))]))))
def l151_0 : VC := .loop b151_0
/-- slices.Index[[]int64,int64] -/
def v151 : VFun := {
 code :=
 (.seq
 (.region false [0, 1] [
 vo 4 (.asg (.c (.int .i64 0)))])
 (.seq
 (.seq
 (.region false [0, 1, 7, 8] [
 vo 6 (.mov (.t 0)),
 vo 7 (.len false 172 (.t 6)),
 vo 8 (.mov (.c (.int .i64 0)))])
 (.block 0
 l151_0))
 (.seq
 (.region false [4] [
 vo 4 (.asg (.c (.int .i64 (-1))))])
 .ret)))
 modes := [.lend, .lend]
 rets := [⟨4, none⟩] }

def b152_0 : VC :=
 (.seq
 (.seq
 (.region false [0, 3, 4, 15] [
 vo 12 (.mov (.t 4)),
 vo 13 (.mov (.t 0)),
 vo 14 (.len false 172 (.t 13)),
 vo 15 (.bin false .lss 3 (.t 12) (.t 14))])
 (.cond (.t 15)
 .skip
 (.exit 0)))
 (.seq
 (.block 1
 (.region false [0, 3, 4] [
 vo 18 (.mov (.t 3)),
 vo 19 (.mov (.t 0)),
 vo 20 (.mov (.t 4)),
 vo 21 (.ia 172 2 1 (.t 19) (.t 20)),
 vo 22 (.load 2 false 1 (.t 21)),
 vo 23 (.mm true (.t 18) (.t 22)),
 vo 3 (.asg (.t 23))]))
 (.region false [0, 3, 4] [
 vo 16 (.mov (.t 4)),
 vo 17 (.bin false .add 3 (.t 16) (.c (.int .i64 1))),
 vo 4 (.asg (.t 17))])))
def l152_0 : VC := .loop b152_0
/-- slices.Max[[]int64,int64] -/
def v152 : VFun := {
 code :=
 (.seq
 (.region false [0] [
 vo 2 (.asg (.c (.int .i64 0)))])
 (.seq
 (.seq
 (.region false [0, 7] [
 vo 5 (.mov (.t 0)),
 vo 6 (.len false 172 (.t 5)),
 vo 7 (.bin false .lss 3 (.t 6) (.c (.int .i64 1)))])
 (.cond (.t 7)
 .any
 .skip))
 (.seq
 (.region false [0, 3] [
 vo 9 (.mov (.t 0)),
 vo 10 (.ia 172 2 1 (.t 9) (.c (.int .i64 0))),
 vo 11 (.load 2 false 1 (.t 10)),
 vo 3 (.asg (.t 11))])
 (.seq
 (.seq
 (.region false [0, 3, 4] [
 vo 4 (.asg (.c (.int .i64 1)))])
 (.block 0
 l152_0))
 (.seq
 (.region false [2] [
 vo 24 (.mov (.t 3)),
 vo 2 (.asg (.t 24))])
 .ret)))))
 modes := [.lend]
 rets := [⟨2, none⟩] }

def b153_0 : VC :=
 (.seq
 (.seq
 (.region false [0, 3, 4, 5, 9, 20] [
 vo 8 (.mov (.t 4)),
 vo 9 (.bin false .gtr 2 (.t 8) (.c (.int .i64 0)))])
 (.cond (.t 9)
 .skip
 (.exit 0)))
 (.seq
 (.block 1
 (.region false [0, 3, 4, 5, 20] [
 vo 12 (.mov (.t 3)),
 vo 13 (.mov (.t 0)),
 vo 14 (.call 104 [(.t 13)]),
 vo 15 (.mov (.t 0)),
 vo 16 (.lit 172 2 1 5 [(.val (.int .i64 0))] [(0, (.c (.int .i64 1))), (1, (.c (.int .i64 2))), (2, (.c (.int .i64 3))), (3, (.c (.int .i64 7))), (4, (.c (.int .i64 9999)))]),
 vo 17 (.call 105 [(.t 15), (.t 16)]),
 vo 18 (.build 46 [(.val (.string (⟨#[]⟩ : ByteArray))), (.val (.int .i64 0))] [(0, 0, 1, (.t 14)), (1, 1, 1, (.t 17))]),
 vo 19 (.lit 28 46 2 1 [(.val (.string (⟨#[]⟩ : ByteArray))), (.val (.int .i64 0))] [(0, (.t 18))]),
 vo 20 (.app 28 46 2 24 (.t 12) (.t 19)),
 vo 3 (.asg (.t 20))]))
 (.region false [0, 3, 4, 5, 20] [
 vo 10 (.mov (.t 4)),
 vo 11 (.bin false .sub 2 (.t 10) (.c (.int .i64 1))),
 vo 4 (.asg (.t 11))])))
def l153_0 : VC := .loop b153_0
/-- loop.example/g00539/spec.l13Draw -/
def v153 : VFun := {
 code :=
 (.seq
 (.region false [0] [
 vo 2 (.asg (.n 2))])
 (.seq
 (.region false [0, 3, 5, 20] [
 vo 5 (.lit 28 46 2 0 [(.val (.string (⟨#[]⟩ : ByteArray))), (.val (.int .i64 0))] []),
 vo 3 (.asg (.t 5))])
 (.seq
 (.seq
 (.region false [0, 3, 4, 5, 20] [
 vo 6 (.mov (.t 0)),
 vo 7 (.call 114 [(.t 6), (.c (.int .i64 8))]),
 vo 4 (.asg (.t 7))])
 (.block 0
 l153_0))
 (.seq
 (.region false [0, 2, 3, 5, 20] [
 vo 21 (.mov (.t 3)),
 vo 2 (.asg (.t 21))])
 .ret))))
 modes := [.io]
 rets := [⟨2, none⟩] }

def b154_0 : VC :=
 (.seq
 (.seq
 (.region false [0, 3, 7] [
 vo 4 (.mov (.t 3)),
 vo 5 (.mov (.t 0)),
 vo 6 (.len true 9 (.t 5)),
 vo 7 (.bin false .lss 3 (.t 4) (.t 6))])
 (.cond (.t 7)
 .skip
 (.exit 0)))
 (.seq
 (.block 1
 (.seq
 (.region false [0, 3, 14] [
 vo 10 (.mov (.t 0)),
 vo 11 (.mov (.t 3)),
 vo 12 (.idx 9 (.t 10) (.t 11)),
 vo 13 (.call 171 [(.t 12)]),
 vo 14 (.un .not (.t 13))])
 (.cond (.t 14)
 (.seq
 (.region false [2] [
 vo 2 (.asg (.c (.bool false)))])
 .ret)
 .skip)))
 (.region false [0, 3] [
 vo 8 (.mov (.t 3)),
 vo 9 (.bin false .add 3 (.t 8) (.c (.int .i64 1))),
 vo 3 (.asg (.t 9))])))
def l154_0 : VC := .loop b154_0
/-- loop.example/g00539/spec.l9Arg -/
def v154 : VFun := {
 code :=
 (.seq
 (.region false [0] [
 vo 2 (.asg (.c (.bool false)))])
 (.seq
 (.seq
 (.region false [0, 3] [
 vo 3 (.asg (.c (.int .i64 0)))])
 (.block 0
 l154_0))
 (.seq
 (.region false [2] [
 vo 15 (.mov (.t 0)),
 vo 16 (.len true 9 (.t 15)),
 vo 17 (.bin false .leq 3 (.t 16) (.c (.int .i64 12))),
 vo 2 (.asg (.t 17))])
 .ret)))
 modes := [.lend]
 rets := [⟨2, none⟩] }

/-- loop.example/g00539/impl.argOk -/
def v155 : VFun := {
 code :=
 (.seq
 (.region false [0] [
 vo 2 (.asg (.c (.bool false)))])
 (.seq
 (.region false [2] [
 vo 3 (.mov (.t 0)),
 vo 4 (.len true 9 (.t 3)),
 vo 5 (.bin false .leq 3 (.t 4) (.c (.int .i64 12))),
 vo 6 (.mov (.t 5)),
 ⟨some 7, .mov (.t 0), some (6, true), []⟩,
 ⟨some 8, .call 172 [(.t 7), (.c (.string (⟨#[97, 98, 99, 100, 101, 102, 103, 104, 105, 106, 107, 108, 109, 110, 111, 112, 113, 114, 115, 116, 117, 118, 119, 120, 121, 122, 65, 66, 67, 68, 69, 70, 71, 72, 73, 74, 75, 76, 77, 78, 79, 80, 81, 82, 83, 84, 85, 86, 87, 88, 89, 90, 48, 49, 50, 51, 52, 53, 54, 55, 56, 57]⟩ : ByteArray)))], some (6, true), []⟩,
 ⟨some 9, .bin false .eql 9 (.t 8) (.c (.string (⟨#[]⟩ : ByteArray))), some (6, true), []⟩,
 vo 10 (.pick (.t 6) (.t 9) (.c (.bool false))),
 vo 2 (.asg (.t 10))])
 .ret))
 modes := [.lend]
 rets := [⟨2, none⟩] }

/-- loop.example/g00539/spec.l9Letter -/
def v171 : VFun := {
 code :=
 (.seq
 (.region false [0] [
 vo 2 (.asg (.c (.bool false)))])
 (.seq
 (.region false [2] [
 vo 3 (.mov (.t 0)),
 vo 4 (.bin false .geq 5 (.t 3) (.c (.int .u8 97))),
 vo 5 (.mov (.t 4)),
 ⟨some 6, .mov (.t 0), some (5, true), []⟩,
 ⟨some 7, .bin false .leq 5 (.t 6) (.c (.int .u8 122)), some (5, true), []⟩,
 vo 8 (.pick (.t 5) (.t 7) (.c (.bool false))),
 vo 9 (.mov (.t 8)),
 ⟨some 10, .mov (.t 0), some (9, false), []⟩,
 ⟨some 11, .bin false .geq 5 (.t 10) (.c (.int .u8 65)), some (9, false), []⟩,
 ⟨some 12, .mov (.t 11), some (9, false), []⟩,
 ⟨some 13, .mov (.t 0), some (12, true), []⟩,
 ⟨some 14, .bin false .leq 5 (.t 13) (.c (.int .u8 90)), some (12, true), []⟩,
 ⟨some 15, .pick (.t 12) (.t 14) (.c (.bool false)), some (9, false), []⟩,
 vo 16 (.pick (.t 9) (.c (.bool true)) (.t 15)),
 vo 17 (.mov (.t 16)),
 ⟨some 18, .mov (.t 0), some (17, false), []⟩,
 ⟨some 19, .bin false .geq 5 (.t 18) (.c (.int .u8 48)), some (17, false), []⟩,
 ⟨some 20, .mov (.t 19), some (17, false), []⟩,
 ⟨some 21, .mov (.t 0), some (20, true), []⟩,
 ⟨some 22, .bin false .leq 5 (.t 21) (.c (.int .u8 57)), some (20, true), []⟩,
 ⟨some 23, .pick (.t 20) (.t 22) (.c (.bool false)), some (17, false), []⟩,
 vo 24 (.pick (.t 17) (.c (.bool true)) (.t 23)),
 vo 2 (.asg (.t 24))])
 .ret))
 modes := [.lend]
 rets := [⟨2, none⟩] }

def tab : List (Nat × VFun) := [(11, v11), (38, v38), (45, v45), (46, v46), (47, v47), (48, v48), (49, v49), (50, v50), (72, v72), (75, v75), (79, v79), (93, v93), (94, v94), (101, v101), (102, v102), (103, v103), (104, v104), (105, v105), (107, v107), (108, v108), (109, v109), (110, v110), (112, v112), (113, v113), (114, v114), (115, v115), (116, v116), (134, v134), (147, v147), (148, v148), (151, v151), (152, v152), (153, v153), (154, v154), (155, v155), (171, v171)]
def F (f : FuncId) : Option VFun := getA none (tab.map fun x => (x.1, some x.2)) f
theorem tab_ok : tab.all (fun x => matchFun Tryd.prog x.1 x.2) = true := by kernel_rfl
theorem F_mem {f : FuncId} {fn : VFun} : ∀ {l : List (Nat × VFun)}, getA none (l.map fun x => (x.1, some x.2)) f = some fn → (f, fn) ∈ l
  | [], h => by simp [getA] at h
  | (k, v) :: l, h => by
    simp only [List.map_cons, getA] at h
    split at h
    · rename_i e
      injection h with h
      subst e; subst h
      exact List.mem_cons_self ..
    · exact List.mem_cons_of_mem _ (F_mem h)
theorem F_ok (f : FuncId) (fn : VFun) (h : F f = some fn) : matchFun Tryd.prog f fn = true := List.all_eq_true.1 tab_ok _ (F_mem h)
end Go.Proofs.YtfmkbpiobddhdaaDoor.Splits
