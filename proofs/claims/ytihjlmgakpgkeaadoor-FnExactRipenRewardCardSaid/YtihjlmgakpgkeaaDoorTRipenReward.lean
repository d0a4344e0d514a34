/- V's text of the functions that this law reaches. -/
import Derived.Test.YtihjlmgakpgkeaaDoorVCode
import Derived.Test.YtihjlmgakpgkeaaDoorRows
import Derived.KernelRfl
namespace Go.Proofs.YtihjlmgakpgkeaaDoor.RipenReward
open Go Go.Proofs.YtihjlmgakpgkeaaDoor.V
set_option maxRecDepth 20000
def vo (d:Nat) (x:VOp):VO:=⟨some d,x,none,[]⟩
def vn (x:VOp):VO:=⟨none,x,none,[]⟩

/-- loop.example/g00539/laws.FnExactRipenReward -/
def v5 : VFun := {
 code:=
 (.seq
 (.region false [1, 2] [
 vo 2 (.box 66 (.t 0)),
 vo 4 (.asg (.c (.bool false)))])
 (.seq
 (.region false [1, 2, 5] [
 vo 5 (.asg (.c (.int .i64 1048576)))])
 (.seq
 (.region false [1, 2, 5] [
 vo 13 (.load 66 true 8 (.t 2)),
 vo 14 (.mov (.t 5)),
 vo 15 (.call 29 [(.t 13),(.t 14)]),
 vo 5 (.asg (.t 15))])
 (.seq
 (.seq
 (.region false [1, 2, 17] [
 vo 16 (.mov (.t 5)),
 vo 17 (.bin false .lss 3 (.t 16) (.c (.int .i64 0)))])
 (.cond (.t 17)
 (.seq
 (.region false [4] [
 vo 4 (.asg (.c (.bool true)))])
 .ret)
 .skip))
 (.seq
 (.region false [1, 2, 6] [
 vo 18 (.load 66 true 8 (.t 2)),
 vo 19 (.call 31 [(.t 18)]),
 vo 20 (.mov (.t 1)),
 vo 21 (.call 30 [(.t 19),(.t 20)]),
 vo 6 (.alloc 31 [(.val (.int .i64 0)),(.val (.int .i64 0)),(.val (.int .i64 0)),(.val (.int .i64 0)),(.nl 2),(.nl 5),(.nl 2),(.val (.int .i64 0)),(.val (.int .i64 0)),(.val (.int .i64 0))]),
 vn (.store 31 10 (.t 6) (.t 21))])
 (.seq
 (.region false [1, 2, 6, 7] [
 vo 22 (.load 66 true 8 (.t 2)),
 vo 23 (.call 31 [(.t 22)]),
 vo 7 (.alloc 27 [(.val (.int .i64 0)),(.val (.int .i64 0)),(.nl 2),(.nl 5),(.nl 2),(.val (.int .i64 0)),(.val (.int .i64 0)),(.val (.int .i64 0))]),
 vn (.store 27 8 (.t 7) (.t 23))])
 (.seq
 (.region false [1, 2, 6, 7, 8] [
 vo 24 (.load 27 true 8 (.t 7)),
 vo 25 (.mov (.t 1)),
 vo 26 (.call 32 [(.t 24),(.t 25)]),
 vo 8 (.alloc 31 [(.val (.int .i64 0)),(.val (.int .i64 0)),(.val (.int .i64 0)),(.val (.int .i64 0)),(.nl 2),(.nl 5),(.nl 2),(.val (.int .i64 0)),(.val (.int .i64 0)),(.val (.int .i64 0))]),
 vn (.store 31 10 (.t 8) (.t 26))])
 (.seq
 (.seq
 (.region false [1, 2, 6, 7, 8, 30] [
 vo 27 (.load 31 true 10 (.t 8)),
 vo 28 (.load 31 true 10 (.t 6)),
 vo 29 (.call 33 [(.t 27),(.t 28)]),
 vo 30 (.un .not (.t 29))])
 (.cond (.t 30)
 (.seq
 (.region false [4] [
 vo 4 (.asg (.c (.bool false)))])
 .ret)
 .skip))
 (.seq
 (.seq
 (.region true [1, 2, 6, 7, 8, 35] [
 vo 31 (.load 27 true 8 (.t 7)),
 ⟨some 32,.load 66 true 8 (.t 2),none,[0]⟩,
 ⟨some 33,.call 31 [(.t 32)],none,[0]⟩,
 vo 34 (.call 34 [(.t 31),(.t 33)]),
 vo 35 (.un .not (.t 34))])
 (.cond (.t 35)
 (.seq
 (.region false [4] [
 vo 4 (.asg (.c (.bool false)))])
 .ret)
 .skip))
 (.seq
 (.region false [1, 2, 6, 7, 8, 9] [
 vo 9 (.asg (.c (.int .i64 1)))])
 (.seq
 (.region false [1, 2, 6, 8, 9] [
 vo 36 (.load 27 true 8 (.t 7)),
 vo 37 (.mov (.t 9)),
 vo 38 (.call 35 [(.t 36),(.t 37)]),
 vo 9 (.asg (.t 38))])
 (.seq
 (.seq
 (.region false [1, 2, 6, 8, 46] [
 vo 39 (.mov (.t 9)),
 vo 40 (.bin false .lss 3 (.t 39) (.c (.int .i64 0))),
 vo 41 (.mov (.t 40)),
 ⟨some 42,.load 31 true 10 (.t 8),some (41,false),[]⟩,
 ⟨some 43,.load 31 true 10 (.t 6),some (41,false),[]⟩,
 ⟨some 44,.call 33 [(.t 42),(.t 43)],some (41,false),[]⟩,
 ⟨some 45,.un .not (.t 44),some (41,false),[]⟩,
 vo 46 (.pick (.t 41) (.c (.bool true)) (.t 45))])
 (.cond (.t 46)
 (.seq
 (.region false [4] [
 vo 4 (.asg (.c (.bool false)))])
 .ret)
 .skip))
 (.seq
 (.region false [1, 2, 6, 8, 10] [
 vo 10 (.asg (.c (.int .i64 1)))])
 (.seq
 (.region false [1, 2, 6, 8, 10] [
 vo 47 (.load 31 true 10 (.t 8)),
 vo 48 (.mov (.t 10)),
 vo 49 (.call 36 [(.t 47),(.t 48)]),
 vo 10 (.asg (.t 49))])
 (.seq
 (.region false [1, 2, 6, 8, 10, 11] [
 vo 11 (.asg (.c (.int .i64 1)))])
 (.seq
 (.region false [1, 2, 6, 8, 10, 11] [
 vo 50 (.load 31 true 10 (.t 8)),
 vo 51 (.mov (.t 11)),
 vo 52 (.call 37 [(.t 50),(.t 51)]),
 vo 11 (.asg (.t 52))])
 (.seq
 (.seq
 (.region false [1, 2, 6, 8, 10, 11, 54] [
 vo 53 (.mov (.t 11)),
 vo 54 (.bin false .lss 3 (.t 53) (.c (.int .i64 0)))])
 (.cond (.t 54)
 (.seq
 (.region false [4] [
 vo 4 (.asg (.c (.bool false)))])
 .ret)
 .skip))
 (.seq
 (.seq
 (.region false [1, 2, 6, 8, 10, 57] [
 vo 55 (.mov (.t 11)),
 vo 56 (.mov (.t 10)),
 vo 57 (.bin false .neq 3 (.t 55) (.t 56))])
 (.cond (.t 57)
 (.seq
 (.region false [4] [
 vo 4 (.asg (.c (.bool false)))])
 .ret)
 .skip))
 (.seq
 (.region false [6, 8, 10, 12] [
 vo 58 (.load 66 true 8 (.t 2)),
 vo 59 (.call 31 [(.t 58)]),
 vo 60 (.mov (.t 1)),
 vo 61 (.call 32 [(.t 59),(.t 60)]),
 vo 12 (.alloc 31 [(.val (.int .i64 0)),(.val (.int .i64 0)),(.val (.int .i64 0)),(.val (.int .i64 0)),(.nl 2),(.nl 5),(.nl 2),(.val (.int .i64 0)),(.val (.int .i64 0)),(.val (.int .i64 0))]),
 vn (.store 31 10 (.t 12) (.t 61))])
 (.seq
 (.seq
 (.region false [8, 10, 65] [
 vo 62 (.load 31 true 10 (.t 12)),
 vo 63 (.load 31 true 10 (.t 6)),
 vo 64 (.call 33 [(.t 62),(.t 63)]),
 vo 65 (.un .not (.t 64))])
 (.cond (.t 65)
 (.seq
 (.region false [4] [
 vo 4 (.asg (.c (.bool false)))])
 .ret)
 .skip))
 (.seq
 (.region false [8, 10, 11] [
 vo 11 (.asg (.c (.int .i64 1)))])
 (.seq
 (.region false [10, 11] [
 vo 66 (.load 31 true 10 (.t 8)),
 vo 67 (.mov (.t 11)),
 vo 68 (.call 37 [(.t 66),(.t 67)]),
 vo 11 (.asg (.t 68))])
 (.seq
 (.seq
 (.region false [10, 11, 70] [
 vo 69 (.mov (.t 11)),
 vo 70 (.bin false .lss 3 (.t 69) (.c (.int .i64 0)))])
 (.cond (.t 70)
 (.seq
 (.region false [4] [
 vo 4 (.asg (.c (.bool false)))])
 .ret)
 .skip))
 (.seq
 (.seq
 (.region false [73] [
 vo 71 (.mov (.t 11)),
 vo 72 (.mov (.t 10)),
 vo 73 (.bin false .neq 3 (.t 71) (.t 72))])
 (.cond (.t 73)
 (.seq
 (.region false [4] [
 vo 4 (.asg (.c (.bool false)))])
 .ret)
 .skip))
 (.seq
 (.region false [4] [
 vo 4 (.asg (.c (.bool true)))])
 .ret)))))))))))))))))))))))))
 modes:=[.lend,.lend]
 rets:=[⟨4,none⟩]}

def b13_0:VC:=
 (.seq
 (.region false [1, 56, 57, 58, 59] [
 vo 59 (.bin false .lss 3 (.t 58) (.t 57))])
 (.seq
 (.cond (.t 59)
 .skip
 (.exit 0))
 (.seq
 (.block 1
 (.seq
 (.region false [1, 4, 5, 56, 57, 58] [
 vo 60 (.mov (.t 58)),
 vo 61 (.ia 25 96 5 (.t 56) (.t 58)),
 vo 62 (.load 96 true 5 (.t 61)),
 vo 5 (.alloc 96 [(.val (.int .i64 0)),(.val (.int .i64 0)),(.val (.int .i64 0)),(.nl 2),(.val (.int .i64 0))]),
 vo 4 (.asg (.t 60)),
 vn (.store 96 5 (.t 5) (.t 62))])
 (.seq
 (.region true [1, 6, 56, 57, 58] [
 vo 63 (.load 96 true 5 (.t 5)),
 ⟨some 64,.fa 27 3 3 1 (.t 1),none,[0]⟩,
 ⟨some 65,.load 25 false 1 (.t 64),none,[0]⟩,
 ⟨some 66,.mov (.t 4),none,[0,1,2]⟩,
 ⟨some 67,.cut 25 (some 96) 5 (.t 65) none (some (.t 66)),none,[0]⟩,
 vo 68 (.call 56 [(.t 63),(.t 67)]),
 vo 6 (.asg (.t 68))])
 (.seq
 (.region false [1, 6, 56, 57, 58, 70] [
 vo 69 (.mov (.t 6)),
 vo 70 (.bin false .neq 2 (.t 69) (.c (.int .i64 0)))])
 (.cond (.t 70)
 (.seq
 (.region false [2] [
 vo 71 (.mov (.t 6)),
 vo 2 (.asg (.t 71))])
 .ret)
 .skip)))))
 (.region false [1, 56, 57, 58] [
 vo 72 (.bin false .add 3 (.t 58) (.c (.int .i64 1))),
 vo 58 (.mov (.t 72))]))))
def l13_0:VC:=.loop b13_0
/-- loop.example/g00539/impl.LedgerFault -/
def v13 : VFun := {
 code:=
 (.seq
 (.region false [1] [
 vo 1 (.box 27 (.t 0)),
 vo 2 (.asg (.c (.int .i64 0)))])
 (.seq
 (.seq
 (.region false [1, 30] [
 vo 7 (.fa 27 0 0 1 (.t 1)),
 vo 8 (.load 2 false 1 (.t 7)),
 vo 9 (.fa 27 1 1 1 (.t 1)),
 vo 10 (.load 2 false 1 (.t 9)),
 vo 11 (.call 54 [(.t 8),(.t 10)]),
 vo 12 (.un .not (.t 11)),
 vo 13 (.mov (.t 12)),
 ⟨some 14,.fa 27 5 5 1 (.t 1),some (13,false),[]⟩,
 ⟨some 15,.load 2 false 1 (.t 14),some (13,false),[]⟩,
 ⟨some 16,.call 46 [(.t 15)],some (13,false),[]⟩,
 ⟨some 17,.un .not (.t 16),some (13,false),[]⟩,
 vo 18 (.pick (.t 13) (.c (.bool true)) (.t 17)),
 vo 19 (.mov (.t 18)),
 ⟨some 20,.fa 27 6 6 1 (.t 1),some (19,false),[]⟩,
 ⟨some 21,.load 2 false 1 (.t 20),some (19,false),[]⟩,
 ⟨some 22,.call 46 [(.t 21)],some (19,false),[]⟩,
 ⟨some 23,.un .not (.t 22),some (19,false),[]⟩,
 vo 24 (.pick (.t 19) (.c (.bool true)) (.t 23)),
 vo 25 (.mov (.t 24)),
 ⟨some 26,.fa 27 7 7 1 (.t 1),some (25,false),[]⟩,
 ⟨some 27,.load 2 false 1 (.t 26),some (25,false),[]⟩,
 ⟨some 28,.call 46 [(.t 27)],some (25,false),[]⟩,
 ⟨some 29,.un .not (.t 28),some (25,false),[]⟩,
 vo 30 (.pick (.t 25) (.c (.bool true)) (.t 29))])
 (.cond (.t 30)
 (.seq
 (.region false [2] [
 vo 2 (.asg (.c (.int .i64 3)))])
 .ret)
 .skip))
 (.seq
 (.seq
 (.region false [1, 3] [
 vo 31 (.fa 27 2 2 1 (.t 1)),
 vo 32 (.load 24 false 1 (.t 31)),
 vo 33 (.call 55 [(.t 32)]),
 vo 3 (.asg (.t 33))])
 (.seq
 (.region false [1, 3, 35] [
 vo 34 (.mov (.t 3)),
 vo 35 (.bin false .neq 2 (.t 34) (.c (.int .i64 0)))])
 (.cond (.t 35)
 (.seq
 (.region false [2] [
 vo 36 (.mov (.t 3)),
 vo 2 (.asg (.t 36))])
 .ret)
 .skip)))
 (.seq
 (.seq
 (.region false [1, 54] [
 vo 37 (.fa 27 2 2 1 (.t 1)),
 vo 38 (.load 24 false 1 (.t 37)),
 vo 39 (.len false 24 (.t 38)),
 vo 40 (.fa 27 0 0 1 (.t 1)),
 vo 41 (.load 2 false 1 (.t 40)),
 vo 42 (.bin false .gtr 2 (.t 39) (.t 41)),
 vo 43 (.mov (.t 42)),
 ⟨some 44,.fa 27 3 3 1 (.t 1),some (43,false),[]⟩,
 ⟨some 45,.load 25 false 1 (.t 44),some (43,false),[]⟩,
 ⟨some 46,.len false 25 (.t 45),some (43,false),[]⟩,
 ⟨some 47,.bin false .gtr 3 (.t 46) (.c (.int .i64 6)),some (43,false),[]⟩,
 vo 48 (.pick (.t 43) (.c (.bool true)) (.t 47)),
 vo 49 (.mov (.t 48)),
 ⟨some 50,.fa 27 4 4 1 (.t 1),some (49,false),[]⟩,
 ⟨some 51,.load 24 false 1 (.t 50),some (49,false),[]⟩,
 ⟨some 52,.len false 24 (.t 51),some (49,false),[]⟩,
 ⟨some 53,.bin false .gtr 3 (.t 52) (.c (.int .i64 8)),some (49,false),[]⟩,
 vo 54 (.pick (.t 49) (.c (.bool true)) (.t 53))])
 (.cond (.t 54)
 (.seq
 (.region false [2] [
 vo 2 (.asg (.c (.int .i64 2)))])
 .ret)
 .skip))
 (.seq
 (.seq
 (.region false [1, 56, 57, 58] [
 vo 55 (.fa 27 3 3 1 (.t 1)),
 vo 56 (.load 25 false 1 (.t 55)),
 vo 57 (.len false 25 (.t 56)),
 vo 58 (.mov (.c (.int .i64 0)))])
 (.block 0
 l13_0))
 (.seq
 (.block 2
 (.seq
 (.region false [1, 73] [
 vo 74 (.fa 27 4 4 1 (.t 1)),
 vo 75 (.load 24 false 1 (.t 74)),
 vo 76 (.call 57 [(.t 75),(.c (.int .i64 8))]),
 vo 77 (.un .not (.t 76)),
 vo 73 (.asg (.t 77))])
 (.cond (.t 73)
 (.seq
 (.region false [2] [
 vo 2 (.asg (.c (.int .i64 1)))])
 .ret)
 (.seq
 (.region true [78] [
 vo 79 (.fa 27 4 4 1 (.t 1)),
 vo 80 (.load 24 false 1 (.t 79)),
 vo 81 (.call 58 [(.t 80)]),
 ⟨some 82,.fa 27 6 6 1 (.t 1),none,[0,1,2]⟩,
 ⟨some 83,.load 2 false 1 (.t 82),none,[0,1,2]⟩,
 vo 84 (.bin false .add 2 (.t 81) (.t 83)),
 ⟨some 85,.fa 27 5 5 1 (.t 1),none,[0,1,2,3,4,5]⟩,
 ⟨some 86,.load 2 false 1 (.t 85),none,[0,1,2,3,4,5]⟩,
 vo 87 (.bin false .add 2 (.t 84) (.t 86)),
 ⟨some 88,.fa 27 3 3 1 (.t 1),none,[0,1,2,3,4,5,6,7,8]⟩,
 ⟨some 89,.load 25 false 1 (.t 88),none,[0,1,2,3,4,5,6,7,8]⟩,
 ⟨some 90,.call 59 [(.t 89),(.c (.int .i64 2))],none,[3,4,5,6,7,8]⟩,
 ⟨some 91,.fa 27 7 7 1 (.t 1),none,[0,1,2,3,4,5,6,7,8,9,10,11]⟩,
 ⟨some 92,.load 2 false 1 (.t 91),none,[0,1,2,3,4,5,6,7,8,9,10,11]⟩,
 ⟨some 93,.bin false .add 2 (.t 90) (.t 92),none,[3,4,5,6,7,8]⟩,
 vo 94 (.bin false .neq 2 (.t 87) (.t 93)),
 vo 95 (.mov (.t 94)),
 ⟨some 96,.fa 27 3 3 1 (.t 1),some (95,false),[]⟩,
 ⟨some 97,.load 25 false 1 (.t 96),some (95,false),[]⟩,
 ⟨some 98,.call 59 [(.t 97),(.c (.int .i64 0))],some (95,false),[]⟩,
 ⟨some 99,.call 46 [(.t 98)],some (95,false),[]⟩,
 ⟨some 100,.un .not (.t 99),some (95,false),[]⟩,
 vo 101 (.pick (.t 95) (.c (.bool true)) (.t 100)),
 vo 78 (.asg (.t 101))])
 (.cond (.t 78)
 (.seq
 (.region false [2] [
 vo 2 (.asg (.c (.int .i64 7)))])
 .ret)
 .skip)))))
 (.seq
 (.region false [2] [
 vo 2 (.asg (.c (.int .i64 0)))])
 .ret)))))))
 modes:=[.lend]
 rets:=[⟨2,none⟩]}

/-- loop.example/g00539/laws.szLedger -/
def v29 : VFun := {
 code:=
 (.seq
 (.region false [1, 2] [
 vo 2 (.box 66 (.t 0)),
 vo 4 (.asg (.c (.int .i64 0)))])
 (.seq
 (.region false [1, 2] [
 vo 5 (.fa 66 2 2 1 (.t 2)),
 vo 6 (.load 63 false 1 (.t 5)),
 vo 7 (.mov (.t 1)),
 vo 8 (.call 76 [(.t 6),(.t 7)]),
 vo 1 (.asg (.t 8))])
 (.seq
 (.seq
 (.region false [1, 2, 10] [
 vo 9 (.mov (.t 1)),
 vo 10 (.bin false .lss 3 (.t 9) (.c (.int .i64 0)))])
 (.cond (.t 10)
 (.seq
 (.region false [4] [
 vo 4 (.asg (.c (.int .i64 (-1))))])
 .ret)
 .skip))
 (.seq
 (.region false [1, 2] [
 vo 11 (.fa 66 3 3 1 (.t 2)),
 vo 12 (.load 64 false 1 (.t 11)),
 vo 13 (.mov (.t 1)),
 vo 14 (.call 77 [(.t 12),(.t 13)]),
 vo 1 (.asg (.t 14))])
 (.seq
 (.seq
 (.region false [1, 2, 16] [
 vo 15 (.mov (.t 1)),
 vo 16 (.bin false .lss 3 (.t 15) (.c (.int .i64 0)))])
 (.cond (.t 16)
 (.seq
 (.region false [4] [
 vo 4 (.asg (.c (.int .i64 (-1))))])
 .ret)
 .skip))
 (.seq
 (.region false [1] [
 vo 17 (.fa 66 4 4 1 (.t 2)),
 vo 18 (.load 63 false 1 (.t 17)),
 vo 19 (.mov (.t 1)),
 vo 20 (.call 76 [(.t 18),(.t 19)]),
 vo 1 (.asg (.t 20))])
 (.seq
 (.seq
 (.region false [1, 22] [
 vo 21 (.mov (.t 1)),
 vo 22 (.bin false .lss 3 (.t 21) (.c (.int .i64 0)))])
 (.cond (.t 22)
 (.seq
 (.region false [4] [
 vo 4 (.asg (.c (.int .i64 (-1))))])
 .ret)
 .skip))
 (.seq
 (.region false [4] [
 vo 23 (.mov (.t 1)),
 vo 4 (.asg (.t 23))])
 .ret))))))))
 modes:=[.lend,.lend]
 rets:=[⟨4,none⟩]}

/-- loop.example/g00539/spec.RipenReward -/
def v30 : VFun := {
 code:=
 (.seq
 (.region false [1, 2, 4] [
 vo 2 (.box 27 (.t 0)),
 vo 4 (.alloc 31 [(.val (.int .i64 0)),(.val (.int .i64 0)),(.val (.int .i64 0)),(.val (.int .i64 0)),(.nl 2),(.nl 5),(.nl 2),(.val (.int .i64 0)),(.val (.int .i64 0)),(.val (.int .i64 0))])])
 (.seq
 (.seq
 (.region false [1, 2, 4, 5] [
 vo 6 (.call 51 [(.t 2)]),
 vo 5 (.asg (.t 6))])
 (.seq
 (.region false [1, 2, 4, 5, 8] [
 vo 7 (.mov (.t 5)),
 vo 8 (.bin false .neq 2 (.t 7) (.c (.int .i64 0)))])
 (.cond (.t 8)
 (.seq
 (.region false [4] [
 vo 9 (.mov (.t 5)),
 vo 10 (.call 52 [(.t 9)]),
 vn (.store 31 10 (.t 4) (.t 10))])
 .ret)
 .skip)))
 (.seq
 (.region false [4] [
 vo 11 (.load 27 true 8 (.t 2)),
 vo 12 (.mov (.t 1)),
 vo 13 (.call 78 [(.t 11),(.t 12)]),
 vn (.store 31 10 (.t 4) (.t 13))])
 .ret)))
 modes:=[.lend,.lend]
 rets:=[⟨4,some (true,10)⟩]}

/-- loop.example/g00539/laws.toLedger -/
def v31 : VFun := {
 code:=
 (.seq
 (.region false [1, 2] [
 vo 1 (.box 66 (.t 0)),
 vo 2 (.alloc 27 [(.val (.int .i64 0)),(.val (.int .i64 0)),(.nl 2),(.nl 5),(.nl 2),(.val (.int .i64 0)),(.val (.int .i64 0)),(.val (.int .i64 0))])])
 (.seq
 (.region false [1, 2, 3] [
 vo 3 (.alloc 27 [(.val (.int .i64 0)),(.val (.int .i64 0)),(.nl 2),(.nl 5),(.nl 2),(.val (.int .i64 0)),(.val (.int .i64 0)),(.val (.int .i64 0))])])
 (.seq
 (.region false [1, 2, 3] [
 vo 4 (.fa 66 0 0 1 (.t 1)),
 vo 5 (.load 2 false 1 (.t 4)),
 vo 6 (.fa 27 0 0 1 (.t 3)),
 vn (.store 2 1 (.t 6) (.t 5))])
 (.seq
 (.region false [1, 2, 3] [
 vo 7 (.fa 66 1 1 1 (.t 1)),
 vo 8 (.load 2 false 1 (.t 7)),
 vo 9 (.fa 27 1 1 1 (.t 3)),
 vn (.store 2 1 (.t 9) (.t 8))])
 (.seq
 (.region false [1, 2, 3] [
 vo 10 (.fa 66 2 2 1 (.t 1)),
 vo 11 (.load 63 false 1 (.t 10)),
 vo 12 (.call 79 [(.t 11)]),
 vo 13 (.fa 27 2 2 1 (.t 3)),
 vn (.store 24 1 (.t 13) (.t 12))])
 (.seq
 (.region false [1, 2, 3] [
 vo 14 (.fa 66 3 3 1 (.t 1)),
 vo 15 (.load 64 false 1 (.t 14)),
 vo 16 (.call 80 [(.t 15)]),
 vo 17 (.fa 27 3 3 1 (.t 3)),
 vn (.store 25 1 (.t 17) (.t 16))])
 (.seq
 (.region false [1, 2, 3] [
 vo 18 (.fa 66 4 4 1 (.t 1)),
 vo 19 (.load 63 false 1 (.t 18)),
 vo 20 (.call 79 [(.t 19)]),
 vo 21 (.fa 27 4 4 1 (.t 3)),
 vn (.store 24 1 (.t 21) (.t 20))])
 (.seq
 (.region false [1, 2, 3] [
 vo 22 (.fa 66 5 5 1 (.t 1)),
 vo 23 (.load 2 false 1 (.t 22)),
 vo 24 (.fa 27 5 5 1 (.t 3)),
 vn (.store 2 1 (.t 24) (.t 23))])
 (.seq
 (.region false [1, 2, 3] [
 vo 25 (.fa 66 6 6 1 (.t 1)),
 vo 26 (.load 2 false 1 (.t 25)),
 vo 27 (.fa 27 6 6 1 (.t 3)),
 vn (.store 2 1 (.t 27) (.t 26))])
 (.seq
 (.region false [2, 3] [
 vo 28 (.fa 66 7 7 1 (.t 1)),
 vo 29 (.load 2 false 1 (.t 28)),
 vo 30 (.fa 27 7 7 1 (.t 3)),
 vn (.store 2 1 (.t 30) (.t 29))])
 (.seq
 (.region false [2] [
 vo 31 (.load 27 true 8 (.t 3)),
 vn (.store 27 8 (.t 2) (.t 31))])
 .ret)))))))))))
 modes:=[.lend]
 rets:=[⟨2,some (true,8)⟩]}

/-- loop.example/g00539/impl.RipenReward -/
def v32 : VFun := {
 code:=
 (.seq
 (.region false [2, 3, 4] [
 vo 2 (.box 27 (.t 0)),
 vo 3 (.box 2 (.t 1)),
 vo 4 (.alloc 31 [(.val (.int .i64 0)),(.val (.int .i64 0)),(.val (.int .i64 0)),(.val (.int .i64 0)),(.nl 2),(.nl 5),(.nl 2),(.val (.int .i64 0)),(.val (.int .i64 0)),(.val (.int .i64 0))])])
 (.seq
 (.region false [4] [
 vo 5 (.load 27 true 8 (.t 2)),
 vo 6 (.fn 81 [] [(.t 3)]),
 vo 7 (.call 42 [(.t 5),(.t 6)]),
 vn (.store 31 10 (.t 4) (.t 7))])
 .ret))
 modes:=[.lend,.lend]
 rets:=[⟨4,some (true,10)⟩]}

/-- loop.example/g00539/laws.eqLedgerResult -/
def v33 : VFun := {
 code:=
 (.seq
 (.region false [2, 3] [
 vo 2 (.box 31 (.t 0)),
 vo 3 (.box 31 (.t 1)),
 vo 4 (.asg (.c (.bool false)))])
 (.seq
 (.seq
 (.region false [2, 3, 9] [
 vo 5 (.fa 31 0 0 1 (.t 2)),
 vo 6 (.load 2 false 1 (.t 5)),
 vo 7 (.fa 31 0 0 1 (.t 3)),
 vo 8 (.load 2 false 1 (.t 7)),
 vo 9 (.bin false .neq 2 (.t 6) (.t 8))])
 (.cond (.t 9)
 (.seq
 (.region false [4] [
 vo 4 (.asg (.c (.bool false)))])
 .ret)
 .skip))
 (.seq
 (.seq
 (.region false [2, 3, 14] [
 vo 10 (.fa 31 1 1 1 (.t 2)),
 vo 11 (.load 2 false 1 (.t 10)),
 vo 12 (.fa 31 1 1 1 (.t 3)),
 vo 13 (.load 2 false 1 (.t 12)),
 vo 14 (.bin false .neq 2 (.t 11) (.t 13))])
 (.cond (.t 14)
 (.seq
 (.region false [4] [
 vo 4 (.asg (.c (.bool false)))])
 .ret)
 .skip))
 (.seq
 (.seq
 (.region false [20] [
 vo 15 (.fa 31 2 2 8 (.t 2)),
 vo 16 (.load 27 true 8 (.t 15)),
 vo 17 (.fa 31 2 2 8 (.t 3)),
 vo 18 (.load 27 true 8 (.t 17)),
 vo 19 (.call 34 [(.t 16),(.t 18)]),
 vo 20 (.un .not (.t 19))])
 (.cond (.t 20)
 (.seq
 (.region false [4] [
 vo 4 (.asg (.c (.bool false)))])
 .ret)
 .skip))
 (.seq
 (.region false [4] [
 vo 4 (.asg (.c (.bool true)))])
 .ret)))))
 modes:=[.lend,.lend]
 rets:=[⟨4,none⟩]}

/-- loop.example/g00539/laws.eqLedger -/
def v34 : VFun := {
 code:=
 (.seq
 (.region false [2, 3] [
 vo 2 (.box 27 (.t 0)),
 vo 3 (.box 27 (.t 1)),
 vo 4 (.asg (.c (.bool false)))])
 (.seq
 (.seq
 (.region false [2, 3, 9] [
 vo 5 (.fa 27 0 0 1 (.t 2)),
 vo 6 (.load 2 false 1 (.t 5)),
 vo 7 (.fa 27 0 0 1 (.t 3)),
 vo 8 (.load 2 false 1 (.t 7)),
 vo 9 (.bin false .neq 2 (.t 6) (.t 8))])
 (.cond (.t 9)
 (.seq
 (.region false [4] [
 vo 4 (.asg (.c (.bool false)))])
 .ret)
 .skip))
 (.seq
 (.seq
 (.region false [2, 3, 14] [
 vo 10 (.fa 27 1 1 1 (.t 2)),
 vo 11 (.load 2 false 1 (.t 10)),
 vo 12 (.fa 27 1 1 1 (.t 3)),
 vo 13 (.load 2 false 1 (.t 12)),
 vo 14 (.bin false .neq 2 (.t 11) (.t 13))])
 (.cond (.t 14)
 (.seq
 (.region false [4] [
 vo 4 (.asg (.c (.bool false)))])
 .ret)
 .skip))
 (.seq
 (.seq
 (.region false [2, 3, 20] [
 vo 15 (.fa 27 2 2 1 (.t 2)),
 vo 16 (.load 24 false 1 (.t 15)),
 vo 17 (.fa 27 2 2 1 (.t 3)),
 vo 18 (.load 24 false 1 (.t 17)),
 vo 19 (.call 84 [(.t 16),(.t 18)]),
 vo 20 (.un .not (.t 19))])
 (.cond (.t 20)
 (.seq
 (.region false [4] [
 vo 4 (.asg (.c (.bool false)))])
 .ret)
 .skip))
 (.seq
 (.seq
 (.region false [2, 3, 26] [
 vo 21 (.fa 27 3 3 1 (.t 2)),
 vo 22 (.load 25 false 1 (.t 21)),
 vo 23 (.fa 27 3 3 1 (.t 3)),
 vo 24 (.load 25 false 1 (.t 23)),
 vo 25 (.call 85 [(.t 22),(.t 24)]),
 vo 26 (.un .not (.t 25))])
 (.cond (.t 26)
 (.seq
 (.region false [4] [
 vo 4 (.asg (.c (.bool false)))])
 .ret)
 .skip))
 (.seq
 (.seq
 (.region false [2, 3, 32] [
 vo 27 (.fa 27 4 4 1 (.t 2)),
 vo 28 (.load 24 false 1 (.t 27)),
 vo 29 (.fa 27 4 4 1 (.t 3)),
 vo 30 (.load 24 false 1 (.t 29)),
 vo 31 (.call 84 [(.t 28),(.t 30)]),
 vo 32 (.un .not (.t 31))])
 (.cond (.t 32)
 (.seq
 (.region false [4] [
 vo 4 (.asg (.c (.bool false)))])
 .ret)
 .skip))
 (.seq
 (.seq
 (.region false [2, 3, 37] [
 vo 33 (.fa 27 5 5 1 (.t 2)),
 vo 34 (.load 2 false 1 (.t 33)),
 vo 35 (.fa 27 5 5 1 (.t 3)),
 vo 36 (.load 2 false 1 (.t 35)),
 vo 37 (.bin false .neq 2 (.t 34) (.t 36))])
 (.cond (.t 37)
 (.seq
 (.region false [4] [
 vo 4 (.asg (.c (.bool false)))])
 .ret)
 .skip))
 (.seq
 (.seq
 (.region false [2, 3, 42] [
 vo 38 (.fa 27 6 6 1 (.t 2)),
 vo 39 (.load 2 false 1 (.t 38)),
 vo 40 (.fa 27 6 6 1 (.t 3)),
 vo 41 (.load 2 false 1 (.t 40)),
 vo 42 (.bin false .neq 2 (.t 39) (.t 41))])
 (.cond (.t 42)
 (.seq
 (.region false [4] [
 vo 4 (.asg (.c (.bool false)))])
 .ret)
 .skip))
 (.seq
 (.seq
 (.region false [47] [
 vo 43 (.fa 27 7 7 1 (.t 2)),
 vo 44 (.load 2 false 1 (.t 43)),
 vo 45 (.fa 27 7 7 1 (.t 3)),
 vo 46 (.load 2 false 1 (.t 45)),
 vo 47 (.bin false .neq 2 (.t 44) (.t 46))])
 (.cond (.t 47)
 (.seq
 (.region false [4] [
 vo 4 (.asg (.c (.bool false)))])
 .ret)
 .skip))
 (.seq
 (.region false [4] [
 vo 4 (.asg (.c (.bool true)))])
 .ret))))))))))
 modes:=[.lend,.lend]
 rets:=[⟨4,none⟩]}

/-- loop.example/g00539/laws.markLedger -/
def v35 : VFun := {
 code:=
 (.seq
 (.region false [0, 1, 2] [
 vo 2 (.box 27 (.t 0)),
 vo 4 (.asg (.c (.int .i64 0)))])
 (.seq
 (.region false [0, 1, 2] [
 vo 5 (.fa 27 2 2 1 (.t 2)),
 vo 6 (.load 24 false 1 (.t 5)),
 vo 7 (.mov (.t 1)),
 vo 8 (.call 86 [(.t 6),(.t 7)]),
 vo 1 (.asg (.t 8))])
 (.seq
 (.region false [0, 1, 2] [
 vo 9 (.fa 27 3 3 1 (.t 2)),
 vo 10 (.load 25 false 1 (.t 9)),
 vo 11 (.mov (.t 1)),
 vo 12 (.call 87 [(.t 10),(.t 11)]),
 vo 1 (.asg (.t 12))])
 (.seq
 (.region false [0, 1, 2] [
 vo 13 (.fa 27 4 4 1 (.t 2)),
 vo 14 (.load 24 false 1 (.t 13)),
 vo 15 (.mov (.t 1)),
 vo 16 (.call 86 [(.t 14),(.t 15)]),
 vo 1 (.asg (.t 16))])
 (.seq
 (.region false [0, 2, 4] [
 vo 17 (.mov (.t 1)),
 vo 4 (.asg (.t 17))])
 .ret)))))
 modes:=[.io,.lend]
 rets:=[⟨4,none⟩]}

/-- loop.example/g00539/laws.markLedgerResult -/
def v36 : VFun := {
 code:=
 (.seq
 (.region false [0, 1, 2] [
 vo 2 (.box 31 (.t 0)),
 vo 4 (.asg (.c (.int .i64 0)))])
 (.seq
 (.region false [0, 1, 2] [
 vo 5 (.fa 31 2 2 8 (.t 2)),
 vo 6 (.load 27 true 8 (.t 5)),
 vo 7 (.mov (.t 1)),
 vo 8 (.call 35 [(.t 6),(.t 7)]),
 vo 1 (.asg (.t 8))])
 (.seq
 (.region false [0, 2, 4] [
 vo 9 (.mov (.t 1)),
 vo 4 (.asg (.t 9))])
 .ret)))
 modes:=[.io,.lend]
 rets:=[⟨4,none⟩]}

/-- loop.example/g00539/laws.heldLedgerResult -/
def v37 : VFun := {
 code:=
 (.seq
 (.region false [1, 2] [
 vo 2 (.box 31 (.t 0)),
 vo 4 (.asg (.c (.int .i64 0)))])
 (.seq
 (.region false [1] [
 vo 5 (.fa 31 2 2 8 (.t 2)),
 vo 6 (.load 27 true 8 (.t 5)),
 vo 7 (.mov (.t 1)),
 vo 8 (.call 88 [(.t 6),(.t 7)]),
 vo 1 (.asg (.t 8))])
 (.seq
 (.seq
 (.region false [1, 10] [
 vo 9 (.mov (.t 1)),
 vo 10 (.bin false .lss 3 (.t 9) (.c (.int .i64 0)))])
 (.cond (.t 10)
 (.seq
 (.region false [4] [
 vo 4 (.asg (.c (.int .i64 (-1))))])
 .ret)
 .skip))
 (.seq
 (.region false [4] [
 vo 11 (.mov (.t 1)),
 vo 4 (.asg (.t 11))])
 .ret))))
 modes:=[.lend,.lend]
 rets:=[⟨4,none⟩]}

/-- loop.example/g00539/impl.changed -/
def v42 : VFun := {
 code:=
 (.seq
 (.region false [1, 2, 4] [
 vo 2 (.box 27 (.t 0)),
 vo 4 (.alloc 31 [(.val (.int .i64 0)),(.val (.int .i64 0)),(.val (.int .i64 0)),(.val (.int .i64 0)),(.nl 2),(.nl 5),(.nl 2),(.val (.int .i64 0)),(.val (.int .i64 0)),(.val (.int .i64 0))])])
 (.seq
 (.seq
 (.region false [1, 2, 4, 5] [
 vo 8 (.load 27 true 8 (.t 2)),
 vo 9 (.call 13 [(.t 8)]),
 vo 5 (.asg (.t 9))])
 (.seq
 (.region false [1, 2, 4, 5, 11] [
 vo 10 (.mov (.t 5)),
 vo 11 (.bin false .neq 2 (.t 10) (.c (.int .i64 0)))])
 (.cond (.t 11)
 (.seq
 (.region false [4] [
 vo 12 (.mov (.t 5)),
 vo 13 (.build 31 [(.val (.int .i64 0)),(.val (.int .i64 0)),(.val (.int .i64 0)),(.val (.int .i64 0)),(.nl 2),(.nl 5),(.nl 2),(.val (.int .i64 0)),(.val (.int .i64 0)),(.val (.int .i64 0))] [(0,0,1,(.t 12))]),
 vn (.store 31 10 (.t 4) (.t 13))])
 .ret)
 .skip)))
 (.seq
 (.region false [1, 4, 6] [
 vo 14 (.load 27 true 8 (.t 2)),
 vo 15 (.call 91 [(.t 14)]),
 vo 6 (.alloc 27 [(.val (.int .i64 0)),(.val (.int .i64 0)),(.nl 2),(.nl 5),(.nl 2),(.val (.int .i64 0)),(.val (.int .i64 0)),(.val (.int .i64 0))]),
 vn (.store 27 8 (.t 6) (.t 15))])
 (.seq
 (.seq
 (.region false [4, 6, 7] [
 vo 16 (.mov (.t 1)),
 vo 17 (.callv (.t 16) [(.t 6)]),
 vo 7 (.asg (.t 17))])
 (.seq
 (.region false [4, 6, 7, 19] [
 vo 18 (.mov (.t 7)),
 vo 19 (.bin false .neq 2 (.t 18) (.c (.int .i64 0)))])
 (.cond (.t 19)
 (.seq
 (.region false [4] [
 vo 20 (.mov (.t 7)),
 vo 21 (.build 31 [(.val (.int .i64 0)),(.val (.int .i64 0)),(.val (.int .i64 0)),(.val (.int .i64 0)),(.nl 2),(.nl 5),(.nl 2),(.val (.int .i64 0)),(.val (.int .i64 0)),(.val (.int .i64 0))] [(0,0,1,(.t 20))]),
 vn (.store 31 10 (.t 4) (.t 21))])
 .ret)
 .skip)))
 (.seq
 (.region false [4] [
 vo 22 (.load 27 true 8 (.t 6)),
 vo 23 (.build 31 [(.val (.int .i64 0)),(.val (.int .i64 0)),(.val (.int .i64 0)),(.val (.int .i64 0)),(.nl 2),(.nl 5),(.nl 2),(.val (.int .i64 0)),(.val (.int .i64 0)),(.val (.int .i64 0))] [(2,2,8,(.t 22))]),
 vn (.store 31 10 (.t 4) (.t 23))])
 .ret)))))
 modes:=[.lend,.lend]
 rets:=[⟨4,some (true,10)⟩]}

/-- loop.example/g00539/impl.in -/
def v45 : VFun := {
 code:=
 (.seq
 (.region false [0, 1, 2] [
 vo 6 (.asg (.c (.bool false)))])
 (.seq
 (.region false [6] [
 vo 7 (.mov (.t 0)),
 vo 8 (.mov (.t 1)),
 vo 9 (.bin false .geq 2 (.t 7) (.t 8)),
 vo 10 (.mov (.t 9)),
 ⟨some 11,.mov (.t 0),some (10,true),[]⟩,
 ⟨some 12,.mov (.t 2),some (10,true),[]⟩,
 ⟨some 13,.bin false .leq 2 (.t 11) (.t 12),some (10,true),[]⟩,
 vo 14 (.pick (.t 10) (.t 13) (.c (.bool false))),
 vo 6 (.asg (.t 14))])
 .ret))
 modes:=[.lend,.lend,.lend]
 rets:=[⟨6,none⟩]}

/-- loop.example/g00539/impl.isAmount -/
def v46 : VFun := {
 code:=
 (.seq
 (.region false [0] [
 vo 2 (.asg (.c (.bool false)))])
 (.seq
 (.region false [2] [
 vo 3 (.mov (.t 0)),
 vo 4 (.call 45 [(.t 3),(.c (.int .i64 0)),(.c (.int .i64 1000000))]),
 vo 2 (.asg (.t 4))])
 .ret))
 modes:=[.lend]
 rets:=[⟨2,none⟩]}

/-- loop.example/g00539/impl.weightAt -/
def v47 : VFun := {
 code:=
 (.seq
 (.region false [0, 3] [
 vo 3 (.box 9 (.t 1)),
 vo 4 (.asg (.c (.int .i64 0)))])
 (.seq
 (.region false [4] [
 vo 5 (.mov (.t 0)),
 vo 6 (.fn 93 [] [(.t 3)]),
 vo 7 (.call 92 [(.t 5),(.t 6)]),
 vo 4 (.asg (.t 7))])
 .ret))
 modes:=[.lend,.lend]
 rets:=[⟨4,none⟩]}

def b51_0:VC:=
 (.seq
 (.seq
 (.region false [0, 4, 49] [
 vo 43 (.mov (.t 4)),
 vo 44 (.mov (.t 0)),
 vo 45 (.nilc (.t 44)),
 vo 46 (.fa 27 3 3 1 (.t 45)),
 vo 47 (.load 25 false 1 (.t 46)),
 vo 48 (.len false 25 (.t 47)),
 vo 49 (.bin false .lss 3 (.t 43) (.t 48))])
 (.cond (.t 49)
 .skip
 (.exit 0)))
 (.seq
 (.block 1
 (.seq
 (.region false [0, 4, 5] [
 vo 52 (.mov (.t 0)),
 vo 53 (.nilc (.t 52)),
 vo 54 (.fa 27 3 3 1 (.t 53)),
 vo 55 (.load 25 false 1 (.t 54)),
 vo 56 (.mov (.t 4)),
 vo 57 (.call 97 [(.t 55),(.t 56)]),
 vo 5 (.asg (.t 57))])
 (.seq
 (.region false [0, 4, 5, 59] [
 vo 58 (.mov (.t 5)),
 vo 59 (.bin false .neq 2 (.t 58) (.c (.int .i64 0)))])
 (.cond (.t 59)
 (.seq
 (.region false [2] [
 vo 60 (.mov (.t 5)),
 vo 2 (.asg (.t 60))])
 .ret)
 .skip))))
 (.region false [0, 4] [
 vo 50 (.mov (.t 4)),
 vo 51 (.bin false .add 3 (.t 50) (.c (.int .i64 1))),
 vo 4 (.asg (.t 51))])))
def l51_0:VC:=.loop b51_0
/-- loop.example/g00539/spec.l14Fault -/
def v51 : VFun := {
 code:=
 (.seq
 (.region false [0] [
 vo 2 (.asg (.c (.int .i64 0)))])
 (.seq
 (.seq
 (.region false [0, 8] [
 vo 6 (.mov (.t 0)),
 vo 7 (.call 95 [(.t 6)]),
 vo 8 (.un .not (.t 7))])
 (.cond (.t 8)
 (.seq
 (.region false [2] [
 vo 2 (.asg (.c (.int .i64 3)))])
 .ret)
 .skip))
 (.seq
 (.seq
 (.region false [0, 3] [
 vo 9 (.mov (.t 0)),
 vo 10 (.nilc (.t 9)),
 vo 11 (.fa 27 2 2 1 (.t 10)),
 vo 12 (.load 24 false 1 (.t 11)),
 vo 13 (.call 96 [(.t 12)]),
 vo 3 (.asg (.t 13))])
 (.seq
 (.region false [0, 3, 15] [
 vo 14 (.mov (.t 3)),
 vo 15 (.bin false .neq 2 (.t 14) (.c (.int .i64 0)))])
 (.cond (.t 15)
 (.seq
 (.region false [2] [
 vo 16 (.mov (.t 3)),
 vo 2 (.asg (.t 16))])
 .ret)
 .skip)))
 (.seq
 (.seq
 (.region true [0, 42] [
 vo 17 (.mov (.t 0)),
 vo 18 (.nilc (.t 17)),
 vo 19 (.fa 27 2 2 1 (.t 18)),
 vo 20 (.load 24 false 1 (.t 19)),
 vo 21 (.len false 24 (.t 20)),
 ⟨some 22,.mov (.t 0),none,[0,1,2,3,4]⟩,
 ⟨some 23,.nilc (.t 22),none,[0,1,2,3,4]⟩,
 ⟨some 24,.fa 27 0 0 1 (.t 23),none,[0,1,2,3,4]⟩,
 ⟨some 25,.load 2 false 1 (.t 24),none,[0,1,2,3,4]⟩,
 vo 26 (.bin false .gtr 2 (.t 21) (.t 25)),
 vo 27 (.mov (.t 26)),
 ⟨some 28,.mov (.t 0),some (27,false),[]⟩,
 ⟨some 29,.nilc (.t 28),some (27,false),[]⟩,
 ⟨some 30,.fa 27 3 3 1 (.t 29),some (27,false),[]⟩,
 ⟨some 31,.load 25 false 1 (.t 30),some (27,false),[]⟩,
 ⟨some 32,.len false 25 (.t 31),some (27,false),[]⟩,
 ⟨some 33,.bin false .gtr 3 (.t 32) (.c (.int .i64 6)),some (27,false),[]⟩,
 vo 34 (.pick (.t 27) (.c (.bool true)) (.t 33)),
 vo 35 (.mov (.t 34)),
 ⟨some 36,.mov (.t 0),some (35,false),[]⟩,
 ⟨some 37,.nilc (.t 36),some (35,false),[]⟩,
 ⟨some 38,.fa 27 4 4 1 (.t 37),some (35,false),[]⟩,
 ⟨some 39,.load 24 false 1 (.t 38),some (35,false),[]⟩,
 ⟨some 40,.len false 24 (.t 39),some (35,false),[]⟩,
 ⟨some 41,.bin false .gtr 3 (.t 40) (.c (.int .i64 8)),some (35,false),[]⟩,
 vo 42 (.pick (.t 35) (.c (.bool true)) (.t 41))])
 (.cond (.t 42)
 (.seq
 (.region false [2] [
 vo 2 (.asg (.c (.int .i64 2)))])
 .ret)
 .skip))
 (.seq
 (.seq
 (.region false [0, 4] [
 vo 4 (.asg (.c (.int .i64 0)))])
 (.block 0
 l51_0))
 (.seq
 (.seq
 (.region false [0, 66] [
 vo 61 (.mov (.t 0)),
 vo 62 (.nilc (.t 61)),
 vo 63 (.fa 27 4 4 1 (.t 62)),
 vo 64 (.load 24 false 1 (.t 63)),
 vo 65 (.call 98 [(.t 64)]),
 vo 66 (.un .not (.t 65))])
 (.cond (.t 66)
 (.seq
 (.region false [2] [
 vo 2 (.asg (.c (.int .i64 1)))])
 .ret)
 .skip))
 (.seq
 (.seq
 (.region true [101] [
 vo 67 (.mov (.t 0)),
 vo 68 (.nilc (.t 67)),
 vo 69 (.fa 27 4 4 1 (.t 68)),
 vo 70 (.load 24 false 1 (.t 69)),
 vo 71 (.call 99 [(.t 70)]),
 ⟨some 72,.mov (.t 0),none,[0,1,2,3,4]⟩,
 ⟨some 73,.nilc (.t 72),none,[0,1,2,3,4]⟩,
 ⟨some 74,.fa 27 6 6 1 (.t 73),none,[0,1,2,3,4]⟩,
 ⟨some 75,.load 2 false 1 (.t 74),none,[0,1,2,3,4]⟩,
 vo 76 (.bin false .add 2 (.t 71) (.t 75)),
 ⟨some 77,.mov (.t 0),none,[0,1,2,3,4,5,6,7,8,9]⟩,
 ⟨some 78,.nilc (.t 77),none,[0,1,2,3,4,5,6,7,8,9]⟩,
 ⟨some 79,.fa 27 5 5 1 (.t 78),none,[0,1,2,3,4,5,6,7,8,9]⟩,
 ⟨some 80,.load 2 false 1 (.t 79),none,[0,1,2,3,4,5,6,7,8,9]⟩,
 vo 81 (.bin false .add 2 (.t 76) (.t 80)),
 ⟨some 82,.mov (.t 0),none,[0,1,2,3,4,5,6,7,8,9,10,11,12,13,14]⟩,
 ⟨some 83,.nilc (.t 82),none,[0,1,2,3,4,5,6,7,8,9,10,11,12,13,14]⟩,
 ⟨some 84,.fa 27 3 3 1 (.t 83),none,[0,1,2,3,4,5,6,7,8,9,10,11,12,13,14]⟩,
 ⟨some 85,.load 25 false 1 (.t 84),none,[0,1,2,3,4,5,6,7,8,9,10,11,12,13,14]⟩,
 ⟨some 86,.call 100 [(.t 85),(.c (.bool true))],none,[5,6,7,8,9,10,11,12,13,14]⟩,
 ⟨some 87,.mov (.t 0),none,[0,1,2,3,4,5,6,7,8,9,10,11,12,13,14,15,16,17,18,19]⟩,
 ⟨some 88,.nilc (.t 87),none,[0,1,2,3,4,5,6,7,8,9,10,11,12,13,14,15,16,17,18,19]⟩,
 ⟨some 89,.fa 27 7 7 1 (.t 88),none,[0,1,2,3,4,5,6,7,8,9,10,11,12,13,14,15,16,17,18,19]⟩,
 ⟨some 90,.load 2 false 1 (.t 89),none,[0,1,2,3,4,5,6,7,8,9,10,11,12,13,14,15,16,17,18,19]⟩,
 ⟨some 91,.bin false .add 2 (.t 86) (.t 90),none,[5,6,7,8,9,10,11,12,13,14]⟩,
 vo 92 (.bin false .neq 2 (.t 81) (.t 91)),
 vo 93 (.mov (.t 92)),
 ⟨some 94,.mov (.t 0),some (93,false),[]⟩,
 ⟨some 95,.nilc (.t 94),some (93,false),[]⟩,
 ⟨some 96,.fa 27 3 3 1 (.t 95),some (93,false),[]⟩,
 ⟨some 97,.load 25 false 1 (.t 96),some (93,false),[]⟩,
 ⟨some 98,.call 100 [(.t 97),(.c (.bool false))],some (93,false),[]⟩,
 ⟨some 99,.call 101 [(.t 98)],some (93,false),[]⟩,
 ⟨some 100,.un .not (.t 99),some (93,false),[]⟩,
 vo 101 (.pick (.t 93) (.c (.bool true)) (.t 100))])
 (.cond (.t 101)
 (.seq
 (.region false [2] [
 vo 2 (.asg (.c (.int .i64 7)))])
 .ret)
 .skip))
 (.seq
 (.region false [2] [
 vo 2 (.asg (.c (.int .i64 0)))])
 .ret))))))))
 modes:=[.lend]
 rets:=[⟨2,none⟩]}

/-- loop.example/g00539/spec.l14Bad -/
def v52 : VFun := {
 code:=
 (.seq
 (.region false [0, 2] [
 vo 2 (.alloc 31 [(.val (.int .i64 0)),(.val (.int .i64 0)),(.val (.int .i64 0)),(.val (.int .i64 0)),(.nl 2),(.nl 5),(.nl 2),(.val (.int .i64 0)),(.val (.int .i64 0)),(.val (.int .i64 0))])])
 (.seq
 (.region false [2] [
 vo 3 (.mov (.t 0)),
 vo 4 (.build 31 [(.val (.int .i64 0)),(.val (.int .i64 0)),(.val (.int .i64 0)),(.val (.int .i64 0)),(.nl 2),(.nl 5),(.nl 2),(.val (.int .i64 0)),(.val (.int .i64 0)),(.val (.int .i64 0))] [(0,0,1,(.t 3))]),
 vn (.store 31 10 (.t 2) (.t 4))])
 .ret))
 modes:=[.lend]
 rets:=[⟨2,some (true,10)⟩]}

/-- loop.example/g00539/impl.sizesOk -/
def v54 : VFun := {
 code:=
 (.seq
 (.region false [0, 1] [
 vo 4 (.asg (.c (.bool false)))])
 (.seq
 (.region false [4] [
 vo 5 (.mov (.t 0)),
 vo 6 (.call 45 [(.t 5),(.c (.int .i64 1)),(.c (.int .i64 12))]),
 vo 7 (.mov (.t 6)),
 ⟨some 8,.mov (.t 1),some (7,true),[]⟩,
 ⟨some 9,.call 45 [(.t 8),(.c (.int .i64 0)),(.c (.int .i64 1000))],some (7,true),[]⟩,
 vo 10 (.pick (.t 7) (.t 9) (.c (.bool false))),
 vo 4 (.asg (.t 10))])
 .ret))
 modes:=[.lend,.lend]
 rets:=[⟨4,none⟩]}

def b55_0:VC:=
 (.seq
 (.region false [8, 9, 10, 11] [
 vo 11 (.bin false .lss 3 (.t 10) (.t 9))])
 (.seq
 (.cond (.t 11)
 .skip
 (.exit 0))
 (.seq
 (.block 1
 (.seq
 (.region false [4, 8, 9, 10] [
 vo 12 (.ia 24 34 2 (.t 8) (.t 10)),
 vo 13 (.load 34 true 2 (.t 12)),
 vo 4 (.alloc 34 [(.val (.string (⟨#[]⟩:ByteArray))),(.val (.int .i64 0))]),
 vn (.store 34 2 (.t 4) (.t 13))])
 (.block 2
 (.seq
 (.region false [4, 8, 9, 10, 14] [
 vo 15 (.fa 34 0 0 1 (.t 4)),
 vo 16 (.load 9 false 1 (.t 15)),
 vo 17 (.call 71 [(.t 16)]),
 vo 18 (.un .not (.t 17)),
 vo 14 (.asg (.t 18))])
 (.cond (.t 14)
 (.seq
 (.region false [2] [
 vo 2 (.asg (.c (.int .i64 5)))])
 .ret)
 (.seq
 (.region false [8, 9, 10, 19] [
 vo 20 (.fa 34 1 1 1 (.t 4)),
 vo 21 (.load 2 false 1 (.t 20)),
 vo 22 (.call 45 [(.t 21),(.c (.int .i64 1)),(.c (.int .i64 9999))]),
 vo 23 (.un .not (.t 22)),
 vo 19 (.asg (.t 23))])
 (.cond (.t 19)
 (.seq
 (.region false [2] [
 vo 2 (.asg (.c (.int .i64 3)))])
 .ret)
 .skip)))))))
 (.region false [8, 9, 10] [
 vo 24 (.bin false .add 3 (.t 10) (.c (.int .i64 1))),
 vo 10 (.mov (.t 24))]))))
def l55_0:VC:=.loop b55_0
/-- loop.example/g00539/impl.WindowFault -/
def v55 : VFun := {
 code:=
 (.seq
 (.region false [0] [
 vo 2 (.asg (.c (.int .i64 0)))])
 (.seq
 (.seq
 (.region false [0, 7] [
 vo 5 (.mov (.t 0)),
 vo 6 (.len false 24 (.t 5)),
 vo 7 (.bin false .gtr 3 (.t 6) (.c (.int .i64 12)))])
 (.cond (.t 7)
 (.seq
 (.region false [2] [
 vo 2 (.asg (.c (.int .i64 2)))])
 .ret)
 .skip))
 (.seq
 (.seq
 (.region false [8, 9, 10] [
 vo 8 (.mov (.t 0)),
 vo 9 (.len false 24 (.t 8)),
 vo 10 (.mov (.c (.int .i64 0)))])
 (.block 0
 l55_0))
 (.seq
 (.region false [2] [
 vo 2 (.asg (.c (.int .i64 0)))])
 .ret))))
 modes:=[.lend]
 rets:=[⟨2,none⟩]}

/-- loop.example/g00539/impl.rewardFault -/
def v56 : VFun := {
 code:=
 (.seq
 (.region false [1, 2] [
 vo 2 (.box 96 (.t 0)),
 vo 4 (.asg (.c (.int .i64 0)))])
 (.seq
 (.block 0
 (.seq
 (.region false [1, 2, 5] [
 vo 6 (.fa 96 0 0 1 (.t 2)),
 vo 7 (.load 2 false 1 (.t 6)),
 vo 8 (.call 72 [(.t 7)]),
 vo 9 (.un .not (.t 8)),
 vo 10 (.mov (.t 9)),
 ⟨some 11,.fa 96 1 1 1 (.t 2),some (10,false),[]⟩,
 ⟨some 12,.load 2 false 1 (.t 11),some (10,false),[]⟩,
 ⟨some 13,.call 46 [(.t 12)],some (10,false),[]⟩,
 ⟨some 14,.un .not (.t 13),some (10,false),[]⟩,
 vo 15 (.pick (.t 10) (.c (.bool true)) (.t 14)),
 vo 16 (.mov (.t 15)),
 ⟨some 17,.fa 96 2 2 1 (.t 2),some (16,false),[]⟩,
 ⟨some 18,.load 2 false 1 (.t 17),some (16,false),[]⟩,
 ⟨some 19,.call 46 [(.t 18)],some (16,false),[]⟩,
 ⟨some 20,.un .not (.t 19),some (16,false),[]⟩,
 vo 21 (.pick (.t 16) (.c (.bool true)) (.t 20)),
 vo 22 (.mov (.t 21)),
 ⟨some 23,.fa 96 4 4 1 (.t 2),some (22,false),[]⟩,
 ⟨some 24,.load 2 false 1 (.t 23),some (22,false),[]⟩,
 ⟨some 25,.call 45 [(.t 24),(.c (.int .i64 1)),(.c (.int .i64 3))],some (22,false),[]⟩,
 ⟨some 26,.un .not (.t 25),some (22,false),[]⟩,
 vo 27 (.pick (.t 22) (.c (.bool true)) (.t 26)),
 vo 5 (.asg (.t 27))])
 (.cond (.t 5)
 (.seq
 (.region false [4] [
 vo 4 (.asg (.c (.int .i64 3)))])
 .ret)
 (.seq
 (.region true [1, 2, 28] [
 vo 29 (.fa 96 3 3 1 (.t 2)),
 vo 30 (.load 24 false 1 (.t 29)),
 vo 31 (.call 57 [(.t 30),(.c (.int .i64 12))]),
 vo 32 (.un .not (.t 31)),
 vo 33 (.mov (.t 32)),
 ⟨some 34,.fa 96 3 3 1 (.t 2),some (33,false),[]⟩,
 ⟨some 35,.load 24 false 1 (.t 34),some (33,false),[]⟩,
 ⟨some 36,.call 58 [(.t 35)],some (33,false),[]⟩,
 ⟨some 37,.fa 96 2 2 1 (.t 2),some (33,false),[5,6,7]⟩,
 ⟨some 38,.load 2 false 1 (.t 37),some (33,false),[5,6,7]⟩,
 ⟨some 39,.bin false .add 2 (.t 36) (.t 38),some (33,false),[]⟩,
 ⟨some 40,.fa 96 1 1 1 (.t 2),some (33,false),[5,6,7,8,9,10]⟩,
 ⟨some 41,.load 2 false 1 (.t 40),some (33,false),[5,6,7,8,9,10]⟩,
 ⟨some 42,.bin false .neq 2 (.t 39) (.t 41),some (33,false),[]⟩,
 vo 43 (.pick (.t 33) (.c (.bool true)) (.t 42)),
 vo 28 (.asg (.t 43))])
 (.cond (.t 28)
 (.seq
 (.region false [4] [
 vo 4 (.asg (.c (.int .i64 1)))])
 .ret)
 (.seq
 (.region false [44] [
 vo 45 (.mov (.t 1)),
 vo 46 (.fa 96 0 0 1 (.t 2)),
 vo 47 (.load 2 false 1 (.t 46)),
 vo 48 (.call 82 [(.t 45),(.t 47)]),
 vo 49 (.bin false .geq 3 (.t 48) (.c (.int .i64 0))),
 vo 44 (.asg (.t 49))])
 (.cond (.t 44)
 (.seq
 (.region false [4] [
 vo 4 (.asg (.c (.int .i64 6)))])
 .ret)
 .skip)))))))
 (.seq
 (.region false [4] [
 vo 4 (.asg (.c (.int .i64 0)))])
 .ret)))
 modes:=[.lend,.lend]
 rets:=[⟨4,none⟩]}

def b57_0:VC:=
 (.seq
 (.region false [0, 1, 7, 8, 9, 10] [
 vo 10 (.bin false .lss 3 (.t 9) (.t 8))])
 (.seq
 (.cond (.t 10)
 .skip
 (.exit 0))
 (.seq
 (.block 1
 (.seq
 (.region false [0, 1, 5, 6, 7, 8, 9] [
 vo 11 (.mov (.t 9)),
 vo 12 (.ia 24 34 2 (.t 7) (.t 9)),
 vo 13 (.load 34 true 2 (.t 12)),
 vo 6 (.alloc 34 [(.val (.string (⟨#[]⟩:ByteArray))),(.val (.int .i64 0))]),
 vo 5 (.asg (.t 11)),
 vn (.store 34 2 (.t 6) (.t 13))])
 (.seq
 (.region true [0, 1, 7, 8, 9, 32] [
 vo 14 (.fa 34 0 0 1 (.t 6)),
 vo 15 (.load 9 false 1 (.t 14)),
 vo 16 (.call 71 [(.t 15)]),
 vo 17 (.un .not (.t 16)),
 vo 18 (.mov (.t 17)),
 ⟨some 19,.fa 34 1 1 1 (.t 6),some (18,false),[]⟩,
 ⟨some 20,.load 2 false 1 (.t 19),some (18,false),[]⟩,
 ⟨some 21,.call 46 [(.t 20)],some (18,false),[]⟩,
 ⟨some 22,.un .not (.t 21),some (18,false),[]⟩,
 vo 23 (.pick (.t 18) (.c (.bool true)) (.t 22)),
 vo 24 (.mov (.t 23)),
 ⟨some 25,.mov (.t 0),some (24,false),[]⟩,
 ⟨some 26,.mov (.t 5),some (24,false),[11]⟩,
 ⟨some 27,.cut 24 (some 34) 2 (.t 25) none (some (.t 26)),some (24,false),[]⟩,
 ⟨some 28,.fa 34 0 0 1 (.t 6),some (24,false),[11,12,13]⟩,
 ⟨some 29,.load 9 false 1 (.t 28),some (24,false),[11,12,13]⟩,
 ⟨some 30,.call 47 [(.t 27),(.t 29)],some (24,false),[]⟩,
 ⟨some 31,.bin false .geq 3 (.t 30) (.c (.int .i64 0)),some (24,false),[]⟩,
 vo 32 (.pick (.t 24) (.c (.bool true)) (.t 31))])
 (.cond (.t 32)
 (.seq
 (.region false [4] [
 vo 4 (.asg (.c (.bool false)))])
 .ret)
 .skip))))
 (.region false [0, 1, 7, 8, 9] [
 vo 33 (.bin false .add 3 (.t 9) (.c (.int .i64 1))),
 vo 9 (.mov (.t 33))]))))
def l57_0:VC:=.loop b57_0
/-- loop.example/g00539/impl.owedOk -/
def v57 : VFun := {
 code:=
 (.seq
 (.region false [0, 1] [
 vo 4 (.asg (.c (.bool false)))])
 (.seq
 (.seq
 (.region false [0, 1, 7, 8, 9] [
 vo 7 (.mov (.t 0)),
 vo 8 (.len false 24 (.t 7)),
 vo 9 (.mov (.c (.int .i64 0)))])
 (.block 0
 l57_0))
 (.seq
 (.region false [4] [
 vo 34 (.mov (.t 0)),
 vo 35 (.len false 24 (.t 34)),
 vo 36 (.mov (.t 1)),
 vo 37 (.bin false .leq 3 (.t 35) (.t 36)),
 vo 4 (.asg (.t 37))])
 .ret)))
 modes:=[.lend,.lend]
 rets:=[⟨4,none⟩]}

def b58_0:VC:=
 (.seq
 (.region false [3, 6, 7, 8, 9] [
 vo 9 (.bin false .lss 3 (.t 8) (.t 7))])
 (.seq
 (.cond (.t 9)
 .skip
 (.exit 0))
 (.seq
 (.block 1
 (.seq
 (.region false [3, 5, 6, 7, 8] [
 vo 10 (.ia 24 34 2 (.t 6) (.t 8)),
 vo 11 (.load 34 true 2 (.t 10)),
 vo 5 (.alloc 34 [(.val (.string (⟨#[]⟩:ByteArray))),(.val (.int .i64 0))]),
 vn (.store 34 2 (.t 5) (.t 11))])
 (.region false [3, 6, 7, 8] [
 vo 12 (.mov (.t 3)),
 vo 13 (.fa 34 1 1 1 (.t 5)),
 vo 14 (.load 2 false 1 (.t 13)),
 vo 15 (.bin false .add 2 (.t 12) (.t 14)),
 vo 3 (.asg (.t 15))])))
 (.region false [3, 6, 7, 8] [
 vo 16 (.bin false .add 3 (.t 8) (.c (.int .i64 1))),
 vo 8 (.mov (.t 16))]))))
def l58_0:VC:=.loop b58_0
/-- loop.example/g00539/impl.amounts -/
def v58 : VFun := {
 code:=
 (.seq
 (.region false [0] [
 vo 2 (.asg (.c (.int .i64 0)))])
 (.seq
 (.region false [0, 3] [
 vo 3 (.asg (.c (.int .i64 0)))])
 (.seq
 (.seq
 (.region false [3, 6, 7, 8] [
 vo 6 (.mov (.t 0)),
 vo 7 (.len false 24 (.t 6)),
 vo 8 (.mov (.c (.int .i64 0)))])
 (.block 0
 l58_0))
 (.seq
 (.region false [2] [
 vo 17 (.mov (.t 3)),
 vo 2 (.asg (.t 17))])
 .ret))))
 modes:=[.lend]
 rets:=[⟨2,none⟩]}

def b59_0:VC:=
 (.seq
 (.region false [1, 5, 8, 9, 10, 11] [
 vo 11 (.bin false .lss 3 (.t 10) (.t 9))])
 (.seq
 (.cond (.t 11)
 .skip
 (.exit 0))
 (.seq
 (.block 1
 (.seq
 (.region false [1, 5, 7, 8, 9, 10] [
 vo 12 (.ia 25 96 5 (.t 8) (.t 10)),
 vo 13 (.load 96 true 5 (.t 12)),
 vo 7 (.alloc 96 [(.val (.int .i64 0)),(.val (.int .i64 0)),(.val (.int .i64 0)),(.nl 2),(.val (.int .i64 0))]),
 vn (.store 96 5 (.t 7) (.t 13))])
 (.seq
 (.region false [1, 5, 7, 8, 9, 10, 21] [
 vo 14 (.mov (.t 1)),
 vo 15 (.bin false .eql 2 (.t 14) (.c (.int .i64 0))),
 vo 16 (.mov (.t 15)),
 ⟨some 17,.fa 96 4 4 1 (.t 7),some (16,false),[]⟩,
 ⟨some 18,.load 2 false 1 (.t 17),some (16,false),[]⟩,
 ⟨some 19,.mov (.t 1),some (16,false),[]⟩,
 ⟨some 20,.bin false .eql 2 (.t 18) (.t 19),some (16,false),[]⟩,
 vo 21 (.pick (.t 16) (.c (.bool true)) (.t 20))])
 (.cond (.t 21)
 (.region false [1, 5, 8, 9, 10] [
 vo 22 (.mov (.t 5)),
 vo 23 (.fa 96 1 1 1 (.t 7)),
 vo 24 (.load 2 false 1 (.t 23)),
 vo 25 (.bin false .add 2 (.t 22) (.t 24)),
 vo 5 (.asg (.t 25))])
 .skip))))
 (.region false [1, 5, 8, 9, 10] [
 vo 26 (.bin false .add 3 (.t 10) (.c (.int .i64 1))),
 vo 10 (.mov (.t 26))]))))
def l59_0:VC:=.loop b59_0
/-- loop.example/g00539/impl.totals -/
def v59 : VFun := {
 code:=
 (.seq
 (.region false [0, 1] [
 vo 4 (.asg (.c (.int .i64 0)))])
 (.seq
 (.region false [0, 1, 5] [
 vo 5 (.asg (.c (.int .i64 0)))])
 (.seq
 (.seq
 (.region false [1, 5, 8, 9, 10] [
 vo 8 (.mov (.t 0)),
 vo 9 (.len false 25 (.t 8)),
 vo 10 (.mov (.c (.int .i64 0)))])
 (.block 0
 l59_0))
 (.seq
 (.region false [4] [
 vo 27 (.mov (.t 5)),
 vo 4 (.asg (.t 27))])
 .ret))))
 modes:=[.lend,.lend]
 rets:=[⟨4,none⟩]}

def b60_0:VC:=
 (.seq
 (.seq
 (.region false [0, 1, 5, 9] [
 vo 6 (.mov (.t 5)),
 vo 7 (.mov (.t 0)),
 vo 8 (.len false 24 (.t 7)),
 vo 9 (.bin false .lss 3 (.t 6) (.t 8))])
 (.cond (.t 9)
 .skip
 (.exit 0)))
 (.seq
 (.block 1
 (.seq
 (.region false [0, 1, 5, 18] [
 vo 12 (.mov (.t 0)),
 vo 13 (.mov (.t 5)),
 vo 14 (.ia 24 34 2 (.t 12) (.t 13)),
 vo 15 (.fa 34 0 0 1 (.t 14)),
 vo 16 (.load 9 false 1 (.t 15)),
 vo 17 (.mov (.t 1)),
 vo 18 (.bin false .eql 9 (.t 16) (.t 17))])
 (.cond (.t 18)
 (.seq
 (.region false [4] [
 vo 19 (.mov (.t 5)),
 vo 4 (.asg (.t 19))])
 .ret)
 .skip)))
 (.region false [0, 1, 5] [
 vo 10 (.mov (.t 5)),
 vo 11 (.bin false .add 3 (.t 10) (.c (.int .i64 1))),
 vo 5 (.asg (.t 11))])))
def l60_0:VC:=.loop b60_0
/-- loop.example/g00539/spec.l13At -/
def v60 : VFun := {
 code:=
 (.seq
 (.region false [0, 1] [
 vo 4 (.asg (.c (.int .i64 0)))])
 (.seq
 (.seq
 (.region false [0, 1, 5] [
 vo 5 (.asg (.c (.int .i64 0)))])
 (.block 0
 l60_0))
 (.seq
 (.region false [4] [
 vo 4 (.asg (.c (.int .i64 (-1))))])
 .ret)))
 modes:=[.lend,.lend]
 rets:=[⟨4,none⟩]}

/-- loop.example/g00539/impl.workerOk -/
def v71 : VFun := {
 code:=
 (.seq
 (.region false [0] [
 vo 2 (.asg (.c (.bool false)))])
 (.seq
 (.region false [2] [
 vo 3 (.mov (.t 0)),
 vo 4 (.bin false .neq 9 (.t 3) (.c (.string (⟨#[]⟩:ByteArray)))),
 vo 5 (.mov (.t 4)),
 ⟨some 6,.mov (.t 0),some (5,true),[]⟩,
 ⟨some 7,.call 119 [(.t 6)],some (5,true),[]⟩,
 vo 8 (.pick (.t 5) (.t 7) (.c (.bool false))),
 vo 2 (.asg (.t 8))])
 .ret))
 modes:=[.lend]
 rets:=[⟨2,none⟩]}

/-- loop.example/g00539/impl.isSum -/
def v72 : VFun := {
 code:=
 (.seq
 (.region false [0] [
 vo 2 (.asg (.c (.bool false)))])
 (.seq
 (.region false [2] [
 vo 3 (.mov (.t 0)),
 vo 4 (.call 45 [(.t 3),(.c (.int .i64 0)),(.c (.int .i64 2147483646))]),
 vo 2 (.asg (.t 4))])
 .ret))
 modes:=[.lend]
 rets:=[⟨2,none⟩]}

def b76_0:VC:=
 (.seq
 (.seq
 (.region false [0, 1, 5, 15] [
 vo 12 (.mov (.t 5)),
 vo 13 (.mov (.t 0)),
 vo 14 (.len false 63 (.t 13)),
 vo 15 (.bin false .lss 3 (.t 12) (.t 14))])
 (.cond (.t 15)
 .skip
 (.exit 0)))
 (.seq
 (.block 1
 (.seq
 (.region false [0, 1, 5] [
 vo 18 (.mov (.t 0)),
 vo 19 (.mov (.t 5)),
 vo 20 (.ia 63 159 2 (.t 18) (.t 19)),
 vo 21 (.load 159 true 2 (.t 20)),
 vo 22 (.mov (.t 1)),
 vo 23 (.call 122 [(.t 21),(.t 22)]),
 vo 1 (.asg (.t 23))])
 (.seq
 (.region false [0, 1, 5, 25] [
 vo 24 (.mov (.t 1)),
 vo 25 (.bin false .lss 3 (.t 24) (.c (.int .i64 0)))])
 (.cond (.t 25)
 (.seq
 (.region false [4] [
 vo 4 (.asg (.c (.int .i64 (-1))))])
 .ret)
 .skip))))
 (.region false [0, 1, 5] [
 vo 16 (.mov (.t 5)),
 vo 17 (.bin false .add 3 (.t 16) (.c (.int .i64 1))),
 vo 5 (.asg (.t 17))])))
def l76_0:VC:=.loop b76_0
/-- loop.example/g00539/laws.szWeightS -/
def v76 : VFun := {
 code:=
 (.seq
 (.region false [0, 1] [
 vo 4 (.asg (.c (.int .i64 0)))])
 (.seq
 (.region false [0, 1] [
 vo 6 (.mov (.t 1)),
 vo 7 (.mov (.t 0)),
 vo 8 (.len false 63 (.t 7)),
 vo 9 (.bin false .sub 3 (.t 6) (.t 8)),
 vo 1 (.asg (.t 9))])
 (.seq
 (.seq
 (.region false [0, 1, 11] [
 vo 10 (.mov (.t 1)),
 vo 11 (.bin false .lss 3 (.t 10) (.c (.int .i64 0)))])
 (.cond (.t 11)
 (.seq
 (.region false [4] [
 vo 4 (.asg (.c (.int .i64 (-1))))])
 .ret)
 .skip))
 (.seq
 (.seq
 (.region false [0, 1, 5] [
 vo 5 (.asg (.c (.int .i64 0)))])
 (.block 0
 l76_0))
 (.seq
 (.region false [4] [
 vo 26 (.mov (.t 1)),
 vo 4 (.asg (.t 26))])
 .ret)))))
 modes:=[.lend,.lend]
 rets:=[⟨4,none⟩]}

def b77_0:VC:=
 (.seq
 (.seq
 (.region false [0, 1, 5, 15] [
 vo 12 (.mov (.t 5)),
 vo 13 (.mov (.t 0)),
 vo 14 (.len false 64 (.t 13)),
 vo 15 (.bin false .lss 3 (.t 12) (.t 14))])
 (.cond (.t 15)
 .skip
 (.exit 0)))
 (.seq
 (.block 1
 (.seq
 (.region false [0, 1, 5] [
 vo 18 (.mov (.t 0)),
 vo 19 (.mov (.t 5)),
 vo 20 (.ia 64 162 5 (.t 18) (.t 19)),
 vo 21 (.load 162 true 5 (.t 20)),
 vo 22 (.mov (.t 1)),
 vo 23 (.call 123 [(.t 21),(.t 22)]),
 vo 1 (.asg (.t 23))])
 (.seq
 (.region false [0, 1, 5, 25] [
 vo 24 (.mov (.t 1)),
 vo 25 (.bin false .lss 3 (.t 24) (.c (.int .i64 0)))])
 (.cond (.t 25)
 (.seq
 (.region false [4] [
 vo 4 (.asg (.c (.int .i64 (-1))))])
 .ret)
 .skip))))
 (.region false [0, 1, 5] [
 vo 16 (.mov (.t 5)),
 vo 17 (.bin false .add 3 (.t 16) (.c (.int .i64 1))),
 vo 5 (.asg (.t 17))])))
def l77_0:VC:=.loop b77_0
/-- loop.example/g00539/laws.szRewardS -/
def v77 : VFun := {
 code:=
 (.seq
 (.region false [0, 1] [
 vo 4 (.asg (.c (.int .i64 0)))])
 (.seq
 (.region false [0, 1] [
 vo 6 (.mov (.t 1)),
 vo 7 (.mov (.t 0)),
 vo 8 (.len false 64 (.t 7)),
 vo 9 (.bin false .sub 3 (.t 6) (.t 8)),
 vo 1 (.asg (.t 9))])
 (.seq
 (.seq
 (.region false [0, 1, 11] [
 vo 10 (.mov (.t 1)),
 vo 11 (.bin false .lss 3 (.t 10) (.c (.int .i64 0)))])
 (.cond (.t 11)
 (.seq
 (.region false [4] [
 vo 4 (.asg (.c (.int .i64 (-1))))])
 .ret)
 .skip))
 (.seq
 (.seq
 (.region false [0, 1, 5] [
 vo 5 (.asg (.c (.int .i64 0)))])
 (.block 0
 l77_0))
 (.seq
 (.region false [4] [
 vo 26 (.mov (.t 1)),
 vo 4 (.asg (.t 26))])
 .ret)))))
 modes:=[.lend,.lend]
 rets:=[⟨4,none⟩]}

/-- loop.example/g00539/spec.l14Ripen -/
def v78 : VFun := {
 code:=
 (.seq
 (.region false [1, 2, 4] [
 vo 2 (.box 27 (.t 0)),
 vo 4 (.alloc 31 [(.val (.int .i64 0)),(.val (.int .i64 0)),(.val (.int .i64 0)),(.val (.int .i64 0)),(.nl 2),(.nl 5),(.nl 2),(.val (.int .i64 0)),(.val (.int .i64 0)),(.val (.int .i64 0))])])
 (.seq
 (.region false [2, 4, 5] [
 vo 10 (.fa 27 3 3 1 (.t 2)),
 vo 11 (.load 25 false 1 (.t 10)),
 vo 12 (.mov (.t 1)),
 vo 13 (.call 124 [(.t 11),(.t 12)]),
 vo 5 (.asg (.t 13))])
 (.seq
 (.seq
 (.region false [2, 4, 5, 15] [
 vo 14 (.mov (.t 5)),
 vo 15 (.bin false .lss 3 (.t 14) (.c (.int .i64 0)))])
 (.cond (.t 15)
 (.seq
 (.region false [4] [
 vo 16 (.call 52 [(.c (.int .i64 4))]),
 vn (.store 31 10 (.t 4) (.t 16))])
 .ret)
 .skip))
 (.seq
 (.region false [2, 4, 5, 6] [
 vo 17 (.fa 27 3 3 1 (.t 2)),
 vo 18 (.load 25 false 1 (.t 17)),
 vo 19 (.mov (.t 5)),
 vo 20 (.ia 25 96 5 (.t 18) (.t 19)),
 vo 6 (.asg (.t 20))])
 (.seq
 (.seq
 (.region false [2, 4, 5, 6, 25] [
 vo 21 (.mov (.t 6)),
 vo 22 (.nilc (.t 21)),
 vo 23 (.fa 96 4 4 1 (.t 22)),
 vo 24 (.load 2 false 1 (.t 23)),
 vo 25 (.bin false .neq 2 (.t 24) (.c (.int .i64 1)))])
 (.cond (.t 25)
 (.seq
 (.region false [4] [
 vo 26 (.call 52 [(.c (.int .i64 9))]),
 vn (.store 31 10 (.t 4) (.t 26))])
 .ret)
 .skip))
 (.seq
 (.region true [2, 4, 5, 6, 7, 8, 34] [
 vo 28 (.fa 27 4 4 1 (.t 2)),
 vo 29 (.load 24 false 1 (.t 28)),
 ⟨some 30,.mov (.t 6),none,[0,1]⟩,
 ⟨some 31,.nilc (.t 30),none,[0,1]⟩,
 ⟨some 32,.fa 96 3 3 1 (.t 31),none,[0,1]⟩,
 ⟨some 33,.load 24 false 1 (.t 32),none,[0,1]⟩,
 vo 34 (.call 125 [(.t 29),(.t 33)]),
 vo 27 (.mov (.t 34)),
 vo 35 (.ext (.t 27) 0),
 ⟨some 36,.ext (.t 27) 1,none,[8]⟩,
 ⟨some 7,.asg (.t 35),none,[9]⟩,
 vo 8 (.asg (.t 36))])
 (.seq
 (.seq
 (.region false [2, 4, 5, 6, 7, 8, 34, 38] [
 vo 37 (.mov (.t 8)),
 vo 38 (.bin false .neq 2 (.t 37) (.c (.int .i64 0)))])
 (.cond (.t 38)
 (.seq
 (.region false [4] [
 vo 39 (.mov (.t 8)),
 vo 40 (.call 52 [(.t 39)]),
 vn (.store 31 10 (.t 4) (.t 40))])
 .ret)
 .skip))
 (.seq
 (.seq
 (.region true [2, 4, 5, 6, 7, 34, 49] [
 vo 41 (.fa 27 6 6 1 (.t 2)),
 vo 42 (.load 2 false 1 (.t 41)),
 ⟨some 43,.mov (.t 6),none,[0,1]⟩,
 ⟨some 44,.nilc (.t 43),none,[0,1]⟩,
 ⟨some 45,.fa 96 2 2 1 (.t 44),none,[0,1]⟩,
 ⟨some 46,.load 2 false 1 (.t 45),none,[0,1]⟩,
 vo 47 (.bin false .add 2 (.t 42) (.t 46)),
 vo 48 (.call 101 [(.t 47)]),
 vo 49 (.un .not (.t 48))])
 (.cond (.t 49)
 (.seq
 (.region false [4] [
 vo 50 (.call 52 [(.c (.int .i64 7))]),
 vn (.store 31 10 (.t 4) (.t 50))])
 .ret)
 .skip))
 (.seq
 (.region false [2, 4, 5, 6, 7, 9, 34] [
 vo 51 (.load 27 true 8 (.t 2)),
 vo 52 (.call 103 [(.t 51)]),
 vo 9 (.alloc 27 [(.val (.int .i64 0)),(.val (.int .i64 0)),(.nl 2),(.nl 5),(.nl 2),(.val (.int .i64 0)),(.val (.int .i64 0)),(.val (.int .i64 0))]),
 vn (.store 27 8 (.t 9) (.t 52))])
 (.seq
 (.region false [2, 4, 6, 7, 9, 34] [
 vo 53 (.fa 27 3 3 1 (.t 9)),
 vo 54 (.load 25 false 1 (.t 53)),
 vo 55 (.mov (.t 5)),
 vo 56 (.ia 25 96 5 (.t 54) (.t 55)),
 vo 57 (.fa 96 4 4 1 (.t 56)),
 vn (.store 2 1 (.t 57) (.c (.int .i64 2)))])
 (.seq
 (.region true [4, 7, 9, 34] [
 vo 58 (.fa 27 6 6 1 (.t 2)),
 vo 59 (.load 2 false 1 (.t 58)),
 ⟨some 60,.mov (.t 6),none,[0,1]⟩,
 ⟨some 61,.nilc (.t 60),none,[0,1]⟩,
 ⟨some 62,.fa 96 2 2 1 (.t 61),none,[0,1]⟩,
 ⟨some 63,.load 2 false 1 (.t 62),none,[0,1]⟩,
 vo 64 (.bin false .add 2 (.t 59) (.t 63)),
 vo 65 (.fa 27 6 6 1 (.t 9)),
 vn (.store 2 1 (.t 65) (.t 64))])
 (.seq
 (.region false [4, 9] [
 vo 66 (.mov (.t 7)),
 vo 67 (.fa 27 4 4 1 (.t 9)),
 vn (.store 24 1 (.t 67) (.t 66))])
 (.seq
 (.region false [4] [
 vo 68 (.load 27 true 8 (.t 9)),
 vo 69 (.build 31 [(.val (.int .i64 0)),(.val (.int .i64 0)),(.val (.int .i64 0)),(.val (.int .i64 0)),(.nl 2),(.nl 5),(.nl 2),(.val (.int .i64 0)),(.val (.int .i64 0)),(.val (.int .i64 0))] [(2,2,8,(.t 68))]),
 vn (.store 31 10 (.t 4) (.t 69))])
 .ret)))))))))))))
 modes:=[.lend,.lend]
 rets:=[⟨4,some (true,10)⟩]}

def b79_0:VC:=
 (.seq
 (.seq
 (.region false [0, 3, 4, 7, 11] [
 vo 8 (.mov (.t 4)),
 vo 9 (.mov (.t 0)),
 vo 10 (.len false 63 (.t 9)),
 vo 11 (.bin false .lss 3 (.t 8) (.t 10))])
 (.cond (.t 11)
 .skip
 (.exit 0)))
 (.seq
 (.block 1
 (.region false [0, 3, 4, 7] [
 vo 14 (.mov (.t 3)),
 vo 15 (.mov (.t 4)),
 vo 16 (.mov (.t 0)),
 vo 17 (.mov (.t 4)),
 vo 18 (.ia 63 159 2 (.t 16) (.t 17)),
 vo 19 (.load 159 true 2 (.t 18)),
 vo 20 (.call 126 [(.t 19)]),
 vo 21 (.ia 24 34 2 (.t 14) (.t 15)),
 vn (.store 34 2 (.t 21) (.t 20))]))
 (.region false [0, 3, 4, 7] [
 vo 12 (.mov (.t 4)),
 vo 13 (.bin false .add 3 (.t 12) (.c (.int .i64 1))),
 vo 4 (.asg (.t 13))])))
def l79_0:VC:=.loop b79_0
/-- loop.example/g00539/laws.toWeightS -/
def v79 : VFun := {
 code:=
 (.seq
 (.region false [0] [
 vo 2 (.asg (.n 2))])
 (.seq
 (.region false [0, 3, 7] [
 vo 5 (.mov (.t 0)),
 vo 6 (.len false 63 (.t 5)),
 vo 7 (.mk 24 34 2 24 [(.val (.string (⟨#[]⟩:ByteArray))),(.val (.int .i64 0))] (.t 6) (.t 6)),
 vo 3 (.asg (.t 7))])
 (.seq
 (.seq
 (.region false [0, 3, 4, 7] [
 vo 4 (.asg (.c (.int .i64 0)))])
 (.block 0
 l79_0))
 (.seq
 (.region false [2, 3, 7] [
 vo 22 (.mov (.t 3)),
 vo 2 (.asg (.t 22))])
 .ret))))
 modes:=[.lend]
 rets:=[⟨2,none⟩]}

def b80_0:VC:=
 (.seq
 (.seq
 (.region false [0, 3, 4, 7, 11] [
 vo 8 (.mov (.t 4)),
 vo 9 (.mov (.t 0)),
 vo 10 (.len false 64 (.t 9)),
 vo 11 (.bin false .lss 3 (.t 8) (.t 10))])
 (.cond (.t 11)
 .skip
 (.exit 0)))
 (.seq
 (.block 1
 (.region false [0, 3, 4, 7] [
 vo 14 (.mov (.t 3)),
 vo 15 (.mov (.t 4)),
 vo 16 (.mov (.t 0)),
 vo 17 (.mov (.t 4)),
 vo 18 (.ia 64 162 5 (.t 16) (.t 17)),
 vo 19 (.load 162 true 5 (.t 18)),
 vo 20 (.call 127 [(.t 19)]),
 vo 21 (.ia 25 96 5 (.t 14) (.t 15)),
 vn (.store 96 5 (.t 21) (.t 20))]))
 (.region false [0, 3, 4, 7] [
 vo 12 (.mov (.t 4)),
 vo 13 (.bin false .add 3 (.t 12) (.c (.int .i64 1))),
 vo 4 (.asg (.t 13))])))
def l80_0:VC:=.loop b80_0
/-- loop.example/g00539/laws.toRewardS -/
def v80 : VFun := {
 code:=
 (.seq
 (.region false [0] [
 vo 2 (.asg (.n 5))])
 (.seq
 (.region false [0, 3, 7] [
 vo 5 (.mov (.t 0)),
 vo 6 (.len false 64 (.t 5)),
 vo 7 (.mk 25 96 5 56 [(.val (.int .i64 0)),(.val (.int .i64 0)),(.val (.int .i64 0)),(.nl 2),(.val (.int .i64 0))] (.t 6) (.t 6)),
 vo 3 (.asg (.t 7))])
 (.seq
 (.seq
 (.region false [0, 3, 4, 7] [
 vo 4 (.asg (.c (.int .i64 0)))])
 (.block 0
 l80_0))
 (.seq
 (.region false [2, 3, 7] [
 vo 22 (.mov (.t 3)),
 vo 2 (.asg (.t 22))])
 .ret))))
 modes:=[.lend]
 rets:=[⟨2,none⟩]}

/-- loop.example/g00539/impl.RipenReward$1 -/
def v81 : VFun := {
 code:=
 (.seq
 (.region false [0, 1] [
 vo 3 (.asg (.c (.int .i64 0)))])
 (.seq
 (.region true [0, 4] [
 vo 5 (.mov (.t 0)),
 vo 6 (.nilc (.t 5)),
 vo 7 (.fa 27 3 3 1 (.t 6)),
 vo 8 (.load 25 false 1 (.t 7)),
 ⟨some 9,.load 2 false 1 (.t 1),none,[0,1,2,3]⟩,
 vo 10 (.call 82 [(.t 8),(.t 9)]),
 vo 4 (.asg (.t 10))])
 (.seq
 (.block 0
 (.seq
 (.region false [0, 4, 11] [
 vo 12 (.mov (.t 4)),
 vo 13 (.bin false .lss 3 (.t 12) (.c (.int .i64 0))),
 vo 11 (.asg (.t 13))])
 (.cond (.t 11)
 (.seq
 (.region false [0, 3] [
 vo 3 (.asg (.c (.int .i64 4)))])
 .ret)
 (.seq
 (.region false [0, 4, 14] [
 vo 15 (.mov (.t 0)),
 vo 16 (.nilc (.t 15)),
 vo 17 (.fa 27 3 3 1 (.t 16)),
 vo 18 (.load 25 false 1 (.t 17)),
 vo 19 (.mov (.t 4)),
 vo 20 (.ia 25 96 5 (.t 18) (.t 19)),
 vo 21 (.fa 96 4 4 1 (.t 20)),
 vo 22 (.load 2 false 1 (.t 21)),
 vo 23 (.bin false .neq 2 (.t 22) (.c (.int .i64 1))),
 vo 14 (.asg (.t 23))])
 (.cond (.t 14)
 (.seq
 (.region false [0, 3] [
 vo 3 (.asg (.c (.int .i64 9)))])
 .ret)
 .skip)))))
 (.seq
 (.region false [0, 3] [
 vo 24 (.mov (.t 0)),
 vo 25 (.mov (.t 0)),
 vo 26 (.nilc (.t 25)),
 vo 27 (.fa 27 3 3 1 (.t 26)),
 vo 28 (.load 25 false 1 (.t 27)),
 vo 29 (.mov (.t 4)),
 vo 30 (.ia 25 96 5 (.t 28) (.t 29)),
 vo 31 (.call 83 [(.t 24),(.t 30)]),
 vo 3 (.asg (.t 31))])
 .ret))))
 modes:=[.io,.lend]
 rets:=[⟨3,none⟩]}

/-- loop.example/g00539/impl.rewardAt -/
def v82 : VFun := {
 code:=
 (.seq
 (.region false [0, 3] [
 vo 3 (.box 2 (.t 1)),
 vo 4 (.asg (.c (.int .i64 0)))])
 (.seq
 (.region false [4] [
 vo 5 (.mov (.t 0)),
 vo 6 (.fn 129 [] [(.t 3)]),
 vo 7 (.call 128 [(.t 5),(.t 6)]),
 vo 4 (.asg (.t 7))])
 .ret))
 modes:=[.lend,.lend]
 rets:=[⟨4,none⟩]}

def b83_0:VC:=
 (.seq
 (.region false [0, 1, 5, 13, 17, 18, 19, 20, 42] [
 vo 20 (.bin false .lss 3 (.t 19) (.t 18))])
 (.seq
 (.cond (.t 20)
 .skip
 (.exit 0))
 (.seq
 (.block 1
 (.seq
 (.region false [0, 1, 5, 7, 13, 17, 18, 19, 42] [
 vo 21 (.ia 24 34 2 (.t 17) (.t 19)),
 vo 22 (.load 34 true 2 (.t 21)),
 vo 7 (.alloc 34 [(.val (.string (⟨#[]⟩:ByteArray))),(.val (.int .i64 0))]),
 vn (.store 34 2 (.t 7) (.t 22))])
 (.seq
 (.region false [0, 1, 5, 7, 8, 13, 17, 18, 19, 42] [
 vo 23 (.mov (.t 5)),
 vo 24 (.fa 34 0 0 1 (.t 7)),
 vo 25 (.load 9 false 1 (.t 24)),
 vo 26 (.call 47 [(.t 23),(.t 25)]),
 vo 8 (.asg (.t 26))])
 (.seq
 (.region false [0, 1, 5, 7, 8, 13, 17, 18, 19, 28, 42] [
 vo 27 (.mov (.t 8)),
 vo 28 (.bin false .geq 3 (.t 27) (.c (.int .i64 0)))])
 (.cond (.t 28)
 (.region true [0, 1, 5, 13, 17, 18, 19, 42] [
 vo 29 (.mov (.t 5)),
 ⟨some 30,.mov (.t 8),none,[0]⟩,
 vo 31 (.ia 24 34 2 (.t 29) (.t 30)),
 vo 32 (.fa 34 1 1 1 (.t 31)),
 vo 33 (.load 2 false 1 (.t 32)),
 ⟨some 34,.fa 34 1 1 1 (.t 7),none,[0,1,2,3,4]⟩,
 ⟨some 35,.load 2 false 1 (.t 34),none,[0,1,2,3,4]⟩,
 vo 36 (.bin false .add 2 (.t 33) (.t 35)),
 vo 37 (.ia 24 34 2 (.t 29) (.t 30)),
 vo 38 (.fa 34 1 1 1 (.t 37)),
 vn (.store 2 1 (.t 38) (.t 36))])
 (.region false [0, 1, 5, 13, 17, 18, 19, 42] [
 vo 39 (.mov (.t 5)),
 vo 40 (.load 34 true 2 (.t 7)),
 vo 41 (.lit 24 34 2 1 [(.val (.string (⟨#[]⟩:ByteArray))),(.val (.int .i64 0))] [(0,(.t 40))]),
 vo 42 (.app 24 34 2 24 (.t 39) (.t 41)),
 vo 5 (.asg (.t 42))]))))))
 (.region false [0, 1, 5, 13, 17, 18, 19, 42] [
 vo 43 (.bin false .add 3 (.t 19) (.c (.int .i64 1))),
 vo 19 (.mov (.t 43))]))))
def l83_0:VC:=.loop b83_0
/-- (*loop.example/g00539/impl.Ledger).ripen -/
def v83 : VFun := {
 code:=
 (.seq
 (.region false [0, 1] [
 vo 4 (.asg (.c (.int .i64 0)))])
 (.seq
 (.region false [0, 1, 5, 13, 42] [
 vo 9 (.mov (.t 0)),
 vo 10 (.nilc (.t 9)),
 vo 11 (.fa 27 4 4 1 (.t 10)),
 vo 12 (.load 24 false 1 (.t 11)),
 vo 13 (.call 94 [(.t 12)]),
 vo 5 (.asg (.t 13))])
 (.seq
 (.seq
 (.region false [0, 1, 5, 13, 17, 18, 19, 42] [
 vo 14 (.mov (.t 1)),
 vo 15 (.nilc (.t 14)),
 vo 16 (.fa 96 3 3 1 (.t 15)),
 vo 17 (.load 24 false 1 (.t 16)),
 vo 18 (.len false 24 (.t 17)),
 vo 19 (.mov (.c (.int .i64 0)))])
 (.block 0
 l83_0))
 (.seq
 (.block 2
 (.seq
 (.region false [0, 1, 5, 13, 42, 44] [
 vo 45 (.mov (.t 5)),
 vo 46 (.len false 24 (.t 45)),
 vo 47 (.bin false .gtr 3 (.t 46) (.c (.int .i64 8))),
 vo 44 (.asg (.t 47))])
 (.cond (.t 44)
 (.seq
 (.region false [0, 1, 4] [
 vo 4 (.asg (.c (.int .i64 10)))])
 .ret)
 (.seq
 (.region true [0, 1, 5, 13, 42, 48] [
 vo 49 (.mov (.t 0)),
 vo 50 (.nilc (.t 49)),
 vo 51 (.fa 27 6 6 1 (.t 50)),
 vo 52 (.load 2 false 1 (.t 51)),
 ⟨some 53,.mov (.t 1),none,[0,1,2,3]⟩,
 ⟨some 54,.nilc (.t 53),none,[0,1,2,3]⟩,
 ⟨some 55,.fa 96 2 2 1 (.t 54),none,[0,1,2,3]⟩,
 ⟨some 56,.load 2 false 1 (.t 55),none,[0,1,2,3]⟩,
 vo 57 (.bin false .add 2 (.t 52) (.t 56)),
 vo 58 (.call 46 [(.t 57)]),
 vo 59 (.un .not (.t 58)),
 vo 60 (.mov (.t 59)),
 ⟨some 61,.mov (.t 5),some (60,false),[]⟩,
 ⟨some 62,.call 57 [(.t 61),(.c (.int .i64 8))],some (60,false),[]⟩,
 ⟨some 63,.un .not (.t 62),some (60,false),[]⟩,
 vo 64 (.pick (.t 60) (.c (.bool true)) (.t 63)),
 vo 48 (.asg (.t 64))])
 (.cond (.t 48)
 (.seq
 (.region false [0, 1, 4] [
 vo 4 (.asg (.c (.int .i64 7)))])
 .ret)
 .skip)))))
 (.seq
 (.region true [0, 1] [
 vo 65 (.mov (.t 0)),
 ⟨some 66,.mov (.t 0),none,[0]⟩,
 ⟨some 67,.mov (.t 1),none,[0,1]⟩,
 ⟨some 68,.mov (.t 5),none,[0,1,2]⟩,
 ⟨some 69,.mov (.t 0),none,[0,1,2,3]⟩,
 ⟨some 70,.nilc (.t 69),none,[0,1,2,3]⟩,
 ⟨some 71,.fa 27 6 6 1 (.t 70),none,[0,1,2,3]⟩,
 ⟨some 72,.load 2 false 1 (.t 71),none,[0,1,2,3]⟩,
 ⟨some 73,.mov (.t 1),none,[0,1,2,3,4,5,6,7]⟩,
 ⟨some 74,.nilc (.t 73),none,[0,1,2,3,4,5,6,7]⟩,
 ⟨some 75,.fa 96 2 2 1 (.t 74),none,[0,1,2,3,4,5,6,7]⟩,
 ⟨some 76,.load 2 false 1 (.t 75),none,[0,1,2,3,4,5,6,7]⟩,
 ⟨some 77,.bin false .add 2 (.t 72) (.t 76),none,[0,1,2,3]⟩,
 ⟨some 78,.nilc (.t 65),none,[1,2,12]⟩,
 ⟨some 79,.fa 27 4 4 1 (.t 78),none,[1,2,12]⟩,
 ⟨none,.store 24 1 (.t 79) (.t 68),none,[1,2,12]⟩,
 ⟨some 80,.nilc (.t 66),none,[2]⟩,
 ⟨some 81,.fa 27 6 6 1 (.t 80),none,[2]⟩,
 ⟨none,.store 2 1 (.t 81) (.t 77),none,[2]⟩,
 vo 82 (.nilc (.t 67)),
 vo 83 (.fa 96 4 4 1 (.t 82)),
 vn (.store 2 1 (.t 83) (.c (.int .i64 2)))])
 (.seq
 (.region false [0, 1, 4] [
 vo 4 (.asg (.c (.int .i64 0)))])
 .ret))))))
 modes:=[.io,.al]
 rets:=[⟨4,none⟩]}

def b84_0:VC:=
 (.seq
 (.seq
 (.region false [0, 1, 5, 14] [
 vo 11 (.mov (.t 5)),
 vo 12 (.mov (.t 0)),
 vo 13 (.len false 24 (.t 12)),
 vo 14 (.bin false .lss 3 (.t 11) (.t 13))])
 (.cond (.t 14)
 .skip
 (.exit 0)))
 (.seq
 (.block 1
 (.seq
 (.region true [0, 1, 5, 26] [
 vo 17 (.mov (.t 0)),
 ⟨some 18,.mov (.t 5),none,[0]⟩,
 vo 19 (.ia 24 34 2 (.t 17) (.t 18)),
 vo 20 (.load 34 true 2 (.t 19)),
 ⟨some 21,.mov (.t 1),none,[0,1,2,3]⟩,
 ⟨some 22,.mov (.t 5),none,[0,1,2,3,4]⟩,
 ⟨some 23,.ia 24 34 2 (.t 21) (.t 22),none,[0,1,2,3]⟩,
 ⟨some 24,.load 34 true 2 (.t 23),none,[0,1,2,3]⟩,
 vo 25 (.call 130 [(.t 20),(.t 24)]),
 vo 26 (.un .not (.t 25))])
 (.cond (.t 26)
 (.seq
 (.region false [4] [
 vo 4 (.asg (.c (.bool false)))])
 .ret)
 .skip)))
 (.region false [0, 1, 5] [
 vo 15 (.mov (.t 5)),
 vo 16 (.bin false .add 3 (.t 15) (.c (.int .i64 1))),
 vo 5 (.asg (.t 16))])))
def l84_0:VC:=.loop b84_0
/-- loop.example/g00539/laws.eqWeightS -/
def v84 : VFun := {
 code:=
 (.seq
 (.region false [0, 1] [
 vo 4 (.asg (.c (.bool false)))])
 (.seq
 (.seq
 (.region false [0, 1, 10] [
 vo 6 (.mov (.t 0)),
 vo 7 (.len false 24 (.t 6)),
 vo 8 (.mov (.t 1)),
 vo 9 (.len false 24 (.t 8)),
 vo 10 (.bin false .neq 3 (.t 7) (.t 9))])
 (.cond (.t 10)
 (.seq
 (.region false [4] [
 vo 4 (.asg (.c (.bool false)))])
 .ret)
 .skip))
 (.seq
 (.seq
 (.region false [0, 1, 5] [
 vo 5 (.asg (.c (.int .i64 0)))])
 (.block 0
 l84_0))
 (.seq
 (.region false [4] [
 vo 4 (.asg (.c (.bool true)))])
 .ret))))
 modes:=[.lend,.lend]
 rets:=[⟨4,none⟩]}

def b85_0:VC:=
 (.seq
 (.seq
 (.region false [0, 1, 5, 14] [
 vo 11 (.mov (.t 5)),
 vo 12 (.mov (.t 0)),
 vo 13 (.len false 25 (.t 12)),
 vo 14 (.bin false .lss 3 (.t 11) (.t 13))])
 (.cond (.t 14)
 .skip
 (.exit 0)))
 (.seq
 (.block 1
 (.seq
 (.region true [0, 1, 5, 26] [
 vo 17 (.mov (.t 0)),
 ⟨some 18,.mov (.t 5),none,[0]⟩,
 vo 19 (.ia 25 96 5 (.t 17) (.t 18)),
 vo 20 (.load 96 true 5 (.t 19)),
 ⟨some 21,.mov (.t 1),none,[0,1,2,3]⟩,
 ⟨some 22,.mov (.t 5),none,[0,1,2,3,4]⟩,
 ⟨some 23,.ia 25 96 5 (.t 21) (.t 22),none,[0,1,2,3]⟩,
 ⟨some 24,.load 96 true 5 (.t 23),none,[0,1,2,3]⟩,
 vo 25 (.call 131 [(.t 20),(.t 24)]),
 vo 26 (.un .not (.t 25))])
 (.cond (.t 26)
 (.seq
 (.region false [4] [
 vo 4 (.asg (.c (.bool false)))])
 .ret)
 .skip)))
 (.region false [0, 1, 5] [
 vo 15 (.mov (.t 5)),
 vo 16 (.bin false .add 3 (.t 15) (.c (.int .i64 1))),
 vo 5 (.asg (.t 16))])))
def l85_0:VC:=.loop b85_0
/-- loop.example/g00539/laws.eqRewardS -/
def v85 : VFun := {
 code:=
 (.seq
 (.region false [0, 1] [
 vo 4 (.asg (.c (.bool false)))])
 (.seq
 (.seq
 (.region false [0, 1, 10] [
 vo 6 (.mov (.t 0)),
 vo 7 (.len false 25 (.t 6)),
 vo 8 (.mov (.t 1)),
 vo 9 (.len false 25 (.t 8)),
 vo 10 (.bin false .neq 3 (.t 7) (.t 9))])
 (.cond (.t 10)
 (.seq
 (.region false [4] [
 vo 4 (.asg (.c (.bool false)))])
 .ret)
 .skip))
 (.seq
 (.seq
 (.region false [0, 1, 5] [
 vo 5 (.asg (.c (.int .i64 0)))])
 (.block 0
 l85_0))
 (.seq
 (.region false [4] [
 vo 4 (.asg (.c (.bool true)))])
 .ret))))
 modes:=[.lend,.lend]
 rets:=[⟨4,none⟩]}

def b86_0:VC:=
 (.seq
 (.seq
 (.region false [0, 1, 5, 9] [
 vo 6 (.mov (.t 5)),
 vo 7 (.mov (.t 0)),
 vo 8 (.len false 24 (.t 7)),
 vo 9 (.bin false .lss 3 (.t 6) (.t 8))])
 (.cond (.t 9)
 .skip
 (.exit 0)))
 (.seq
 (.block 1
 (.seq
 (.region false [0, 1, 5] [
 vo 12 (.mov (.t 0)),
 vo 13 (.mov (.t 5)),
 vo 14 (.mov (.t 1)),
 vo 15 (.call 132 [(.t 14)]),
 vo 16 (.ia 24 34 2 (.t 12) (.t 13)),
 vo 17 (.fa 34 0 0 1 (.t 16)),
 vn (.store 9 1 (.t 17) (.t 15))])
 (.seq
 (.region false [0, 1, 5] [
 vo 18 (.mov (.t 1)),
 vo 19 (.bin false .add 3 (.t 18) (.c (.int .i64 1))),
 vo 1 (.asg (.t 19))])
 (.seq
 (.region false [0, 1, 5] [
 vo 20 (.mov (.t 0)),
 vo 21 (.mov (.t 5)),
 vo 22 (.mov (.t 1)),
 vo 23 (.ia 24 34 2 (.t 20) (.t 21)),
 vo 24 (.fa 34 1 1 1 (.t 23)),
 vn (.store 2 1 (.t 24) (.t 22))])
 (.region false [0, 1, 5] [
 vo 25 (.mov (.t 1)),
 vo 26 (.bin false .add 3 (.t 25) (.c (.int .i64 1))),
 vo 1 (.asg (.t 26))])))))
 (.region false [0, 1, 5] [
 vo 10 (.mov (.t 5)),
 vo 11 (.bin false .add 3 (.t 10) (.c (.int .i64 1))),
 vo 5 (.asg (.t 11))])))
def l86_0:VC:=.loop b86_0
/-- loop.example/g00539/laws.markWeightS -/
def v86 : VFun := {
 code:=
 (.seq
 (.region false [0, 1] [
 vo 4 (.asg (.c (.int .i64 0)))])
 (.seq
 (.seq
 (.region false [0, 1, 5] [
 vo 5 (.asg (.c (.int .i64 0)))])
 (.block 0
 l86_0))
 (.seq
 (.region false [0, 4] [
 vo 27 (.mov (.t 1)),
 vo 4 (.asg (.t 27))])
 .ret)))
 modes:=[.io,.lend]
 rets:=[⟨4,none⟩]}

def b87_0:VC:=
 (.seq
 (.seq
 (.region false [0, 1, 5, 9] [
 vo 6 (.mov (.t 5)),
 vo 7 (.mov (.t 0)),
 vo 8 (.len false 25 (.t 7)),
 vo 9 (.bin false .lss 3 (.t 6) (.t 8))])
 (.cond (.t 9)
 .skip
 (.exit 0)))
 (.seq
 (.block 1
 (.seq
 (.region false [0, 1, 5] [
 vo 12 (.mov (.t 0)),
 vo 13 (.mov (.t 5)),
 vo 14 (.mov (.t 1)),
 vo 15 (.ia 25 96 5 (.t 12) (.t 13)),
 vo 16 (.fa 96 0 0 1 (.t 15)),
 vn (.store 2 1 (.t 16) (.t 14))])
 (.seq
 (.region false [0, 1, 5] [
 vo 17 (.mov (.t 1)),
 vo 18 (.bin false .add 3 (.t 17) (.c (.int .i64 1))),
 vo 1 (.asg (.t 18))])
 (.seq
 (.region false [0, 1, 5] [
 vo 19 (.mov (.t 0)),
 vo 20 (.mov (.t 5)),
 vo 21 (.mov (.t 1)),
 vo 22 (.ia 25 96 5 (.t 19) (.t 20)),
 vo 23 (.fa 96 1 1 1 (.t 22)),
 vn (.store 2 1 (.t 23) (.t 21))])
 (.seq
 (.region false [0, 1, 5] [
 vo 24 (.mov (.t 1)),
 vo 25 (.bin false .add 3 (.t 24) (.c (.int .i64 1))),
 vo 1 (.asg (.t 25))])
 (.seq
 (.region false [0, 1, 5] [
 vo 26 (.mov (.t 0)),
 vo 27 (.mov (.t 5)),
 vo 28 (.mov (.t 1)),
 vo 29 (.ia 25 96 5 (.t 26) (.t 27)),
 vo 30 (.fa 96 2 2 1 (.t 29)),
 vn (.store 2 1 (.t 30) (.t 28))])
 (.seq
 (.region false [0, 1, 5] [
 vo 31 (.mov (.t 1)),
 vo 32 (.bin false .add 3 (.t 31) (.c (.int .i64 1))),
 vo 1 (.asg (.t 32))])
 (.seq
 (.region false [0, 1, 5] [
 vo 33 (.mov (.t 0)),
 vo 34 (.mov (.t 5)),
 vo 35 (.ia 25 96 5 (.t 33) (.t 34)),
 vo 36 (.fa 96 3 3 1 (.t 35)),
 vo 37 (.load 24 false 1 (.t 36)),
 vo 38 (.mov (.t 1)),
 vo 39 (.call 86 [(.t 37),(.t 38)]),
 vo 1 (.asg (.t 39))])
 (.seq
 (.region false [0, 1, 5] [
 vo 40 (.mov (.t 0)),
 vo 41 (.mov (.t 5)),
 vo 42 (.mov (.t 1)),
 vo 43 (.ia 25 96 5 (.t 40) (.t 41)),
 vo 44 (.fa 96 4 4 1 (.t 43)),
 vn (.store 2 1 (.t 44) (.t 42))])
 (.region false [0, 1, 5] [
 vo 45 (.mov (.t 1)),
 vo 46 (.bin false .add 3 (.t 45) (.c (.int .i64 1))),
 vo 1 (.asg (.t 46))]))))))))))
 (.region false [0, 1, 5] [
 vo 10 (.mov (.t 5)),
 vo 11 (.bin false .add 3 (.t 10) (.c (.int .i64 1))),
 vo 5 (.asg (.t 11))])))
def l87_0:VC:=.loop b87_0
/-- loop.example/g00539/laws.markRewardS -/
def v87 : VFun := {
 code:=
 (.seq
 (.region false [0, 1] [
 vo 4 (.asg (.c (.int .i64 0)))])
 (.seq
 (.seq
 (.region false [0, 1, 5] [
 vo 5 (.asg (.c (.int .i64 0)))])
 (.block 0
 l87_0))
 (.seq
 (.region false [0, 4] [
 vo 47 (.mov (.t 1)),
 vo 4 (.asg (.t 47))])
 .ret)))
 modes:=[.io,.lend]
 rets:=[⟨4,none⟩]}

/-- loop.example/g00539/laws.heldLedger -/
def v88 : VFun := {
 code:=
 (.seq
 (.region false [1, 2] [
 vo 2 (.box 27 (.t 0)),
 vo 4 (.asg (.c (.int .i64 0)))])
 (.seq
 (.region false [1, 2] [
 vo 5 (.fa 27 2 2 1 (.t 2)),
 vo 6 (.load 24 false 1 (.t 5)),
 vo 7 (.mov (.t 1)),
 vo 8 (.call 133 [(.t 6),(.t 7)]),
 vo 1 (.asg (.t 8))])
 (.seq
 (.seq
 (.region false [1, 2, 10] [
 vo 9 (.mov (.t 1)),
 vo 10 (.bin false .lss 3 (.t 9) (.c (.int .i64 0)))])
 (.cond (.t 10)
 (.seq
 (.region false [4] [
 vo 4 (.asg (.c (.int .i64 (-1))))])
 .ret)
 .skip))
 (.seq
 (.region false [1, 2] [
 vo 11 (.fa 27 3 3 1 (.t 2)),
 vo 12 (.load 25 false 1 (.t 11)),
 vo 13 (.mov (.t 1)),
 vo 14 (.call 134 [(.t 12),(.t 13)]),
 vo 1 (.asg (.t 14))])
 (.seq
 (.seq
 (.region false [1, 2, 16] [
 vo 15 (.mov (.t 1)),
 vo 16 (.bin false .lss 3 (.t 15) (.c (.int .i64 0)))])
 (.cond (.t 16)
 (.seq
 (.region false [4] [
 vo 4 (.asg (.c (.int .i64 (-1))))])
 .ret)
 .skip))
 (.seq
 (.region false [1] [
 vo 17 (.fa 27 4 4 1 (.t 2)),
 vo 18 (.load 24 false 1 (.t 17)),
 vo 19 (.mov (.t 1)),
 vo 20 (.call 133 [(.t 18),(.t 19)]),
 vo 1 (.asg (.t 20))])
 (.seq
 (.seq
 (.region false [1, 22] [
 vo 21 (.mov (.t 1)),
 vo 22 (.bin false .lss 3 (.t 21) (.c (.int .i64 0)))])
 (.cond (.t 22)
 (.seq
 (.region false [4] [
 vo 4 (.asg (.c (.int .i64 (-1))))])
 .ret)
 .skip))
 (.seq
 (.region false [4] [
 vo 23 (.mov (.t 1)),
 vo 4 (.asg (.t 23))])
 .ret))))))))
 modes:=[.lend,.lend]
 rets:=[⟨4,none⟩]}

def b91_0:VC:=
 (.seq
 (.region false [1, 2, 3, 14, 16, 17, 18, 19, 29] [
 vo 19 (.bin false .lss 3 (.t 18) (.t 17))])
 (.seq
 (.cond (.t 19)
 .skip
 (.exit 0))
 (.seq
 (.block 1
 (.seq
 (.region false [1, 2, 3, 5, 14, 16, 17, 18, 29] [
 vo 20 (.ia 25 96 5 (.t 16) (.t 18)),
 vo 21 (.load 96 true 5 (.t 20)),
 vo 5 (.alloc 96 [(.val (.int .i64 0)),(.val (.int .i64 0)),(.val (.int .i64 0)),(.nl 2),(.val (.int .i64 0))]),
 vn (.store 96 5 (.t 5) (.t 21))])
 (.seq
 (.region false [1, 2, 3, 5, 14, 16, 17, 18, 29] [
 vo 22 (.fa 96 3 3 1 (.t 5)),
 vo 23 (.load 24 false 1 (.t 22)),
 vo 24 (.call 94 [(.t 23)]),
 vo 25 (.fa 96 3 3 1 (.t 5)),
 vn (.store 24 1 (.t 25) (.t 24))])
 (.region false [1, 2, 3, 14, 16, 17, 18, 29] [
 vo 26 (.mov (.t 3)),
 vo 27 (.load 96 true 5 (.t 5)),
 vo 28 (.lit 25 96 5 1 [(.val (.int .i64 0)),(.val (.int .i64 0)),(.val (.int .i64 0)),(.nl 2),(.val (.int .i64 0))] [(0,(.t 27))]),
 vo 29 (.app 25 96 5 56 (.t 26) (.t 28)),
 vo 3 (.asg (.t 29))]))))
 (.region false [1, 2, 3, 14, 16, 17, 18, 29] [
 vo 30 (.bin false .add 3 (.t 18) (.c (.int .i64 1))),
 vo 18 (.mov (.t 30))]))))
def l91_0:VC:=.loop b91_0
/-- loop.example/g00539/impl.cloneLedger -/
def v91 : VFun := {
 code:=
 (.seq
 (.region false [1, 2] [
 vo 1 (.box 27 (.t 0)),
 vo 2 (.alloc 27 [(.val (.int .i64 0)),(.val (.int .i64 0)),(.nl 2),(.nl 5),(.nl 2),(.val (.int .i64 0)),(.val (.int .i64 0)),(.val (.int .i64 0))])])
 (.seq
 (.region true [1, 2] [
 vo 6 (.fa 27 2 2 1 (.t 1)),
 vo 7 (.load 24 false 1 (.t 6)),
 vo 8 (.call 94 [(.t 7)]),
 ⟨some 9,.fa 27 4 4 1 (.t 1),none,[0,1,2]⟩,
 ⟨some 10,.load 24 false 1 (.t 9),none,[0,1,2]⟩,
 vo 11 (.call 94 [(.t 10)]),
 ⟨some 12,.fa 27 2 2 1 (.t 1),none,[5]⟩,
 vn (.store 24 1 (.t 12) (.t 8)),
 vo 13 (.fa 27 4 4 1 (.t 1)),
 vn (.store 24 1 (.t 13) (.t 11))])
 (.seq
 (.region false [1, 2, 3, 14, 29] [
 vo 14 (.lit 25 96 5 0 [(.val (.int .i64 0)),(.val (.int .i64 0)),(.val (.int .i64 0)),(.nl 2),(.val (.int .i64 0))] []),
 vo 3 (.asg (.t 14))])
 (.seq
 (.seq
 (.region false [1, 2, 3, 14, 16, 17, 18, 29] [
 vo 15 (.fa 27 3 3 1 (.t 1)),
 vo 16 (.load 25 false 1 (.t 15)),
 vo 17 (.len false 25 (.t 16)),
 vo 18 (.mov (.c (.int .i64 0)))])
 (.block 0
 l91_0))
 (.seq
 (.region false [1, 2] [
 vo 31 (.mov (.t 3)),
 vo 32 (.fa 27 3 3 1 (.t 1)),
 vn (.store 25 1 (.t 32) (.t 31))])
 (.seq
 (.region false [2] [
 vo 33 (.load 27 true 8 (.t 1)),
 vn (.store 27 8 (.t 2) (.t 33))])
 .ret))))))
 modes:=[.lend]
 rets:=[⟨2,some (true,8)⟩]}

def b92_0:VC:=
 (.seq
 (.region false [0, 1, 7, 8, 9] [
 vo 9 (.bin false .lss 3 (.t 8) (.t 7))])
 (.seq
 (.cond (.t 9)
 .skip
 (.exit 0))
 (.seq
 (.block 1
 (.seq
 (.region false [0, 1, 5, 7, 8] [
 vo 10 (.mov (.t 8)),
 vo 5 (.asg (.t 10))])
 (.seq
 (.region false [0, 1, 5, 7, 8, 16] [
 vo 11 (.mov (.t 1)),
 vo 12 (.mov (.t 0)),
 vo 13 (.mov (.t 5)),
 vo 14 (.ia 24 34 2 (.t 12) (.t 13)),
 vo 15 (.load 34 true 2 (.t 14)),
 vo 16 (.callv (.t 11) [(.t 15)])])
 (.cond (.t 16)
 (.seq
 (.region false [4] [
 vo 17 (.mov (.t 5)),
 vo 4 (.asg (.t 17))])
 .ret)
 .skip))))
 (.region false [0, 1, 7, 8] [
 vo 18 (.bin false .add 3 (.t 8) (.c (.int .i64 1))),
 vo 8 (.mov (.t 18))]))))
def l92_0:VC:=.loop b92_0
/-- slices.IndexFunc[[]loop.example/g00539/impl.Weight,loop.example/g00539/impl.Weight] -/
def v92 : VFun := {
 code:=
 (.seq
 (.region false [0, 1] [
 vo 4 (.asg (.c (.int .i64 0)))])
 (.seq
 (.seq
 (.region false [0, 1, 7, 8] [
 vo 6 (.mov (.t 0)),
 vo 7 (.len false 24 (.t 6)),
 vo 8 (.mov (.c (.int .i64 0)))])
 (.block 0
 l92_0))
 (.seq
 (.region false [4] [
 vo 4 (.asg (.c (.int .i64 (-1))))])
 .ret)))
 modes:=[.lend,.lend]
 rets:=[⟨4,none⟩]}

/-- loop.example/g00539/impl.weightAt$1 -/
def v93 : VFun := {
 code:=
 (.seq
 (.region false [1, 2] [
 vo 2 (.box 34 (.t 0)),
 vo 3 (.asg (.c (.bool false)))])
 (.seq
 (.region false [3] [
 vo 4 (.fa 34 0 0 1 (.t 2)),
 vo 5 (.load 9 false 1 (.t 4)),
 vo 6 (.load 9 false 1 (.t 1)),
 vo 7 (.bin false .eql 9 (.t 5) (.t 6)),
 vo 3 (.asg (.t 7))])
 .ret))
 modes:=[.lend,.lend]
 rets:=[⟨3,none⟩]}

/-- loop.example/g00539/spec.l14Ranges -/
def v95 : VFun := {
 code:=
 (.seq
 (.region false [0] [
 vo 2 (.asg (.c (.bool false)))])
 (.seq
 (.region false [2] [
 vo 3 (.mov (.t 0)),
 vo 4 (.nilc (.t 3)),
 vo 5 (.fa 27 0 0 1 (.t 4)),
 vo 6 (.load 2 false 1 (.t 5)),
 vo 7 (.call 105 [(.t 6),(.c (.int .i64 1)),(.c (.int .i64 12))]),
 vo 8 (.mov (.t 7)),
 ⟨some 9,.mov (.t 0),some (8,true),[]⟩,
 ⟨some 10,.nilc (.t 9),some (8,true),[]⟩,
 ⟨some 11,.fa 27 1 1 1 (.t 10),some (8,true),[]⟩,
 ⟨some 12,.load 2 false 1 (.t 11),some (8,true),[]⟩,
 ⟨some 13,.call 105 [(.t 12),(.c (.int .i64 0)),(.c (.int .i64 1000))],some (8,true),[]⟩,
 vo 14 (.pick (.t 8) (.t 13) (.c (.bool false))),
 vo 15 (.mov (.t 14)),
 ⟨some 16,.mov (.t 0),some (15,true),[]⟩,
 ⟨some 17,.nilc (.t 16),some (15,true),[]⟩,
 ⟨some 18,.fa 27 5 5 1 (.t 17),some (15,true),[]⟩,
 ⟨some 19,.load 2 false 1 (.t 18),some (15,true),[]⟩,
 ⟨some 20,.call 101 [(.t 19)],some (15,true),[]⟩,
 vo 21 (.pick (.t 15) (.t 20) (.c (.bool false))),
 vo 22 (.mov (.t 21)),
 ⟨some 23,.mov (.t 0),some (22,true),[]⟩,
 ⟨some 24,.nilc (.t 23),some (22,true),[]⟩,
 ⟨some 25,.fa 27 6 6 1 (.t 24),some (22,true),[]⟩,
 ⟨some 26,.load 2 false 1 (.t 25),some (22,true),[]⟩,
 ⟨some 27,.call 101 [(.t 26)],some (22,true),[]⟩,
 vo 28 (.pick (.t 22) (.t 27) (.c (.bool false))),
 vo 29 (.mov (.t 28)),
 ⟨some 30,.mov (.t 0),some (29,true),[]⟩,
 ⟨some 31,.nilc (.t 30),some (29,true),[]⟩,
 ⟨some 32,.fa 27 7 7 1 (.t 31),some (29,true),[]⟩,
 ⟨some 33,.load 2 false 1 (.t 32),some (29,true),[]⟩,
 ⟨some 34,.call 101 [(.t 33)],some (29,true),[]⟩,
 vo 35 (.pick (.t 29) (.t 34) (.c (.bool false))),
 vo 2 (.asg (.t 35))])
 .ret))
 modes:=[.lend]
 rets:=[⟨2,none⟩]}

def b96_0:VC:=
 (.seq
 (.seq
 (.region false [0, 3, 11] [
 vo 8 (.mov (.t 3)),
 vo 9 (.mov (.t 0)),
 vo 10 (.len false 24 (.t 9)),
 vo 11 (.bin false .lss 3 (.t 8) (.t 10))])
 (.cond (.t 11)
 .skip
 (.exit 0)))
 (.seq
 (.block 1
 (.seq
 (.region false [0, 3, 4] [
 vo 14 (.mov (.t 0)),
 vo 15 (.mov (.t 3)),
 vo 16 (.ia 24 34 2 (.t 14) (.t 15)),
 vo 17 (.call 102 [(.t 16)]),
 vo 4 (.asg (.t 17))])
 (.seq
 (.region false [0, 3, 4, 19] [
 vo 18 (.mov (.t 4)),
 vo 19 (.bin false .neq 2 (.t 18) (.c (.int .i64 0)))])
 (.cond (.t 19)
 (.seq
 (.region false [2] [
 vo 20 (.mov (.t 4)),
 vo 2 (.asg (.t 20))])
 .ret)
 .skip))))
 (.region false [0, 3] [
 vo 12 (.mov (.t 3)),
 vo 13 (.bin false .add 3 (.t 12) (.c (.int .i64 1))),
 vo 3 (.asg (.t 13))])))
def l96_0:VC:=.loop b96_0
/-- loop.example/g00539/spec.l13Fault -/
def v96 : VFun := {
 code:=
 (.seq
 (.region false [0] [
 vo 2 (.asg (.c (.int .i64 0)))])
 (.seq
 (.seq
 (.region false [0, 7] [
 vo 5 (.mov (.t 0)),
 vo 6 (.len false 24 (.t 5)),
 vo 7 (.bin false .gtr 3 (.t 6) (.c (.int .i64 12)))])
 (.cond (.t 7)
 (.seq
 (.region false [2] [
 vo 2 (.asg (.c (.int .i64 2)))])
 .ret)
 .skip))
 (.seq
 (.seq
 (.region false [0, 3] [
 vo 3 (.asg (.c (.int .i64 0)))])
 (.block 0
 l96_0))
 (.seq
 (.region false [2] [
 vo 2 (.asg (.c (.int .i64 0)))])
 .ret))))
 modes:=[.lend]
 rets:=[⟨2,none⟩]}

/-- loop.example/g00539/spec.l14Reward -/
def v97 : VFun := {
 code:=
 (.seq
 (.region false [0, 1] [
 vo 4 (.asg (.c (.int .i64 0)))])
 (.seq
 (.region false [0, 1, 5] [
 vo 6 (.mov (.t 0)),
 vo 7 (.mov (.t 1)),
 vo 8 (.ia 25 96 5 (.t 6) (.t 7)),
 vo 5 (.asg (.t 8))])
 (.seq
 (.seq
 (.region false [0, 1, 5, 38] [
 vo 9 (.mov (.t 5)),
 vo 10 (.nilc (.t 9)),
 vo 11 (.fa 96 0 0 1 (.t 10)),
 vo 12 (.load 2 false 1 (.t 11)),
 vo 13 (.call 116 [(.t 12)]),
 vo 14 (.un .not (.t 13)),
 vo 15 (.mov (.t 14)),
 ⟨some 16,.mov (.t 5),some (15,false),[]⟩,
 ⟨some 17,.nilc (.t 16),some (15,false),[]⟩,
 ⟨some 18,.fa 96 1 1 1 (.t 17),some (15,false),[]⟩,
 ⟨some 19,.load 2 false 1 (.t 18),some (15,false),[]⟩,
 ⟨some 20,.call 101 [(.t 19)],some (15,false),[]⟩,
 ⟨some 21,.un .not (.t 20),some (15,false),[]⟩,
 vo 22 (.pick (.t 15) (.c (.bool true)) (.t 21)),
 vo 23 (.mov (.t 22)),
 ⟨some 24,.mov (.t 5),some (23,false),[]⟩,
 ⟨some 25,.nilc (.t 24),some (23,false),[]⟩,
 ⟨some 26,.fa 96 2 2 1 (.t 25),some (23,false),[]⟩,
 ⟨some 27,.load 2 false 1 (.t 26),some (23,false),[]⟩,
 ⟨some 28,.call 101 [(.t 27)],some (23,false),[]⟩,
 ⟨some 29,.un .not (.t 28),some (23,false),[]⟩,
 vo 30 (.pick (.t 23) (.c (.bool true)) (.t 29)),
 vo 31 (.mov (.t 30)),
 ⟨some 32,.mov (.t 5),some (31,false),[]⟩,
 ⟨some 33,.nilc (.t 32),some (31,false),[]⟩,
 ⟨some 34,.fa 96 4 4 1 (.t 33),some (31,false),[]⟩,
 ⟨some 35,.load 2 false 1 (.t 34),some (31,false),[]⟩,
 ⟨some 36,.call 105 [(.t 35),(.c (.int .i64 1)),(.c (.int .i64 3))],some (31,false),[]⟩,
 ⟨some 37,.un .not (.t 36),some (31,false),[]⟩,
 vo 38 (.pick (.t 31) (.c (.bool true)) (.t 37))])
 (.cond (.t 38)
 (.seq
 (.region false [4] [
 vo 4 (.asg (.c (.int .i64 3)))])
 .ret)
 .skip))
 (.seq
 (.seq
 (.region true [0, 1, 5, 69] [
 vo 39 (.mov (.t 5)),
 vo 40 (.nilc (.t 39)),
 vo 41 (.fa 96 3 3 1 (.t 40)),
 vo 42 (.load 24 false 1 (.t 41)),
 vo 43 (.len false 24 (.t 42)),
 vo 44 (.bin false .gtr 3 (.t 43) (.c (.int .i64 12))),
 vo 45 (.mov (.t 44)),
 ⟨some 46,.mov (.t 5),some (45,false),[]⟩,
 ⟨some 47,.nilc (.t 46),some (45,false),[]⟩,
 ⟨some 48,.fa 96 3 3 1 (.t 47),some (45,false),[]⟩,
 ⟨some 49,.load 24 false 1 (.t 48),some (45,false),[]⟩,
 ⟨some 50,.call 98 [(.t 49)],some (45,false),[]⟩,
 ⟨some 51,.un .not (.t 50),some (45,false),[]⟩,
 vo 52 (.pick (.t 45) (.c (.bool true)) (.t 51)),
 vo 53 (.mov (.t 52)),
 ⟨some 54,.mov (.t 5),some (53,false),[]⟩,
 ⟨some 55,.nilc (.t 54),some (53,false),[]⟩,
 ⟨some 56,.fa 96 3 3 1 (.t 55),some (53,false),[]⟩,
 ⟨some 57,.load 24 false 1 (.t 56),some (53,false),[]⟩,
 ⟨some 58,.call 99 [(.t 57)],some (53,false),[]⟩,
 ⟨some 59,.mov (.t 5),some (53,false),[15,16,17,18,19]⟩,
 ⟨some 60,.nilc (.t 59),some (53,false),[15,16,17,18,19]⟩,
 ⟨some 61,.fa 96 2 2 1 (.t 60),some (53,false),[15,16,17,18,19]⟩,
 ⟨some 62,.load 2 false 1 (.t 61),some (53,false),[15,16,17,18,19]⟩,
 ⟨some 63,.bin false .add 2 (.t 58) (.t 62),some (53,false),[]⟩,
 ⟨some 64,.mov (.t 5),some (53,false),[15,16,17,18,19,20,21,22,23,24]⟩,
 ⟨some 65,.nilc (.t 64),some (53,false),[15,16,17,18,19,20,21,22,23,24]⟩,
 ⟨some 66,.fa 96 1 1 1 (.t 65),some (53,false),[15,16,17,18,19,20,21,22,23,24]⟩,
 ⟨some 67,.load 2 false 1 (.t 66),some (53,false),[15,16,17,18,19,20,21,22,23,24]⟩,
 ⟨some 68,.bin false .neq 2 (.t 63) (.t 67),some (53,false),[]⟩,
 vo 69 (.pick (.t 53) (.c (.bool true)) (.t 68))])
 (.cond (.t 69)
 (.seq
 (.region false [4] [
 vo 4 (.asg (.c (.int .i64 1)))])
 .ret)
 .skip))
 (.seq
 (.seq
 (.region true [78] [
 vo 70 (.mov (.t 0)),
 ⟨some 71,.mov (.t 1),none,[0]⟩,
 vo 72 (.cut 25 (some 96) 5 (.t 70) none (some (.t 71))),
 ⟨some 73,.mov (.t 5),none,[0,1,2]⟩,
 ⟨some 74,.nilc (.t 73),none,[0,1,2]⟩,
 ⟨some 75,.fa 96 0 0 1 (.t 74),none,[0,1,2]⟩,
 ⟨some 76,.load 2 false 1 (.t 75),none,[0,1,2]⟩,
 vo 77 (.call 124 [(.t 72),(.t 76)]),
 vo 78 (.bin false .geq 3 (.t 77) (.c (.int .i64 0)))])
 (.cond (.t 78)
 (.seq
 (.region false [4] [
 vo 4 (.asg (.c (.int .i64 6)))])
 .ret)
 .skip))
 (.seq
 (.region false [4] [
 vo 4 (.asg (.c (.int .i64 0)))])
 .ret))))))
 modes:=[.lend,.lend]
 rets:=[⟨4,none⟩]}

def b98_0:VC:=
 (.seq
 (.seq
 (.region false [0, 3, 7] [
 vo 4 (.mov (.t 3)),
 vo 5 (.mov (.t 0)),
 vo 6 (.len false 24 (.t 5)),
 vo 7 (.bin false .lss 3 (.t 4) (.t 6))])
 (.cond (.t 7)
 .skip
 (.exit 0)))
 (.seq
 (.block 1
 (.seq
 (.region false [0, 3, 44] [
 vo 10 (.mov (.t 0)),
 vo 11 (.mov (.t 3)),
 vo 12 (.ia 24 34 2 (.t 10) (.t 11)),
 vo 13 (.fa 34 0 0 1 (.t 12)),
 vo 14 (.load 9 false 1 (.t 13)),
 vo 15 (.bin false .eql 9 (.t 14) (.c (.string (⟨#[]⟩:ByteArray)))),
 vo 16 (.mov (.t 15)),
 ⟨some 17,.mov (.t 0),some (16,false),[]⟩,
 ⟨some 18,.mov (.t 3),some (16,false),[]⟩,
 ⟨some 19,.ia 24 34 2 (.t 17) (.t 18),some (16,false),[]⟩,
 ⟨some 20,.fa 34 0 0 1 (.t 19),some (16,false),[]⟩,
 ⟨some 21,.load 9 false 1 (.t 20),some (16,false),[]⟩,
 ⟨some 22,.call 115 [(.t 21)],some (16,false),[]⟩,
 ⟨some 23,.un .not (.t 22),some (16,false),[]⟩,
 vo 24 (.pick (.t 16) (.c (.bool true)) (.t 23)),
 vo 25 (.mov (.t 24)),
 ⟨some 26,.mov (.t 0),some (25,false),[]⟩,
 ⟨some 27,.mov (.t 3),some (25,false),[]⟩,
 ⟨some 28,.ia 24 34 2 (.t 26) (.t 27),some (25,false),[]⟩,
 ⟨some 29,.fa 34 1 1 1 (.t 28),some (25,false),[]⟩,
 ⟨some 30,.load 2 false 1 (.t 29),some (25,false),[]⟩,
 ⟨some 31,.call 101 [(.t 30)],some (25,false),[]⟩,
 ⟨some 32,.un .not (.t 31),some (25,false),[]⟩,
 vo 33 (.pick (.t 25) (.c (.bool true)) (.t 32)),
 vo 34 (.mov (.t 33)),
 ⟨some 35,.mov (.t 0),some (34,false),[]⟩,
 ⟨some 36,.mov (.t 0),some (34,false),[]⟩,
 ⟨some 37,.mov (.t 3),some (34,false),[]⟩,
 ⟨some 38,.ia 24 34 2 (.t 36) (.t 37),some (34,false),[]⟩,
 ⟨some 39,.fa 34 0 0 1 (.t 38),some (34,false),[]⟩,
 ⟨some 40,.load 9 false 1 (.t 39),some (34,false),[]⟩,
 ⟨some 41,.call 60 [(.t 35),(.t 40)],some (34,false),[]⟩,
 ⟨some 42,.mov (.t 3),some (34,false),[]⟩,
 ⟨some 43,.bin false .neq 3 (.t 41) (.t 42),some (34,false),[]⟩,
 vo 44 (.pick (.t 34) (.c (.bool true)) (.t 43))])
 (.cond (.t 44)
 (.seq
 (.region false [2] [
 vo 2 (.asg (.c (.bool false)))])
 .ret)
 .skip)))
 (.region false [0, 3] [
 vo 8 (.mov (.t 3)),
 vo 9 (.bin false .add 3 (.t 8) (.c (.int .i64 1))),
 vo 3 (.asg (.t 9))])))
def l98_0:VC:=.loop b98_0
/-- loop.example/g00539/spec.l14Parts -/
def v98 : VFun := {
 code:=
 (.seq
 (.region false [0] [
 vo 2 (.asg (.c (.bool false)))])
 (.seq
 (.seq
 (.region false [0, 3] [
 vo 3 (.asg (.c (.int .i64 0)))])
 (.block 0
 l98_0))
 (.seq
 (.region false [2] [
 vo 2 (.asg (.c (.bool true)))])
 .ret)))
 modes:=[.lend]
 rets:=[⟨2,none⟩]}

def b99_0:VC:=
 (.seq
 (.seq
 (.region false [0, 3, 4, 8] [
 vo 5 (.mov (.t 4)),
 vo 6 (.mov (.t 0)),
 vo 7 (.len false 24 (.t 6)),
 vo 8 (.bin false .lss 3 (.t 5) (.t 7))])
 (.cond (.t 8)
 .skip
 (.exit 0)))
 (.seq
 (.block 1
 (.region false [0, 3, 4] [
 vo 11 (.mov (.t 3)),
 vo 12 (.mov (.t 0)),
 vo 13 (.mov (.t 4)),
 vo 14 (.ia 24 34 2 (.t 12) (.t 13)),
 vo 15 (.fa 34 1 1 1 (.t 14)),
 vo 16 (.load 2 false 1 (.t 15)),
 vo 17 (.bin false .add 2 (.t 11) (.t 16)),
 vo 3 (.asg (.t 17))]))
 (.region false [0, 3, 4] [
 vo 9 (.mov (.t 4)),
 vo 10 (.bin false .add 3 (.t 9) (.c (.int .i64 1))),
 vo 4 (.asg (.t 10))])))
def l99_0:VC:=.loop b99_0
/-- loop.example/g00539/spec.l13Total -/
def v99 : VFun := {
 code:=
 (.seq
 (.region false [0] [
 vo 2 (.asg (.c (.int .i64 0)))])
 (.seq
 (.region false [0, 3] [
 vo 3 (.asg (.c (.int .i64 0)))])
 (.seq
 (.seq
 (.region false [0, 3, 4] [
 vo 4 (.asg (.c (.int .i64 0)))])
 (.block 0
 l99_0))
 (.seq
 (.region false [2] [
 vo 18 (.mov (.t 3)),
 vo 2 (.asg (.t 18))])
 .ret))))
 modes:=[.lend]
 rets:=[⟨2,none⟩]}

def b100_0:VC:=
 (.seq
 (.seq
 (.region false [0, 1, 5, 6, 10] [
 vo 7 (.mov (.t 6)),
 vo 8 (.mov (.t 0)),
 vo 9 (.len false 25 (.t 8)),
 vo 10 (.bin false .lss 3 (.t 7) (.t 9))])
 (.cond (.t 10)
 .skip
 (.exit 0)))
 (.seq
 (.block 1
 (.seq
 (.region false [0, 1, 5, 6, 22] [
 vo 13 (.mov (.t 1)),
 vo 14 (.un .not (.t 13)),
 vo 15 (.mov (.t 14)),
 ⟨some 16,.mov (.t 0),some (15,false),[]⟩,
 ⟨some 17,.mov (.t 6),some (15,false),[]⟩,
 ⟨some 18,.ia 25 96 5 (.t 16) (.t 17),some (15,false),[]⟩,
 ⟨some 19,.fa 96 4 4 1 (.t 18),some (15,false),[]⟩,
 ⟨some 20,.load 2 false 1 (.t 19),some (15,false),[]⟩,
 ⟨some 21,.bin false .eql 2 (.t 20) (.c (.int .i64 2)),some (15,false),[]⟩,
 vo 22 (.pick (.t 15) (.c (.bool true)) (.t 21))])
 (.cond (.t 22)
 (.region false [0, 1, 5, 6] [
 vo 23 (.mov (.t 5)),
 vo 24 (.mov (.t 0)),
 vo 25 (.mov (.t 6)),
 vo 26 (.ia 25 96 5 (.t 24) (.t 25)),
 vo 27 (.fa 96 1 1 1 (.t 26)),
 vo 28 (.load 2 false 1 (.t 27)),
 vo 29 (.bin false .add 2 (.t 23) (.t 28)),
 vo 5 (.asg (.t 29))])
 .skip)))
 (.region false [0, 1, 5, 6] [
 vo 11 (.mov (.t 6)),
 vo 12 (.bin false .add 3 (.t 11) (.c (.int .i64 1))),
 vo 6 (.asg (.t 12))])))
def l100_0:VC:=.loop b100_0
/-- loop.example/g00539/spec.l14Totals -/
def v100 : VFun := {
 code:=
 (.seq
 (.region false [0, 1] [
 vo 4 (.asg (.c (.int .i64 0)))])
 (.seq
 (.region false [0, 1, 5] [
 vo 5 (.asg (.c (.int .i64 0)))])
 (.seq
 (.seq
 (.region false [0, 1, 5, 6] [
 vo 6 (.asg (.c (.int .i64 0)))])
 (.block 0
 l100_0))
 (.seq
 (.region false [4] [
 vo 30 (.mov (.t 5)),
 vo 4 (.asg (.t 30))])
 .ret))))
 modes:=[.lend,.lend]
 rets:=[⟨4,none⟩]}

/-- loop.example/g00539/spec.l1Amount -/
def v101 : VFun := {
 code:=
 (.seq
 (.region false [0] [
 vo 2 (.asg (.c (.bool false)))])
 (.seq
 (.region false [2] [
 vo 3 (.mov (.t 0)),
 vo 4 (.call 105 [(.t 3),(.c (.int .i64 0)),(.c (.int .i64 1000000))]),
 vo 2 (.asg (.t 4))])
 .ret))
 modes:=[.lend]
 rets:=[⟨2,none⟩]}

/-- loop.example/g00539/spec.l13One -/
def v102 : VFun := {
 code:=
 (.seq
 (.region false [0] [
 vo 2 (.asg (.c (.int .i64 0)))])
 (.seq
 (.seq
 (.region false [0, 15] [
 vo 3 (.mov (.t 0)),
 vo 4 (.nilc (.t 3)),
 vo 5 (.fa 34 0 0 1 (.t 4)),
 vo 6 (.load 9 false 1 (.t 5)),
 vo 7 (.bin false .eql 9 (.t 6) (.c (.string (⟨#[]⟩:ByteArray)))),
 vo 8 (.mov (.t 7)),
 ⟨some 9,.mov (.t 0),some (8,false),[]⟩,
 ⟨some 10,.nilc (.t 9),some (8,false),[]⟩,
 ⟨some 11,.fa 34 0 0 1 (.t 10),some (8,false),[]⟩,
 ⟨some 12,.load 9 false 1 (.t 11),some (8,false),[]⟩,
 ⟨some 13,.call 115 [(.t 12)],some (8,false),[]⟩,
 ⟨some 14,.un .not (.t 13),some (8,false),[]⟩,
 vo 15 (.pick (.t 8) (.c (.bool true)) (.t 14))])
 (.cond (.t 15)
 (.seq
 (.region false [2] [
 vo 2 (.asg (.c (.int .i64 5)))])
 .ret)
 .skip))
 (.seq
 (.seq
 (.region false [21] [
 vo 16 (.mov (.t 0)),
 vo 17 (.nilc (.t 16)),
 vo 18 (.fa 34 1 1 1 (.t 17)),
 vo 19 (.load 2 false 1 (.t 18)),
 vo 20 (.call 105 [(.t 19),(.c (.int .i64 1)),(.c (.int .i64 9999))]),
 vo 21 (.un .not (.t 20))])
 (.cond (.t 21)
 (.seq
 (.region false [2] [
 vo 2 (.asg (.c (.int .i64 3)))])
 .ret)
 .skip))
 (.seq
 (.region false [2] [
 vo 2 (.asg (.c (.int .i64 0)))])
 .ret))))
 modes:=[.lend]
 rets:=[⟨2,none⟩]}

def b103_0:VC:=
 (.seq
 (.seq
 (.region false [1, 2, 3, 4, 20] [
 vo 16 (.mov (.t 4)),
 vo 17 (.fa 27 3 3 1 (.t 1)),
 vo 18 (.load 25 false 1 (.t 17)),
 vo 19 (.len false 25 (.t 18)),
 vo 20 (.bin false .lss 3 (.t 16) (.t 19))])
 (.cond (.t 20)
 .skip
 (.exit 0)))
 (.seq
 (.block 1
 (.seq
 (.region false [1, 2, 3, 4, 5] [
 vo 23 (.fa 27 3 3 1 (.t 1)),
 vo 24 (.load 25 false 1 (.t 23)),
 vo 25 (.mov (.t 4)),
 vo 26 (.ia 25 96 5 (.t 24) (.t 25)),
 vo 27 (.load 96 true 5 (.t 26)),
 vo 5 (.alloc 96 [(.val (.int .i64 0)),(.val (.int .i64 0)),(.val (.int .i64 0)),(.nl 2),(.val (.int .i64 0))]),
 vn (.store 96 5 (.t 5) (.t 27))])
 (.seq
 (.region false [1, 2, 3, 4, 5] [
 vo 28 (.fa 96 3 3 1 (.t 5)),
 vo 29 (.load 24 false 1 (.t 28)),
 vo 30 (.call 137 [(.t 29)]),
 vo 31 (.fa 96 3 3 1 (.t 5)),
 vn (.store 24 1 (.t 31) (.t 30))])
 (.region false [1, 2, 3, 4] [
 vo 32 (.fa 27 3 3 1 (.t 3)),
 vo 33 (.load 25 false 1 (.t 32)),
 vo 34 (.load 96 true 5 (.t 5)),
 vo 35 (.lit 25 96 5 1 [(.val (.int .i64 0)),(.val (.int .i64 0)),(.val (.int .i64 0)),(.nl 2),(.val (.int .i64 0))] [(0,(.t 34))]),
 vo 36 (.app 25 96 5 56 (.t 33) (.t 35)),
 vo 37 (.fa 27 3 3 1 (.t 3)),
 vn (.store 25 1 (.t 37) (.t 36))]))))
 (.region false [1, 2, 3, 4] [
 vo 21 (.mov (.t 4)),
 vo 22 (.bin false .add 3 (.t 21) (.c (.int .i64 1))),
 vo 4 (.asg (.t 22))])))
def l103_0:VC:=.loop b103_0
/-- loop.example/g00539/spec.l14Copy -/
def v103 : VFun := {
 code:=
 (.seq
 (.region false [1, 2] [
 vo 1 (.box 27 (.t 0)),
 vo 2 (.alloc 27 [(.val (.int .i64 0)),(.val (.int .i64 0)),(.nl 2),(.nl 5),(.nl 2),(.val (.int .i64 0)),(.val (.int .i64 0)),(.val (.int .i64 0))])])
 (.seq
 (.region false [1, 2, 3] [
 vo 6 (.load 27 true 8 (.t 1)),
 vo 3 (.alloc 27 [(.val (.int .i64 0)),(.val (.int .i64 0)),(.nl 2),(.nl 5),(.nl 2),(.val (.int .i64 0)),(.val (.int .i64 0)),(.val (.int .i64 0))]),
 vn (.store 27 8 (.t 3) (.t 6))])
 (.seq
 (.region false [1, 2, 3] [
 vo 7 (.fa 27 2 2 1 (.t 1)),
 vo 8 (.load 24 false 1 (.t 7)),
 vo 9 (.call 137 [(.t 8)]),
 vo 10 (.fa 27 2 2 1 (.t 3)),
 vn (.store 24 1 (.t 10) (.t 9))])
 (.seq
 (.region false [1, 2, 3] [
 vo 11 (.fa 27 4 4 1 (.t 1)),
 vo 12 (.load 24 false 1 (.t 11)),
 vo 13 (.call 137 [(.t 12)]),
 vo 14 (.fa 27 4 4 1 (.t 3)),
 vn (.store 24 1 (.t 14) (.t 13))])
 (.seq
 (.region false [1, 2, 3] [
 vo 15 (.fa 27 3 3 1 (.t 3)),
 vn (.store 25 1 (.t 15) (.n 5))])
 (.seq
 (.seq
 (.region false [1, 2, 3, 4] [
 vo 4 (.asg (.c (.int .i64 0)))])
 (.block 0
 l103_0))
 (.seq
 (.region false [2] [
 vo 38 (.load 27 true 8 (.t 3)),
 vn (.store 27 8 (.t 2) (.t 38))])
 .ret)))))))
 modes:=[.lend]
 rets:=[⟨2,some (true,8)⟩]}

/-- loop.example/g00539/spec.l1In -/
def v105 : VFun := {
 code:=
 (.seq
 (.region false [0, 1, 2] [
 vo 6 (.asg (.c (.bool false)))])
 (.seq
 (.region false [6] [
 vo 7 (.mov (.t 0)),
 vo 8 (.mov (.t 1)),
 vo 9 (.bin false .geq 2 (.t 7) (.t 8)),
 vo 10 (.mov (.t 9)),
 ⟨some 11,.mov (.t 0),some (10,true),[]⟩,
 ⟨some 12,.mov (.t 2),some (10,true),[]⟩,
 ⟨some 13,.bin false .leq 2 (.t 11) (.t 12),some (10,true),[]⟩,
 vo 14 (.pick (.t 10) (.t 13) (.c (.bool false))),
 vo 6 (.asg (.t 14))])
 .ret))
 modes:=[.lend,.lend,.lend]
 rets:=[⟨6,none⟩]}

def b115_0:VC:=
 (.seq
 (.seq
 (.region false [0, 3, 7] [
 vo 4 (.mov (.t 3)),
 vo 5 (.mov (.t 0)),
 vo 6 (.len true 9 (.t 5)),
 vo 7 (.bin false .lss 3 (.t 4) (.t 6))])
 (.cond (.t 7)
 .skip
 (.exit 0)))
 (.seq
 (.block 1
 (.seq
 (.region false [0, 3, 14] [
 vo 10 (.mov (.t 0)),
 vo 11 (.mov (.t 3)),
 vo 12 (.idx 9 (.t 10) (.t 11)),
 vo 13 (.call 140 [(.t 12)]),
 vo 14 (.un .not (.t 13))])
 (.cond (.t 14)
 (.seq
 (.region false [2] [
 vo 2 (.asg (.c (.bool false)))])
 .ret)
 .skip)))
 (.region false [0, 3] [
 vo 8 (.mov (.t 3)),
 vo 9 (.bin false .add 3 (.t 8) (.c (.int .i64 1))),
 vo 3 (.asg (.t 9))])))
def l115_0:VC:=.loop b115_0
/-- loop.example/g00539/spec.l9Arg -/
def v115 : VFun := {
 code:=
 (.seq
 (.region false [0] [
 vo 2 (.asg (.c (.bool false)))])
 (.seq
 (.seq
 (.region false [0, 3] [
 vo 3 (.asg (.c (.int .i64 0)))])
 (.block 0
 l115_0))
 (.seq
 (.region false [2] [
 vo 15 (.mov (.t 0)),
 vo 16 (.len true 9 (.t 15)),
 vo 17 (.bin false .leq 3 (.t 16) (.c (.int .i64 12))),
 vo 2 (.asg (.t 17))])
 .ret)))
 modes:=[.lend]
 rets:=[⟨2,none⟩]}

/-- loop.example/g00539/spec.l4Sum -/
def v116 : VFun := {
 code:=
 (.seq
 (.region false [0] [
 vo 2 (.asg (.c (.bool false)))])
 (.seq
 (.region false [2] [
 vo 3 (.mov (.t 0)),
 vo 4 (.call 105 [(.t 3),(.c (.int .i64 0)),(.c (.int .i64 2147483646))]),
 vo 2 (.asg (.t 4))])
 .ret))
 modes:=[.lend]
 rets:=[⟨2,none⟩]}

/-- loop.example/g00539/impl.argOk -/
def v119 : VFun := {
 code:=
 (.seq
 (.region false [0] [
 vo 2 (.asg (.c (.bool false)))])
 (.seq
 (.region false [2] [
 vo 3 (.mov (.t 0)),
 vo 4 (.len true 9 (.t 3)),
 vo 5 (.bin false .leq 3 (.t 4) (.c (.int .i64 12))),
 vo 6 (.mov (.t 5)),
 ⟨some 7,.mov (.t 0),some (6,true),[]⟩,
 ⟨some 8,.call 141 [(.t 7),(.c (.string (⟨#[97,98,99,100,101,102,103,104,105,106,107,108,109,110,111,112,113,114,115,116,117,118,119,120,121,122,65,66,67,68,69,70,71,72,73,74,75,76,77,78,79,80,81,82,83,84,85,86,87,88,89,90,48,49,50,51,52,53,54,55,56,57]⟩:ByteArray)))],some (6,true),[]⟩,
 ⟨some 9,.bin false .eql 9 (.t 8) (.c (.string (⟨#[]⟩:ByteArray))),some (6,true),[]⟩,
 vo 10 (.pick (.t 6) (.t 9) (.c (.bool false))),
 vo 2 (.asg (.t 10))])
 .ret))
 modes:=[.lend]
 rets:=[⟨2,none⟩]}

/-- loop.example/g00539/laws.szWeight -/
def v122 : VFun := {
 code:=
 (.seq
 (.region false [1, 2] [
 vo 2 (.box 159 (.t 0)),
 vo 4 (.asg (.c (.int .i64 0)))])
 (.seq
 (.region false [1] [
 vo 5 (.mov (.t 1)),
 vo 6 (.fa 159 0 0 1 (.t 2)),
 vo 7 (.load 9 false 1 (.t 6)),
 vo 8 (.len true 9 (.t 7)),
 vo 9 (.bin false .sub 3 (.t 5) (.t 8)),
 vo 1 (.asg (.t 9))])
 (.seq
 (.seq
 (.region false [1, 11] [
 vo 10 (.mov (.t 1)),
 vo 11 (.bin false .lss 3 (.t 10) (.c (.int .i64 0)))])
 (.cond (.t 11)
 (.seq
 (.region false [4] [
 vo 4 (.asg (.c (.int .i64 (-1))))])
 .ret)
 .skip))
 (.seq
 (.region false [4] [
 vo 12 (.mov (.t 1)),
 vo 4 (.asg (.t 12))])
 .ret))))
 modes:=[.lend,.lend]
 rets:=[⟨4,none⟩]}

/-- loop.example/g00539/laws.szReward -/
def v123 : VFun := {
 code:=
 (.seq
 (.region false [1, 2] [
 vo 2 (.box 162 (.t 0)),
 vo 4 (.asg (.c (.int .i64 0)))])
 (.seq
 (.region false [1] [
 vo 5 (.fa 162 3 3 1 (.t 2)),
 vo 6 (.load 63 false 1 (.t 5)),
 vo 7 (.mov (.t 1)),
 vo 8 (.call 76 [(.t 6),(.t 7)]),
 vo 1 (.asg (.t 8))])
 (.seq
 (.seq
 (.region false [1, 10] [
 vo 9 (.mov (.t 1)),
 vo 10 (.bin false .lss 3 (.t 9) (.c (.int .i64 0)))])
 (.cond (.t 10)
 (.seq
 (.region false [4] [
 vo 4 (.asg (.c (.int .i64 (-1))))])
 .ret)
 .skip))
 (.seq
 (.region false [4] [
 vo 11 (.mov (.t 1)),
 vo 4 (.asg (.t 11))])
 .ret))))
 modes:=[.lend,.lend]
 rets:=[⟨4,none⟩]}

def b124_0:VC:=
 (.seq
 (.seq
 (.region false [0, 1, 5, 9] [
 vo 6 (.mov (.t 5)),
 vo 7 (.mov (.t 0)),
 vo 8 (.len false 25 (.t 7)),
 vo 9 (.bin false .lss 3 (.t 6) (.t 8))])
 (.cond (.t 9)
 .skip
 (.exit 0)))
 (.seq
 (.block 1
 (.seq
 (.region false [0, 1, 5, 18] [
 vo 12 (.mov (.t 0)),
 vo 13 (.mov (.t 5)),
 vo 14 (.ia 25 96 5 (.t 12) (.t 13)),
 vo 15 (.fa 96 0 0 1 (.t 14)),
 vo 16 (.load 2 false 1 (.t 15)),
 vo 17 (.mov (.t 1)),
 vo 18 (.bin false .eql 2 (.t 16) (.t 17))])
 (.cond (.t 18)
 (.seq
 (.region false [4] [
 vo 19 (.mov (.t 5)),
 vo 4 (.asg (.t 19))])
 .ret)
 .skip)))
 (.region false [0, 1, 5] [
 vo 10 (.mov (.t 5)),
 vo 11 (.bin false .add 3 (.t 10) (.c (.int .i64 1))),
 vo 5 (.asg (.t 11))])))
def l124_0:VC:=.loop b124_0
/-- loop.example/g00539/spec.l14Find -/
def v124 : VFun := {
 code:=
 (.seq
 (.region false [0, 1] [
 vo 4 (.asg (.c (.int .i64 0)))])
 (.seq
 (.seq
 (.region false [0, 1, 5] [
 vo 5 (.asg (.c (.int .i64 0)))])
 (.block 0
 l124_0))
 (.seq
 (.region false [4] [
 vo 4 (.asg (.c (.int .i64 (-1))))])
 .ret)))
 modes:=[.lend,.lend]
 rets:=[⟨4,none⟩]}

def b125_1:VC:=
 (.seq
 (.seq
 (.region false [6, 9, 11, 48, 55] [
 vo 52 (.mov (.t 9)),
 vo 53 (.mov (.t 6)),
 vo 54 (.len false 24 (.t 53)),
 vo 55 (.bin false .lss 3 (.t 52) (.t 54))])
 (.cond (.t 55)
 .skip
 (.exit 2)))
 (.seq
 (.block 3
 (.seq
 (.region false [6, 9, 11, 48, 64] [
 vo 58 (.mov (.t 6)),
 vo 59 (.mov (.t 9)),
 vo 60 (.ia 24 34 2 (.t 58) (.t 59)),
 vo 61 (.fa 34 1 1 1 (.t 60)),
 vo 62 (.load 2 false 1 (.t 61)),
 vo 63 (.call 101 [(.t 62)]),
 vo 64 (.un .not (.t 63))])
 (.cond (.t 64)
 (.seq
 (.region false [4, 5, 6, 11, 48] [
 vo 4 (.asg (.n 2)),
 vo 5 (.asg (.c (.int .i64 7)))])
 .ret)
 .skip)))
 (.region false [6, 9, 11, 48] [
 vo 56 (.mov (.t 9)),
 vo 57 (.bin false .add 3 (.t 56) (.c (.int .i64 1))),
 vo 9 (.asg (.t 57))])))
def l125_1:VC:=.loop b125_1
def b125_0:VC:=
 (.seq
 (.seq
 (.region false [1, 6, 7, 11, 15, 48] [
 vo 12 (.mov (.t 7)),
 vo 13 (.mov (.t 1)),
 vo 14 (.len false 24 (.t 13)),
 vo 15 (.bin false .lss 3 (.t 12) (.t 14))])
 (.cond (.t 15)
 .skip
 (.exit 0)))
 (.seq
 (.block 1
 (.seq
 (.region false [1, 6, 7, 8, 11, 48] [
 vo 18 (.mov (.t 6)),
 vo 19 (.mov (.t 1)),
 vo 20 (.mov (.t 7)),
 vo 21 (.ia 24 34 2 (.t 19) (.t 20)),
 vo 22 (.fa 34 0 0 1 (.t 21)),
 vo 23 (.load 9 false 1 (.t 22)),
 vo 24 (.call 60 [(.t 18),(.t 23)]),
 vo 8 (.asg (.t 24))])
 (.seq
 (.region false [1, 6, 7, 8, 11, 26, 48] [
 vo 25 (.mov (.t 8)),
 vo 26 (.bin false .geq 3 (.t 25) (.c (.int .i64 0)))])
 (.cond (.t 26)
 (.region true [1, 6, 7, 11, 48] [
 vo 27 (.mov (.t 6)),
 ⟨some 28,.mov (.t 8),none,[0]⟩,
 ⟨some 29,.mov (.t 6),none,[0,1]⟩,
 ⟨some 30,.mov (.t 8),none,[0,1,2]⟩,
 ⟨some 31,.ia 24 34 2 (.t 29) (.t 30),none,[0,1]⟩,
 ⟨some 32,.fa 34 1 1 1 (.t 31),none,[0,1]⟩,
 ⟨some 33,.load 2 false 1 (.t 32),none,[0,1]⟩,
 ⟨some 34,.mov (.t 1),none,[0,1,2,3,4,5,6]⟩,
 ⟨some 35,.mov (.t 7),none,[0,1,2,3,4,5,6,7]⟩,
 ⟨some 36,.ia 24 34 2 (.t 34) (.t 35),none,[0,1,2,3,4,5,6]⟩,
 ⟨some 37,.fa 34 1 1 1 (.t 36),none,[0,1,2,3,4,5,6]⟩,
 ⟨some 38,.load 2 false 1 (.t 37),none,[0,1,2,3,4,5,6]⟩,
 ⟨some 39,.bin false .add 2 (.t 33) (.t 38),none,[0,1]⟩,
 vo 40 (.ia 24 34 2 (.t 27) (.t 28)),
 vo 41 (.fa 34 1 1 1 (.t 40)),
 vn (.store 2 1 (.t 41) (.t 39))])
 (.region false [1, 6, 7, 11, 48] [
 vo 42 (.mov (.t 6)),
 vo 43 (.mov (.t 1)),
 vo 44 (.mov (.t 7)),
 vo 45 (.ia 24 34 2 (.t 43) (.t 44)),
 vo 46 (.load 34 true 2 (.t 45)),
 vo 47 (.lit 24 34 2 1 [(.val (.string (⟨#[]⟩:ByteArray))),(.val (.int .i64 0))] [(0,(.t 46))]),
 vo 48 (.app 24 34 2 24 (.t 42) (.t 47)),
 vo 6 (.asg (.t 48))])))))
 (.region false [1, 6, 7, 11, 48] [
 vo 16 (.mov (.t 7)),
 vo 17 (.bin false .add 3 (.t 16) (.c (.int .i64 1))),
 vo 7 (.asg (.t 17))])))
def l125_0:VC:=.loop b125_0
/-- loop.example/g00539/spec.l14Add -/
def v125 : VFun := {
 code:=
 (.seq
 (.region false [0, 1] [
 vo 4 (.asg (.n 2)),
 vo 5 (.asg (.c (.int .i64 0)))])
 (.seq
 (.region false [1, 6, 11, 48] [
 vo 10 (.mov (.t 0)),
 vo 11 (.call 137 [(.t 10)]),
 vo 6 (.asg (.t 11))])
 (.seq
 (.seq
 (.region false [1, 6, 7, 11, 48] [
 vo 7 (.asg (.c (.int .i64 0)))])
 (.block 0
 l125_0))
 (.seq
 (.seq
 (.region false [6, 11, 48, 51] [
 vo 49 (.mov (.t 6)),
 vo 50 (.len false 24 (.t 49)),
 vo 51 (.bin false .gtr 3 (.t 50) (.c (.int .i64 8)))])
 (.cond (.t 51)
 (.seq
 (.region false [4, 5, 6, 11, 48] [
 vo 4 (.asg (.n 2)),
 vo 5 (.asg (.c (.int .i64 10)))])
 .ret)
 .skip))
 (.seq
 (.seq
 (.region false [6, 9, 11, 48] [
 vo 9 (.asg (.c (.int .i64 0)))])
 (.block 2
 l125_1))
 (.seq
 (.region false [4, 5, 6, 11, 48] [
 vo 65 (.mov (.t 6)),
 vo 4 (.asg (.t 65)),
 vo 5 (.asg (.c (.int .i64 0)))])
 .ret))))))
 modes:=[.lend,.lend]
 rets:=[⟨4,none⟩,⟨5,none⟩]}

/-- loop.example/g00539/laws.toWeight -/
def v126 : VFun := {
 code:=
 (.seq
 (.region false [1, 2] [
 vo 1 (.box 159 (.t 0)),
 vo 2 (.alloc 34 [(.val (.string (⟨#[]⟩:ByteArray))),(.val (.int .i64 0))])])
 (.seq
 (.region false [1, 2, 3] [
 vo 3 (.alloc 34 [(.val (.string (⟨#[]⟩:ByteArray))),(.val (.int .i64 0))])])
 (.seq
 (.region false [1, 2, 3] [
 vo 4 (.fa 159 0 0 1 (.t 1)),
 vo 5 (.load 9 false 1 (.t 4)),
 vo 6 (.fa 34 0 0 1 (.t 3)),
 vn (.store 9 1 (.t 6) (.t 5))])
 (.seq
 (.region false [2, 3] [
 vo 7 (.fa 159 1 1 1 (.t 1)),
 vo 8 (.load 2 false 1 (.t 7)),
 vo 9 (.fa 34 1 1 1 (.t 3)),
 vn (.store 2 1 (.t 9) (.t 8))])
 (.seq
 (.region false [2] [
 vo 10 (.load 34 true 2 (.t 3)),
 vn (.store 34 2 (.t 2) (.t 10))])
 .ret)))))
 modes:=[.lend]
 rets:=[⟨2,some (true,2)⟩]}

/-- loop.example/g00539/laws.toReward -/
def v127 : VFun := {
 code:=
 (.seq
 (.region false [1, 2] [
 vo 1 (.box 162 (.t 0)),
 vo 2 (.alloc 96 [(.val (.int .i64 0)),(.val (.int .i64 0)),(.val (.int .i64 0)),(.nl 2),(.val (.int .i64 0))])])
 (.seq
 (.region false [1, 2, 3] [
 vo 3 (.alloc 96 [(.val (.int .i64 0)),(.val (.int .i64 0)),(.val (.int .i64 0)),(.nl 2),(.val (.int .i64 0))])])
 (.seq
 (.region false [1, 2, 3] [
 vo 4 (.fa 162 0 0 1 (.t 1)),
 vo 5 (.load 2 false 1 (.t 4)),
 vo 6 (.fa 96 0 0 1 (.t 3)),
 vn (.store 2 1 (.t 6) (.t 5))])
 (.seq
 (.region false [1, 2, 3] [
 vo 7 (.fa 162 1 1 1 (.t 1)),
 vo 8 (.load 2 false 1 (.t 7)),
 vo 9 (.fa 96 1 1 1 (.t 3)),
 vn (.store 2 1 (.t 9) (.t 8))])
 (.seq
 (.region false [1, 2, 3] [
 vo 10 (.fa 162 2 2 1 (.t 1)),
 vo 11 (.load 2 false 1 (.t 10)),
 vo 12 (.fa 96 2 2 1 (.t 3)),
 vn (.store 2 1 (.t 12) (.t 11))])
 (.seq
 (.region false [1, 2, 3] [
 vo 13 (.fa 162 3 3 1 (.t 1)),
 vo 14 (.load 63 false 1 (.t 13)),
 vo 15 (.call 79 [(.t 14)]),
 vo 16 (.fa 96 3 3 1 (.t 3)),
 vn (.store 24 1 (.t 16) (.t 15))])
 (.seq
 (.region false [2, 3] [
 vo 17 (.fa 162 4 4 1 (.t 1)),
 vo 18 (.load 2 false 1 (.t 17)),
 vo 19 (.fa 96 4 4 1 (.t 3)),
 vn (.store 2 1 (.t 19) (.t 18))])
 (.seq
 (.region false [2] [
 vo 20 (.load 96 true 5 (.t 3)),
 vn (.store 96 5 (.t 2) (.t 20))])
 .ret))))))))
 modes:=[.lend]
 rets:=[⟨2,some (true,5)⟩]}

def b128_0:VC:=
 (.seq
 (.region false [0, 1, 7, 8, 9] [
 vo 9 (.bin false .lss 3 (.t 8) (.t 7))])
 (.seq
 (.cond (.t 9)
 .skip
 (.exit 0))
 (.seq
 (.block 1
 (.seq
 (.region false [0, 1, 5, 7, 8] [
 vo 10 (.mov (.t 8)),
 vo 5 (.asg (.t 10))])
 (.seq
 (.region false [0, 1, 5, 7, 8, 16] [
 vo 11 (.mov (.t 1)),
 vo 12 (.mov (.t 0)),
 vo 13 (.mov (.t 5)),
 vo 14 (.ia 25 96 5 (.t 12) (.t 13)),
 vo 15 (.load 96 true 5 (.t 14)),
 vo 16 (.callv (.t 11) [(.t 15)])])
 (.cond (.t 16)
 (.seq
 (.region false [4] [
 vo 17 (.mov (.t 5)),
 vo 4 (.asg (.t 17))])
 .ret)
 .skip))))
 (.region false [0, 1, 7, 8] [
 vo 18 (.bin false .add 3 (.t 8) (.c (.int .i64 1))),
 vo 8 (.mov (.t 18))]))))
def l128_0:VC:=.loop b128_0
/-- slices.IndexFunc[[]loop.example/g00539/impl.Reward,loop.example/g00539/impl.Reward] -/
def v128 : VFun := {
 code:=
 (.seq
 (.region false [0, 1] [
 vo 4 (.asg (.c (.int .i64 0)))])
 (.seq
 (.seq
 (.region false [0, 1, 7, 8] [
 vo 6 (.mov (.t 0)),
 vo 7 (.len false 25 (.t 6)),
 vo 8 (.mov (.c (.int .i64 0)))])
 (.block 0
 l128_0))
 (.seq
 (.region false [4] [
 vo 4 (.asg (.c (.int .i64 (-1))))])
 .ret)))
 modes:=[.lend,.lend]
 rets:=[⟨4,none⟩]}

/-- loop.example/g00539/impl.rewardAt$1 -/
def v129 : VFun := {
 code:=
 (.seq
 (.region false [1, 2] [
 vo 2 (.box 96 (.t 0)),
 vo 3 (.asg (.c (.bool false)))])
 (.seq
 (.region false [3] [
 vo 4 (.fa 96 0 0 1 (.t 2)),
 vo 5 (.load 2 false 1 (.t 4)),
 vo 6 (.load 2 false 1 (.t 1)),
 vo 7 (.bin false .eql 2 (.t 5) (.t 6)),
 vo 3 (.asg (.t 7))])
 .ret))
 modes:=[.lend,.lend]
 rets:=[⟨3,none⟩]}

/-- loop.example/g00539/laws.eqWeight -/
def v130 : VFun := {
 code:=
 (.seq
 (.region false [2, 3] [
 vo 2 (.box 34 (.t 0)),
 vo 3 (.box 34 (.t 1)),
 vo 4 (.asg (.c (.bool false)))])
 (.seq
 (.seq
 (.region false [2, 3, 9] [
 vo 5 (.fa 34 0 0 1 (.t 2)),
 vo 6 (.load 9 false 1 (.t 5)),
 vo 7 (.fa 34 0 0 1 (.t 3)),
 vo 8 (.load 9 false 1 (.t 7)),
 vo 9 (.bin false .neq 9 (.t 6) (.t 8))])
 (.cond (.t 9)
 (.seq
 (.region false [4] [
 vo 4 (.asg (.c (.bool false)))])
 .ret)
 .skip))
 (.seq
 (.seq
 (.region false [14] [
 vo 10 (.fa 34 1 1 1 (.t 2)),
 vo 11 (.load 2 false 1 (.t 10)),
 vo 12 (.fa 34 1 1 1 (.t 3)),
 vo 13 (.load 2 false 1 (.t 12)),
 vo 14 (.bin false .neq 2 (.t 11) (.t 13))])
 (.cond (.t 14)
 (.seq
 (.region false [4] [
 vo 4 (.asg (.c (.bool false)))])
 .ret)
 .skip))
 (.seq
 (.region false [4] [
 vo 4 (.asg (.c (.bool true)))])
 .ret))))
 modes:=[.lend,.lend]
 rets:=[⟨4,none⟩]}

/-- loop.example/g00539/laws.eqReward -/
def v131 : VFun := {
 code:=
 (.seq
 (.region false [2, 3] [
 vo 2 (.box 96 (.t 0)),
 vo 3 (.box 96 (.t 1)),
 vo 4 (.asg (.c (.bool false)))])
 (.seq
 (.seq
 (.region false [2, 3, 9] [
 vo 5 (.fa 96 0 0 1 (.t 2)),
 vo 6 (.load 2 false 1 (.t 5)),
 vo 7 (.fa 96 0 0 1 (.t 3)),
 vo 8 (.load 2 false 1 (.t 7)),
 vo 9 (.bin false .neq 2 (.t 6) (.t 8))])
 (.cond (.t 9)
 (.seq
 (.region false [4] [
 vo 4 (.asg (.c (.bool false)))])
 .ret)
 .skip))
 (.seq
 (.seq
 (.region false [2, 3, 14] [
 vo 10 (.fa 96 1 1 1 (.t 2)),
 vo 11 (.load 2 false 1 (.t 10)),
 vo 12 (.fa 96 1 1 1 (.t 3)),
 vo 13 (.load 2 false 1 (.t 12)),
 vo 14 (.bin false .neq 2 (.t 11) (.t 13))])
 (.cond (.t 14)
 (.seq
 (.region false [4] [
 vo 4 (.asg (.c (.bool false)))])
 .ret)
 .skip))
 (.seq
 (.seq
 (.region false [2, 3, 19] [
 vo 15 (.fa 96 2 2 1 (.t 2)),
 vo 16 (.load 2 false 1 (.t 15)),
 vo 17 (.fa 96 2 2 1 (.t 3)),
 vo 18 (.load 2 false 1 (.t 17)),
 vo 19 (.bin false .neq 2 (.t 16) (.t 18))])
 (.cond (.t 19)
 (.seq
 (.region false [4] [
 vo 4 (.asg (.c (.bool false)))])
 .ret)
 .skip))
 (.seq
 (.seq
 (.region false [2, 3, 25] [
 vo 20 (.fa 96 3 3 1 (.t 2)),
 vo 21 (.load 24 false 1 (.t 20)),
 vo 22 (.fa 96 3 3 1 (.t 3)),
 vo 23 (.load 24 false 1 (.t 22)),
 vo 24 (.call 84 [(.t 21),(.t 23)]),
 vo 25 (.un .not (.t 24))])
 (.cond (.t 25)
 (.seq
 (.region false [4] [
 vo 4 (.asg (.c (.bool false)))])
 .ret)
 .skip))
 (.seq
 (.seq
 (.region false [30] [
 vo 26 (.fa 96 4 4 1 (.t 2)),
 vo 27 (.load 2 false 1 (.t 26)),
 vo 28 (.fa 96 4 4 1 (.t 3)),
 vo 29 (.load 2 false 1 (.t 28)),
 vo 30 (.bin false .neq 2 (.t 27) (.t 29))])
 (.cond (.t 30)
 (.seq
 (.region false [4] [
 vo 4 (.asg (.c (.bool false)))])
 .ret)
 .skip))
 (.seq
 (.region false [4] [
 vo 4 (.asg (.c (.bool true)))])
 .ret)))))))
 modes:=[.lend,.lend]
 rets:=[⟨4,none⟩]}

def b132_0:VC:=
 (.seq
 (.seq
 (.region false [0, 3, 7] [
 vo 6 (.mov (.t 0)),
 vo 7 (.bin false .gtr 3 (.t 6) (.c (.int .i64 0)))])
 (.cond (.t 7)
 .skip
 (.exit 0)))
 (.block 1
 (.seq
 (.region false [0, 3] [
 vo 8 (.mov (.t 0)),
 vo 9 (.bin false .rem 3 (.t 8) (.c (.int .i64 10))),
 vo 10 (.bin false .add 3 (.c (.int .i64 48)) (.t 9)),
 vo 11 (.conv 3 5 .u8 (.t 10)),
 vo 12 (.lit 22 5 1 1 [(.val (.int .u8 0))] [(0,(.t 11))]),
 vo 13 (.b2s 22 9 (.t 12)),
 vo 14 (.mov (.t 3)),
 vo 15 (.bin false .add 9 (.t 13) (.t 14)),
 vo 3 (.asg (.t 15))])
 (.region false [0, 3] [
 vo 16 (.mov (.t 0)),
 vo 17 (.bin false .quo 3 (.t 16) (.c (.int .i64 10))),
 vo 0 (.asg (.t 17))]))))
def l132_0:VC:=.loop b132_0
/-- loop.example/g00539/laws.markText -/
def v132 : VFun := {
 code:=
 (.seq
 (.region false [0] [
 vo 2 (.asg (.c (.string (⟨#[]⟩:ByteArray))))])
 (.seq
 (.seq
 (.region false [0, 5] [
 vo 4 (.mov (.t 0)),
 vo 5 (.bin false .leq 3 (.t 4) (.c (.int .i64 0)))])
 (.cond (.t 5)
 (.seq
 (.region false [2] [
 vo 2 (.asg (.c (.string (⟨#[109,48]⟩:ByteArray))))])
 .ret)
 .skip))
 (.seq
 (.region false [0, 3] [
 vo 3 (.asg (.c (.string (⟨#[]⟩:ByteArray))))])
 (.seq
 (.block 0
 l132_0)
 (.seq
 (.region false [2] [
 vo 18 (.mov (.t 3)),
 vo 19 (.bin false .add 9 (.c (.string (⟨#[109]⟩:ByteArray))) (.t 18)),
 vo 2 (.asg (.t 19))])
 .ret)))))
 modes:=[.lend]
 rets:=[⟨2,none⟩]}

def b133_0:VC:=
 (.seq
 (.seq
 (.region false [0, 1, 5, 9] [
 vo 6 (.mov (.t 5)),
 vo 7 (.mov (.t 0)),
 vo 8 (.len false 24 (.t 7)),
 vo 9 (.bin false .lss 3 (.t 6) (.t 8))])
 (.cond (.t 9)
 .skip
 (.exit 0)))
 (.seq
 (.block 1
 (.seq
 (.seq
 (.region true [0, 1, 5, 19] [
 vo 12 (.mov (.t 0)),
 ⟨some 13,.mov (.t 5),none,[0]⟩,
 vo 14 (.ia 24 34 2 (.t 12) (.t 13)),
 vo 15 (.fa 34 0 0 1 (.t 14)),
 vo 16 (.load 9 false 1 (.t 15)),
 ⟨some 17,.mov (.t 1),none,[0,1,2,3,4]⟩,
 ⟨some 18,.call 132 [(.t 17)],none,[0,1,2,3,4]⟩,
 vo 19 (.bin false .neq 9 (.t 16) (.t 18))])
 (.cond (.t 19)
 (.seq
 (.region false [4] [
 vo 4 (.asg (.c (.int .i64 (-1))))])
 .ret)
 .skip))
 (.seq
 (.region false [0, 1, 5] [
 vo 20 (.mov (.t 1)),
 vo 21 (.bin false .add 3 (.t 20) (.c (.int .i64 1))),
 vo 1 (.asg (.t 21))])
 (.seq
 (.seq
 (.region false [0, 1, 5, 28] [
 vo 22 (.mov (.t 0)),
 vo 23 (.mov (.t 5)),
 vo 24 (.ia 24 34 2 (.t 22) (.t 23)),
 vo 25 (.fa 34 1 1 1 (.t 24)),
 vo 26 (.load 2 false 1 (.t 25)),
 vo 27 (.mov (.t 1)),
 vo 28 (.bin false .neq 2 (.t 26) (.t 27))])
 (.cond (.t 28)
 (.seq
 (.region false [4] [
 vo 4 (.asg (.c (.int .i64 (-1))))])
 .ret)
 .skip))
 (.region false [0, 1, 5] [
 vo 29 (.mov (.t 1)),
 vo 30 (.bin false .add 3 (.t 29) (.c (.int .i64 1))),
 vo 1 (.asg (.t 30))])))))
 (.region false [0, 1, 5] [
 vo 10 (.mov (.t 5)),
 vo 11 (.bin false .add 3 (.t 10) (.c (.int .i64 1))),
 vo 5 (.asg (.t 11))])))
def l133_0:VC:=.loop b133_0
/-- loop.example/g00539/laws.heldWeightS -/
def v133 : VFun := {
 code:=
 (.seq
 (.region false [0, 1] [
 vo 4 (.asg (.c (.int .i64 0)))])
 (.seq
 (.seq
 (.region false [0, 1, 5] [
 vo 5 (.asg (.c (.int .i64 0)))])
 (.block 0
 l133_0))
 (.seq
 (.region false [4] [
 vo 31 (.mov (.t 1)),
 vo 4 (.asg (.t 31))])
 .ret)))
 modes:=[.lend,.lend]
 rets:=[⟨4,none⟩]}

def b134_0:VC:=
 (.seq
 (.seq
 (.region false [0, 1, 5, 9] [
 vo 6 (.mov (.t 5)),
 vo 7 (.mov (.t 0)),
 vo 8 (.len false 25 (.t 7)),
 vo 9 (.bin false .lss 3 (.t 6) (.t 8))])
 (.cond (.t 9)
 .skip
 (.exit 0)))
 (.seq
 (.block 1
 (.seq
 (.seq
 (.region false [0, 1, 5, 18] [
 vo 12 (.mov (.t 0)),
 vo 13 (.mov (.t 5)),
 vo 14 (.ia 25 96 5 (.t 12) (.t 13)),
 vo 15 (.fa 96 0 0 1 (.t 14)),
 vo 16 (.load 2 false 1 (.t 15)),
 vo 17 (.mov (.t 1)),
 vo 18 (.bin false .neq 2 (.t 16) (.t 17))])
 (.cond (.t 18)
 (.seq
 (.region false [4] [
 vo 4 (.asg (.c (.int .i64 (-1))))])
 .ret)
 .skip))
 (.seq
 (.region false [0, 1, 5] [
 vo 19 (.mov (.t 1)),
 vo 20 (.bin false .add 3 (.t 19) (.c (.int .i64 1))),
 vo 1 (.asg (.t 20))])
 (.seq
 (.seq
 (.region false [0, 1, 5, 27] [
 vo 21 (.mov (.t 0)),
 vo 22 (.mov (.t 5)),
 vo 23 (.ia 25 96 5 (.t 21) (.t 22)),
 vo 24 (.fa 96 1 1 1 (.t 23)),
 vo 25 (.load 2 false 1 (.t 24)),
 vo 26 (.mov (.t 1)),
 vo 27 (.bin false .neq 2 (.t 25) (.t 26))])
 (.cond (.t 27)
 (.seq
 (.region false [4] [
 vo 4 (.asg (.c (.int .i64 (-1))))])
 .ret)
 .skip))
 (.seq
 (.region false [0, 1, 5] [
 vo 28 (.mov (.t 1)),
 vo 29 (.bin false .add 3 (.t 28) (.c (.int .i64 1))),
 vo 1 (.asg (.t 29))])
 (.seq
 (.seq
 (.region false [0, 1, 5, 36] [
 vo 30 (.mov (.t 0)),
 vo 31 (.mov (.t 5)),
 vo 32 (.ia 25 96 5 (.t 30) (.t 31)),
 vo 33 (.fa 96 2 2 1 (.t 32)),
 vo 34 (.load 2 false 1 (.t 33)),
 vo 35 (.mov (.t 1)),
 vo 36 (.bin false .neq 2 (.t 34) (.t 35))])
 (.cond (.t 36)
 (.seq
 (.region false [4] [
 vo 4 (.asg (.c (.int .i64 (-1))))])
 .ret)
 .skip))
 (.seq
 (.region false [0, 1, 5] [
 vo 37 (.mov (.t 1)),
 vo 38 (.bin false .add 3 (.t 37) (.c (.int .i64 1))),
 vo 1 (.asg (.t 38))])
 (.seq
 (.region false [0, 1, 5] [
 vo 39 (.mov (.t 0)),
 vo 40 (.mov (.t 5)),
 vo 41 (.ia 25 96 5 (.t 39) (.t 40)),
 vo 42 (.fa 96 3 3 1 (.t 41)),
 vo 43 (.load 24 false 1 (.t 42)),
 vo 44 (.mov (.t 1)),
 vo 45 (.call 133 [(.t 43),(.t 44)]),
 vo 1 (.asg (.t 45))])
 (.seq
 (.seq
 (.region false [0, 1, 5, 47] [
 vo 46 (.mov (.t 1)),
 vo 47 (.bin false .lss 3 (.t 46) (.c (.int .i64 0)))])
 (.cond (.t 47)
 (.seq
 (.region false [4] [
 vo 4 (.asg (.c (.int .i64 (-1))))])
 .ret)
 .skip))
 (.seq
 (.seq
 (.region false [0, 1, 5, 54] [
 vo 48 (.mov (.t 0)),
 vo 49 (.mov (.t 5)),
 vo 50 (.ia 25 96 5 (.t 48) (.t 49)),
 vo 51 (.fa 96 4 4 1 (.t 50)),
 vo 52 (.load 2 false 1 (.t 51)),
 vo 53 (.mov (.t 1)),
 vo 54 (.bin false .neq 2 (.t 52) (.t 53))])
 (.cond (.t 54)
 (.seq
 (.region false [4] [
 vo 4 (.asg (.c (.int .i64 (-1))))])
 .ret)
 .skip))
 (.region false [0, 1, 5] [
 vo 55 (.mov (.t 1)),
 vo 56 (.bin false .add 3 (.t 55) (.c (.int .i64 1))),
 vo 1 (.asg (.t 56))])))))))))))
 (.region false [0, 1, 5] [
 vo 10 (.mov (.t 5)),
 vo 11 (.bin false .add 3 (.t 10) (.c (.int .i64 1))),
 vo 5 (.asg (.t 11))])))
def l134_0:VC:=.loop b134_0
/-- loop.example/g00539/laws.heldRewardS -/
def v134 : VFun := {
 code:=
 (.seq
 (.region false [0, 1] [
 vo 4 (.asg (.c (.int .i64 0)))])
 (.seq
 (.seq
 (.region false [0, 1, 5] [
 vo 5 (.asg (.c (.int .i64 0)))])
 (.block 0
 l134_0))
 (.seq
 (.region false [4] [
 vo 57 (.mov (.t 1)),
 vo 4 (.asg (.t 57))])
 .ret)))
 modes:=[.lend,.lend]
 rets:=[⟨4,none⟩]}

/-- loop.example/g00539/spec.l14Weights -/
def v137 : VFun := {
 code:=
 (.seq
 (.region false [0] [
 vo 2 (.asg (.n 2))])
 (.seq
 (.region false [2, 5] [
 vo 3 (.lit 24 34 2 0 [(.val (.string (⟨#[]⟩:ByteArray))),(.val (.int .i64 0))] []),
 vo 4 (.mov (.t 0)),
 vo 5 (.app 24 34 2 24 (.t 3) (.t 4)),
 vo 2 (.asg (.t 5))])
 .ret))
 modes:=[.lend]
 rets:=[⟨2,none⟩]}

/-- loop.example/g00539/spec.l9Letter -/
def v140 : VFun := {
 code:=
 (.seq
 (.region false [0] [
 vo 2 (.asg (.c (.bool false)))])
 (.seq
 (.region false [2] [
 vo 3 (.mov (.t 0)),
 vo 4 (.bin false .geq 5 (.t 3) (.c (.int .u8 97))),
 vo 5 (.mov (.t 4)),
 ⟨some 6,.mov (.t 0),some (5,true),[]⟩,
 ⟨some 7,.bin false .leq 5 (.t 6) (.c (.int .u8 122)),some (5,true),[]⟩,
 vo 8 (.pick (.t 5) (.t 7) (.c (.bool false))),
 vo 9 (.mov (.t 8)),
 ⟨some 10,.mov (.t 0),some (9,false),[]⟩,
 ⟨some 11,.bin false .geq 5 (.t 10) (.c (.int .u8 65)),some (9,false),[]⟩,
 ⟨some 12,.mov (.t 11),some (9,false),[]⟩,
 ⟨some 13,.mov (.t 0),some (12,true),[]⟩,
 ⟨some 14,.bin false .leq 5 (.t 13) (.c (.int .u8 90)),some (12,true),[]⟩,
 ⟨some 15,.pick (.t 12) (.t 14) (.c (.bool false)),some (9,false),[]⟩,
 vo 16 (.pick (.t 9) (.c (.bool true)) (.t 15)),
 vo 17 (.mov (.t 16)),
 ⟨some 18,.mov (.t 0),some (17,false),[]⟩,
 ⟨some 19,.bin false .geq 5 (.t 18) (.c (.int .u8 48)),some (17,false),[]⟩,
 ⟨some 20,.mov (.t 19),some (17,false),[]⟩,
 ⟨some 21,.mov (.t 0),some (20,true),[]⟩,
 ⟨some 22,.bin false .leq 5 (.t 21) (.c (.int .u8 57)),some (20,true),[]⟩,
 ⟨some 23,.pick (.t 20) (.t 22) (.c (.bool false)),some (17,false),[]⟩,
 vo 24 (.pick (.t 17) (.c (.bool true)) (.t 23)),
 vo 2 (.asg (.t 24))])
 .ret))
 modes:=[.lend]
 rets:=[⟨2,none⟩]}

def tab:List (Nat × VFun):=[(5,v5),(13,v13),(29,v29),(30,v30),(31,v31),(32,v32),(33,v33),(34,v34),(35,v35),(36,v36),(37,v37),(42,v42),(45,v45),(46,v46),(47,v47),(51,v51),(52,v52),(54,v54),(55,v55),(56,v56),(57,v57),(58,v58),(59,v59),(60,v60),(71,v71),(72,v72),(76,v76),(77,v77),(78,v78),(79,v79),(80,v80),(81,v81),(82,v82),(83,v83),(84,v84),(85,v85),(86,v86),(87,v87),(88,v88),(91,v91),(92,v92),(93,v93),(95,v95),(96,v96),(97,v97),(98,v98),(99,v99),(100,v100),(101,v101),(102,v102),(103,v103),(105,v105),(115,v115),(116,v116),(119,v119),(122,v122),(123,v123),(124,v124),(125,v125),(126,v126),(127,v127),(128,v128),(129,v129),(130,v130),(131,v131),(132,v132),(133,v133),(134,v134),(137,v137),(140,v140)]
def F (f:FuncId):Option VFun:=getA none (tab.map fun x=>(x.1,some x.2)) f
theorem tab_ok:tab.all (fun x=>matchFun Tryd.prog x.1 x.2)=true:=by kernel_rfl
theorem F_mem {f:FuncId} {fn:VFun}:∀ {l:List (Nat × VFun)},getA none (l.map fun x=>(x.1,some x.2)) f=some fn→(f,fn)∈l
  |[],h=>by simp[getA] at h
  |(k,v)::l,h=>by
    simp only[List.map_cons,getA] at h
    split at h
    · rename_i e
      injection h with h
      subst e; subst h
      exact List.mem_cons_self ..
    · exact List.mem_cons_of_mem _ (F_mem h)
theorem F_ok (f:FuncId) (fn:VFun) (h:F f=some fn):matchFun Tryd.prog f fn=true:=List.all_eq_true.1 tab_ok _ (F_mem h)
end Go.Proofs.YtihjlmgakpgkeaaDoor.RipenReward
