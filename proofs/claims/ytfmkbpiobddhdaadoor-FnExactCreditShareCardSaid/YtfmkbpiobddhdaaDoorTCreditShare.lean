/- V's text of the functions that this law reaches. -/
import Derived.Test.YtfmkbpiobddhdaaDoorVCode
import Derived.Test.YtfmkbpiobddhdaaDoorRows
import Derived.KernelRfl
namespace Go.Proofs.YtfmkbpiobddhdaaDoor.CreditShare
open Go Go.Proofs.YtfmkbpiobddhdaaDoor.V
set_option maxRecDepth 20000
def vo (d : Nat) (x : VOp) : VO := ⟨some d, x, none, []⟩
def vn (x : VOp) : VO := ⟨none, x, none, []⟩

/-- loop.example/g00539/laws.FnExactCreditShare -/
def v5 : VFun := {
 code :=
 (.seq
 (.region false [2, 3] [
 vo 2 (.box 25 (.t 0)),
 vo 3 (.box 41 (.t 1)),
 vo 4 (.asg (.c (.bool false)))])
 (.seq
 (.region false [2, 3, 5] [
 vo 5 (.asg (.c (.int .i64 1048576)))])
 (.seq
 (.region false [2, 3, 5] [
 vo 13 (.load 25 true 8 (.t 2)),
 vo 14 (.mov (.t 5)),
 vo 15 (.call 14 [(.t 13), (.t 14)]),
 vo 5 (.asg (.t 15))])
 (.seq
 (.seq
 (.region false [2, 3, 5, 17] [
 vo 16 (.mov (.t 5)),
 vo 17 (.bin false .lss 3 (.t 16) (.c (.int .i64 0)))])
 (.cond (.t 17)
 (.seq
 (.region false [4] [
 vo 4 (.asg (.c (.bool true)))])
 .ret)
 .skip))
 (.seq
 (.region false [2, 3, 5] [
 vo 18 (.load 41 true 2 (.t 3)),
 vo 19 (.mov (.t 5)),
 vo 20 (.call 22 [(.t 18), (.t 19)]),
 vo 5 (.asg (.t 20))])
 (.seq
 (.seq
 (.region false [2, 3, 22] [
 vo 21 (.mov (.t 5)),
 vo 22 (.bin false .lss 3 (.t 21) (.c (.int .i64 0)))])
 (.cond (.t 22)
 (.seq
 (.region false [4] [
 vo 4 (.asg (.c (.bool true)))])
 .ret)
 .skip))
 (.seq
 (.region true [2, 3, 6] [
 vo 23 (.load 25 true 8 (.t 2)),
 vo 24 (.call 16 [(.t 23)]),
 ⟨some 25, .load 41 true 2 (.t 3), none, [0, 1]⟩,
 vo 26 (.call 24 [(.t 25)]),
 vo 27 (.call 23 [(.t 24), (.t 26)]),
 ⟨some 6, .alloc 44 [(.val (.int .i64 0)), (.val (.int .i64 0)), (.val (.int .i64 0)), (.val (.int .i64 0)), (.nl 2), (.nl 5), (.nl 2), (.val (.int .i64 0)), (.val (.int .i64 0)), (.val (.int .i64 0))], none, [0, 1, 2, 3, 4]⟩,
 vn (.store 44 10 (.t 6) (.t 27))])
 (.seq
 (.region false [2, 3, 6, 7] [
 vo 28 (.load 25 true 8 (.t 2)),
 vo 29 (.call 16 [(.t 28)]),
 vo 7 (.alloc 31 [(.val (.int .i64 0)), (.val (.int .i64 0)), (.nl 2), (.nl 5), (.nl 2), (.val (.int .i64 0)), (.val (.int .i64 0)), (.val (.int .i64 0))]),
 vn (.store 31 8 (.t 7) (.t 29))])
 (.seq
 (.region true [2, 3, 6, 7, 8] [
 vo 30 (.load 31 true 8 (.t 7)),
 ⟨some 31, .load 41 true 2 (.t 3), none, [0]⟩,
 ⟨some 32, .call 24 [(.t 31)], none, [0]⟩,
 vo 33 (.call 25 [(.t 30), (.t 32)]),
 ⟨some 8, .alloc 44 [(.val (.int .i64 0)), (.val (.int .i64 0)), (.val (.int .i64 0)), (.val (.int .i64 0)), (.nl 2), (.nl 5), (.nl 2), (.val (.int .i64 0)), (.val (.int .i64 0)), (.val (.int .i64 0))], none, [0, 1, 2, 3]⟩,
 vn (.store 44 10 (.t 8) (.t 33))])
 (.seq
 (.seq
 (.region false [2, 3, 6, 7, 8, 37] [
 vo 34 (.load 44 true 10 (.t 8)),
 vo 35 (.load 44 true 10 (.t 6)),
 vo 36 (.call 26 [(.t 34), (.t 35)]),
 vo 37 (.un .not (.t 36))])
 (.cond (.t 37)
 (.seq
 (.region false [4] [
 vo 4 (.asg (.c (.bool false)))])
 .ret)
 .skip))
 (.seq
 (.seq
 (.region true [2, 3, 6, 7, 8, 42] [
 vo 38 (.load 31 true 8 (.t 7)),
 ⟨some 39, .load 25 true 8 (.t 2), none, [0]⟩,
 ⟨some 40, .call 16 [(.t 39)], none, [0]⟩,
 vo 41 (.call 18 [(.t 38), (.t 40)]),
 vo 42 (.un .not (.t 41))])
 (.cond (.t 42)
 (.seq
 (.region false [4] [
 vo 4 (.asg (.c (.bool false)))])
 .ret)
 .skip))
 (.seq
 (.region false [2, 3, 6, 7, 8, 9] [
 vo 9 (.asg (.c (.int .i64 1)))])
 (.seq
 (.region false [2, 3, 6, 8, 9] [
 vo 43 (.load 31 true 8 (.t 7)),
 vo 44 (.mov (.t 9)),
 vo 45 (.call 27 [(.t 43), (.t 44)]),
 vo 9 (.asg (.t 45))])
 (.seq
 (.seq
 (.region false [2, 3, 6, 8, 53] [
 vo 46 (.mov (.t 9)),
 vo 47 (.bin false .lss 3 (.t 46) (.c (.int .i64 0))),
 vo 48 (.mov (.t 47)),
 ⟨some 49, .load 44 true 10 (.t 8), some (48, false), []⟩,
 ⟨some 50, .load 44 true 10 (.t 6), some (48, false), []⟩,
 ⟨some 51, .call 26 [(.t 49), (.t 50)], some (48, false), []⟩,
 ⟨some 52, .un .not (.t 51), some (48, false), []⟩,
 vo 53 (.pick (.t 48) (.c (.bool true)) (.t 52))])
 (.cond (.t 53)
 (.seq
 (.region false [4] [
 vo 4 (.asg (.c (.bool false)))])
 .ret)
 .skip))
 (.seq
 (.region false [2, 3, 6, 8, 10] [
 vo 10 (.asg (.c (.int .i64 1)))])
 (.seq
 (.region false [2, 3, 6, 8, 10] [
 vo 54 (.load 44 true 10 (.t 8)),
 vo 55 (.mov (.t 10)),
 vo 56 (.call 28 [(.t 54), (.t 55)]),
 vo 10 (.asg (.t 56))])
 (.seq
 (.region false [2, 3, 6, 8, 10, 11] [
 vo 11 (.asg (.c (.int .i64 1)))])
 (.seq
 (.region false [2, 3, 6, 8, 10, 11] [
 vo 57 (.load 44 true 10 (.t 8)),
 vo 58 (.mov (.t 11)),
 vo 59 (.call 29 [(.t 57), (.t 58)]),
 vo 11 (.asg (.t 59))])
 (.seq
 (.seq
 (.region false [2, 3, 6, 8, 10, 11, 61] [
 vo 60 (.mov (.t 11)),
 vo 61 (.bin false .lss 3 (.t 60) (.c (.int .i64 0)))])
 (.cond (.t 61)
 (.seq
 (.region false [4] [
 vo 4 (.asg (.c (.bool false)))])
 .ret)
 .skip))
 (.seq
 (.seq
 (.region false [2, 3, 6, 8, 10, 64] [
 vo 62 (.mov (.t 11)),
 vo 63 (.mov (.t 10)),
 vo 64 (.bin false .neq 3 (.t 62) (.t 63))])
 (.cond (.t 64)
 (.seq
 (.region false [4] [
 vo 4 (.asg (.c (.bool false)))])
 .ret)
 .skip))
 (.seq
 (.region true [6, 8, 10, 12] [
 vo 65 (.load 25 true 8 (.t 2)),
 vo 66 (.call 16 [(.t 65)]),
 ⟨some 67, .load 41 true 2 (.t 3), none, [0, 1]⟩,
 vo 68 (.call 24 [(.t 67)]),
 vo 69 (.call 25 [(.t 66), (.t 68)]),
 ⟨some 12, .alloc 44 [(.val (.int .i64 0)), (.val (.int .i64 0)), (.val (.int .i64 0)), (.val (.int .i64 0)), (.nl 2), (.nl 5), (.nl 2), (.val (.int .i64 0)), (.val (.int .i64 0)), (.val (.int .i64 0))], none, [0, 1, 2, 3, 4]⟩,
 vn (.store 44 10 (.t 12) (.t 69))])
 (.seq
 (.seq
 (.region false [8, 10, 73] [
 vo 70 (.load 44 true 10 (.t 12)),
 vo 71 (.load 44 true 10 (.t 6)),
 vo 72 (.call 26 [(.t 70), (.t 71)]),
 vo 73 (.un .not (.t 72))])
 (.cond (.t 73)
 (.seq
 (.region false [4] [
 vo 4 (.asg (.c (.bool false)))])
 .ret)
 .skip))
 (.seq
 (.region false [8, 10, 11] [
 vo 11 (.asg (.c (.int .i64 1)))])
 (.seq
 (.region false [10, 11] [
 vo 74 (.load 44 true 10 (.t 8)),
 vo 75 (.mov (.t 11)),
 vo 76 (.call 29 [(.t 74), (.t 75)]),
 vo 11 (.asg (.t 76))])
 (.seq
 (.seq
 (.region false [10, 11, 78] [
 vo 77 (.mov (.t 11)),
 vo 78 (.bin false .lss 3 (.t 77) (.c (.int .i64 0)))])
 (.cond (.t 78)
 (.seq
 (.region false [4] [
 vo 4 (.asg (.c (.bool false)))])
 .ret)
 .skip))
 (.seq
 (.seq
 (.region false [81] [
 vo 79 (.mov (.t 11)),
 vo 80 (.mov (.t 10)),
 vo 81 (.bin false .neq 3 (.t 79) (.t 80))])
 (.cond (.t 81)
 (.seq
 (.region false [4] [
 vo 4 (.asg (.c (.bool false)))])
 .ret)
 .skip))
 (.seq
 (.region false [4] [
 vo 4 (.asg (.c (.bool true)))])
 .ret)))))))))))))))))))))))))))
 modes := [.lend, .lend]
 rets := [⟨4, none⟩] }

/-- loop.example/g00539/laws.szLedger -/
def v14 : VFun := {
 code :=
 (.seq
 (.region false [1, 2] [
 vo 2 (.box 25 (.t 0)),
 vo 4 (.asg (.c (.int .i64 0)))])
 (.seq
 (.region false [1, 2] [
 vo 5 (.fa 25 2 2 1 (.t 2)),
 vo 6 (.load 22 false 1 (.t 5)),
 vo 7 (.mov (.t 1)),
 vo 8 (.call 66 [(.t 6), (.t 7)]),
 vo 1 (.asg (.t 8))])
 (.seq
 (.seq
 (.region false [1, 2, 10] [
 vo 9 (.mov (.t 1)),
 vo 10 (.bin false .lss 3 (.t 9) (.c (.int .i64 0)))])
 (.cond (.t 10)
 (.seq
 (.region false [4] [
 vo 4 (.asg (.c (.int .i64 (-1))))])
 .ret)
 .skip))
 (.seq
 (.region false [1, 2] [
 vo 11 (.fa 25 3 3 1 (.t 2)),
 vo 12 (.load 23 false 1 (.t 11)),
 vo 13 (.mov (.t 1)),
 vo 14 (.call 67 [(.t 12), (.t 13)]),
 vo 1 (.asg (.t 14))])
 (.seq
 (.seq
 (.region false [1, 2, 16] [
 vo 15 (.mov (.t 1)),
 vo 16 (.bin false .lss 3 (.t 15) (.c (.int .i64 0)))])
 (.cond (.t 16)
 (.seq
 (.region false [4] [
 vo 4 (.asg (.c (.int .i64 (-1))))])
 .ret)
 .skip))
 (.seq
 (.region false [1] [
 vo 17 (.fa 25 4 4 1 (.t 2)),
 vo 18 (.load 22 false 1 (.t 17)),
 vo 19 (.mov (.t 1)),
 vo 20 (.call 66 [(.t 18), (.t 19)]),
 vo 1 (.asg (.t 20))])
 (.seq
 (.seq
 (.region false [1, 22] [
 vo 21 (.mov (.t 1)),
 vo 22 (.bin false .lss 3 (.t 21) (.c (.int .i64 0)))])
 (.cond (.t 22)
 (.seq
 (.region false [4] [
 vo 4 (.asg (.c (.int .i64 (-1))))])
 .ret)
 .skip))
 (.seq
 (.region false [4] [
 vo 23 (.mov (.t 1)),
 vo 4 (.asg (.t 23))])
 .ret))))))))
 modes := [.lend, .lend]
 rets := [⟨4, none⟩] }

/-- loop.example/g00539/laws.toLedger -/
def v16 : VFun := {
 code :=
 (.seq
 (.region false [1, 2] [
 vo 1 (.box 25 (.t 0)),
 vo 2 (.alloc 31 [(.val (.int .i64 0)), (.val (.int .i64 0)), (.nl 2), (.nl 5), (.nl 2), (.val (.int .i64 0)), (.val (.int .i64 0)), (.val (.int .i64 0))])])
 (.seq
 (.region false [1, 2, 3] [
 vo 3 (.alloc 31 [(.val (.int .i64 0)), (.val (.int .i64 0)), (.nl 2), (.nl 5), (.nl 2), (.val (.int .i64 0)), (.val (.int .i64 0)), (.val (.int .i64 0))])])
 (.seq
 (.region false [1, 2, 3] [
 vo 4 (.fa 25 0 0 1 (.t 1)),
 vo 5 (.load 2 false 1 (.t 4)),
 vo 6 (.fa 31 0 0 1 (.t 3)),
 vn (.store 2 1 (.t 6) (.t 5))])
 (.seq
 (.region false [1, 2, 3] [
 vo 7 (.fa 25 1 1 1 (.t 1)),
 vo 8 (.load 2 false 1 (.t 7)),
 vo 9 (.fa 31 1 1 1 (.t 3)),
 vn (.store 2 1 (.t 9) (.t 8))])
 (.seq
 (.region false [1, 2, 3] [
 vo 10 (.fa 25 2 2 1 (.t 1)),
 vo 11 (.load 22 false 1 (.t 10)),
 vo 12 (.call 69 [(.t 11)]),
 vo 13 (.fa 31 2 2 1 (.t 3)),
 vn (.store 28 1 (.t 13) (.t 12))])
 (.seq
 (.region false [1, 2, 3] [
 vo 14 (.fa 25 3 3 1 (.t 1)),
 vo 15 (.load 23 false 1 (.t 14)),
 vo 16 (.call 70 [(.t 15)]),
 vo 17 (.fa 31 3 3 1 (.t 3)),
 vn (.store 29 1 (.t 17) (.t 16))])
 (.seq
 (.region false [1, 2, 3] [
 vo 18 (.fa 25 4 4 1 (.t 1)),
 vo 19 (.load 22 false 1 (.t 18)),
 vo 20 (.call 69 [(.t 19)]),
 vo 21 (.fa 31 4 4 1 (.t 3)),
 vn (.store 28 1 (.t 21) (.t 20))])
 (.seq
 (.region false [1, 2, 3] [
 vo 22 (.fa 25 5 5 1 (.t 1)),
 vo 23 (.load 2 false 1 (.t 22)),
 vo 24 (.fa 31 5 5 1 (.t 3)),
 vn (.store 2 1 (.t 24) (.t 23))])
 (.seq
 (.region false [1, 2, 3] [
 vo 25 (.fa 25 6 6 1 (.t 1)),
 vo 26 (.load 2 false 1 (.t 25)),
 vo 27 (.fa 31 6 6 1 (.t 3)),
 vn (.store 2 1 (.t 27) (.t 26))])
 (.seq
 (.region false [2, 3] [
 vo 28 (.fa 25 7 7 1 (.t 1)),
 vo 29 (.load 2 false 1 (.t 28)),
 vo 30 (.fa 31 7 7 1 (.t 3)),
 vn (.store 2 1 (.t 30) (.t 29))])
 (.seq
 (.region false [2] [
 vo 31 (.load 31 true 8 (.t 3)),
 vn (.store 31 8 (.t 2) (.t 31))])
 .ret)))))))))))
 modes := [.lend]
 rets := [⟨2, some (true, 8)⟩] }

def b17_0 : VC :=
 (.seq
 (.region false [1, 56, 57, 58, 59] [
 vo 59 (.bin false .lss 3 (.t 58) (.t 57))])
 (.seq
 (.cond (.t 59)
 .skip
 (.exit 0))
 (.seq
 (.block 1
 (.seq
 (.region false [1, 4, 5, 56, 57, 58] [
 vo 60 (.mov (.t 58)),
 vo 61 (.ia 29 107 5 (.t 56) (.t 58)),
 vo 62 (.load 107 true 5 (.t 61)),
 vo 5 (.alloc 107 [(.val (.int .i64 0)), (.val (.int .i64 0)), (.val (.int .i64 0)), (.nl 2), (.val (.int .i64 0))]),
 vo 4 (.asg (.t 60)),
 vn (.store 107 5 (.t 5) (.t 62))])
 (.seq
 (.region true [1, 6, 56, 57, 58] [
 vo 63 (.load 107 true 5 (.t 5)),
 ⟨some 64, .fa 31 3 3 1 (.t 1), none, [0]⟩,
 ⟨some 65, .load 29 false 1 (.t 64), none, [0]⟩,
 ⟨some 66, .mov (.t 4), none, [0, 1, 2]⟩,
 ⟨some 67, .cut 29 (some 107) 5 (.t 65) none (some (.t 66)), none, [0]⟩,
 vo 68 (.call 73 [(.t 63), (.t 67)]),
 vo 6 (.asg (.t 68))])
 (.seq
 (.region false [1, 6, 56, 57, 58, 70] [
 vo 69 (.mov (.t 6)),
 vo 70 (.bin false .neq 2 (.t 69) (.c (.int .i64 0)))])
 (.cond (.t 70)
 (.seq
 (.region false [2] [
 vo 71 (.mov (.t 6)),
 vo 2 (.asg (.t 71))])
 .ret)
 .skip)))))
 (.region false [1, 56, 57, 58] [
 vo 72 (.bin false .add 3 (.t 58) (.c (.int .i64 1))),
 vo 58 (.mov (.t 72))]))))
def l17_0 : VC := .loop b17_0
/-- loop.example/g00539/impl.LedgerFault -/
def v17 : VFun := {
 code :=
 (.seq
 (.region false [1] [
 vo 1 (.box 31 (.t 0)),
 vo 2 (.asg (.c (.int .i64 0)))])
 (.seq
 (.seq
 (.region false [1, 30] [
 vo 7 (.fa 31 0 0 1 (.t 1)),
 vo 8 (.load 2 false 1 (.t 7)),
 vo 9 (.fa 31 1 1 1 (.t 1)),
 vo 10 (.load 2 false 1 (.t 9)),
 vo 11 (.call 71 [(.t 8), (.t 10)]),
 vo 12 (.un .not (.t 11)),
 vo 13 (.mov (.t 12)),
 ⟨some 14, .fa 31 5 5 1 (.t 1), some (13, false), []⟩,
 ⟨some 15, .load 2 false 1 (.t 14), some (13, false), []⟩,
 ⟨some 16, .call 72 [(.t 15)], some (13, false), []⟩,
 ⟨some 17, .un .not (.t 16), some (13, false), []⟩,
 vo 18 (.pick (.t 13) (.c (.bool true)) (.t 17)),
 vo 19 (.mov (.t 18)),
 ⟨some 20, .fa 31 6 6 1 (.t 1), some (19, false), []⟩,
 ⟨some 21, .load 2 false 1 (.t 20), some (19, false), []⟩,
 ⟨some 22, .call 72 [(.t 21)], some (19, false), []⟩,
 ⟨some 23, .un .not (.t 22), some (19, false), []⟩,
 vo 24 (.pick (.t 19) (.c (.bool true)) (.t 23)),
 vo 25 (.mov (.t 24)),
 ⟨some 26, .fa 31 7 7 1 (.t 1), some (25, false), []⟩,
 ⟨some 27, .load 2 false 1 (.t 26), some (25, false), []⟩,
 ⟨some 28, .call 72 [(.t 27)], some (25, false), []⟩,
 ⟨some 29, .un .not (.t 28), some (25, false), []⟩,
 vo 30 (.pick (.t 25) (.c (.bool true)) (.t 29))])
 (.cond (.t 30)
 (.seq
 (.region false [2] [
 vo 2 (.asg (.c (.int .i64 3)))])
 .ret)
 .skip))
 (.seq
 (.seq
 (.region false [1, 3] [
 vo 31 (.fa 31 2 2 1 (.t 1)),
 vo 32 (.load 28 false 1 (.t 31)),
 vo 33 (.call 46 [(.t 32)]),
 vo 3 (.asg (.t 33))])
 (.seq
 (.region false [1, 3, 35] [
 vo 34 (.mov (.t 3)),
 vo 35 (.bin false .neq 2 (.t 34) (.c (.int .i64 0)))])
 (.cond (.t 35)
 (.seq
 (.region false [2] [
 vo 36 (.mov (.t 3)),
 vo 2 (.asg (.t 36))])
 .ret)
 .skip)))
 (.seq
 (.seq
 (.region false [1, 54] [
 vo 37 (.fa 31 2 2 1 (.t 1)),
 vo 38 (.load 28 false 1 (.t 37)),
 vo 39 (.len false 28 (.t 38)),
 vo 40 (.fa 31 0 0 1 (.t 1)),
 vo 41 (.load 2 false 1 (.t 40)),
 vo 42 (.bin false .gtr 2 (.t 39) (.t 41)),
 vo 43 (.mov (.t 42)),
 ⟨some 44, .fa 31 3 3 1 (.t 1), some (43, false), []⟩,
 ⟨some 45, .load 29 false 1 (.t 44), some (43, false), []⟩,
 ⟨some 46, .len false 29 (.t 45), some (43, false), []⟩,
 ⟨some 47, .bin false .gtr 3 (.t 46) (.c (.int .i64 6)), some (43, false), []⟩,
 vo 48 (.pick (.t 43) (.c (.bool true)) (.t 47)),
 vo 49 (.mov (.t 48)),
 ⟨some 50, .fa 31 4 4 1 (.t 1), some (49, false), []⟩,
 ⟨some 51, .load 28 false 1 (.t 50), some (49, false), []⟩,
 ⟨some 52, .len false 28 (.t 51), some (49, false), []⟩,
 ⟨some 53, .bin false .gtr 3 (.t 52) (.c (.int .i64 8)), some (49, false), []⟩,
 vo 54 (.pick (.t 49) (.c (.bool true)) (.t 53))])
 (.cond (.t 54)
 (.seq
 (.region false [2] [
 vo 2 (.asg (.c (.int .i64 2)))])
 .ret)
 .skip))
 (.seq
 (.seq
 (.region false [1, 56, 57, 58] [
 vo 55 (.fa 31 3 3 1 (.t 1)),
 vo 56 (.load 29 false 1 (.t 55)),
 vo 57 (.len false 29 (.t 56)),
 vo 58 (.mov (.c (.int .i64 0)))])
 (.block 0
 l17_0))
 (.seq
 (.block 2
 (.seq
 (.region false [1, 73] [
 vo 74 (.fa 31 4 4 1 (.t 1)),
 vo 75 (.load 28 false 1 (.t 74)),
 vo 76 (.call 74 [(.t 75), (.c (.int .i64 8))]),
 vo 77 (.un .not (.t 76)),
 vo 73 (.asg (.t 77))])
 (.cond (.t 73)
 (.seq
 (.region false [2] [
 vo 2 (.asg (.c (.int .i64 1)))])
 .ret)
 (.seq
 (.region true [78] [
 vo 79 (.fa 31 4 4 1 (.t 1)),
 vo 80 (.load 28 false 1 (.t 79)),
 vo 81 (.call 75 [(.t 80)]),
 ⟨some 82, .fa 31 6 6 1 (.t 1), none, [0, 1, 2]⟩,
 ⟨some 83, .load 2 false 1 (.t 82), none, [0, 1, 2]⟩,
 vo 84 (.bin false .add 2 (.t 81) (.t 83)),
 ⟨some 85, .fa 31 5 5 1 (.t 1), none, [0, 1, 2, 3, 4, 5]⟩,
 ⟨some 86, .load 2 false 1 (.t 85), none, [0, 1, 2, 3, 4, 5]⟩,
 vo 87 (.bin false .add 2 (.t 84) (.t 86)),
 ⟨some 88, .fa 31 3 3 1 (.t 1), none, [0, 1, 2, 3, 4, 5, 6, 7, 8]⟩,
 ⟨some 89, .load 29 false 1 (.t 88), none, [0, 1, 2, 3, 4, 5, 6, 7, 8]⟩,
 ⟨some 90, .call 76 [(.t 89), (.c (.int .i64 2))], none, [3, 4, 5, 6, 7, 8]⟩,
 ⟨some 91, .fa 31 7 7 1 (.t 1), none, [0, 1, 2, 3, 4, 5, 6, 7, 8, 9, 10, 11]⟩,
 ⟨some 92, .load 2 false 1 (.t 91), none, [0, 1, 2, 3, 4, 5, 6, 7, 8, 9, 10, 11]⟩,
 ⟨some 93, .bin false .add 2 (.t 90) (.t 92), none, [3, 4, 5, 6, 7, 8]⟩,
 vo 94 (.bin false .neq 2 (.t 87) (.t 93)),
 vo 95 (.mov (.t 94)),
 ⟨some 96, .fa 31 3 3 1 (.t 1), some (95, false), []⟩,
 ⟨some 97, .load 29 false 1 (.t 96), some (95, false), []⟩,
 ⟨some 98, .call 76 [(.t 97), (.c (.int .i64 0))], some (95, false), []⟩,
 ⟨some 99, .call 72 [(.t 98)], some (95, false), []⟩,
 ⟨some 100, .un .not (.t 99), some (95, false), []⟩,
 vo 101 (.pick (.t 95) (.c (.bool true)) (.t 100)),
 vo 78 (.asg (.t 101))])
 (.cond (.t 78)
 (.seq
 (.region false [2] [
 vo 2 (.asg (.c (.int .i64 7)))])
 .ret)
 .skip)))))
 (.seq
 (.region false [2] [
 vo 2 (.asg (.c (.int .i64 0)))])
 .ret)))))))
 modes := [.lend]
 rets := [⟨2, none⟩] }

/-- loop.example/g00539/laws.eqLedger -/
def v18 : VFun := {
 code :=
 (.seq
 (.region false [2, 3] [
 vo 2 (.box 31 (.t 0)),
 vo 3 (.box 31 (.t 1)),
 vo 4 (.asg (.c (.bool false)))])
 (.seq
 (.seq
 (.region false [2, 3, 9] [
 vo 5 (.fa 31 0 0 1 (.t 2)),
 vo 6 (.load 2 false 1 (.t 5)),
 vo 7 (.fa 31 0 0 1 (.t 3)),
 vo 8 (.load 2 false 1 (.t 7)),
 vo 9 (.bin false .neq 2 (.t 6) (.t 8))])
 (.cond (.t 9)
 (.seq
 (.region false [4] [
 vo 4 (.asg (.c (.bool false)))])
 .ret)
 .skip))
 (.seq
 (.seq
 (.region false [2, 3, 14] [
 vo 10 (.fa 31 1 1 1 (.t 2)),
 vo 11 (.load 2 false 1 (.t 10)),
 vo 12 (.fa 31 1 1 1 (.t 3)),
 vo 13 (.load 2 false 1 (.t 12)),
 vo 14 (.bin false .neq 2 (.t 11) (.t 13))])
 (.cond (.t 14)
 (.seq
 (.region false [4] [
 vo 4 (.asg (.c (.bool false)))])
 .ret)
 .skip))
 (.seq
 (.seq
 (.region false [2, 3, 20] [
 vo 15 (.fa 31 2 2 1 (.t 2)),
 vo 16 (.load 28 false 1 (.t 15)),
 vo 17 (.fa 31 2 2 1 (.t 3)),
 vo 18 (.load 28 false 1 (.t 17)),
 vo 19 (.call 77 [(.t 16), (.t 18)]),
 vo 20 (.un .not (.t 19))])
 (.cond (.t 20)
 (.seq
 (.region false [4] [
 vo 4 (.asg (.c (.bool false)))])
 .ret)
 .skip))
 (.seq
 (.seq
 (.region false [2, 3, 26] [
 vo 21 (.fa 31 3 3 1 (.t 2)),
 vo 22 (.load 29 false 1 (.t 21)),
 vo 23 (.fa 31 3 3 1 (.t 3)),
 vo 24 (.load 29 false 1 (.t 23)),
 vo 25 (.call 78 [(.t 22), (.t 24)]),
 vo 26 (.un .not (.t 25))])
 (.cond (.t 26)
 (.seq
 (.region false [4] [
 vo 4 (.asg (.c (.bool false)))])
 .ret)
 .skip))
 (.seq
 (.seq
 (.region false [2, 3, 32] [
 vo 27 (.fa 31 4 4 1 (.t 2)),
 vo 28 (.load 28 false 1 (.t 27)),
 vo 29 (.fa 31 4 4 1 (.t 3)),
 vo 30 (.load 28 false 1 (.t 29)),
 vo 31 (.call 77 [(.t 28), (.t 30)]),
 vo 32 (.un .not (.t 31))])
 (.cond (.t 32)
 (.seq
 (.region false [4] [
 vo 4 (.asg (.c (.bool false)))])
 .ret)
 .skip))
 (.seq
 (.seq
 (.region false [2, 3, 37] [
 vo 33 (.fa 31 5 5 1 (.t 2)),
 vo 34 (.load 2 false 1 (.t 33)),
 vo 35 (.fa 31 5 5 1 (.t 3)),
 vo 36 (.load 2 false 1 (.t 35)),
 vo 37 (.bin false .neq 2 (.t 34) (.t 36))])
 (.cond (.t 37)
 (.seq
 (.region false [4] [
 vo 4 (.asg (.c (.bool false)))])
 .ret)
 .skip))
 (.seq
 (.seq
 (.region false [2, 3, 42] [
 vo 38 (.fa 31 6 6 1 (.t 2)),
 vo 39 (.load 2 false 1 (.t 38)),
 vo 40 (.fa 31 6 6 1 (.t 3)),
 vo 41 (.load 2 false 1 (.t 40)),
 vo 42 (.bin false .neq 2 (.t 39) (.t 41))])
 (.cond (.t 42)
 (.seq
 (.region false [4] [
 vo 4 (.asg (.c (.bool false)))])
 .ret)
 .skip))
 (.seq
 (.seq
 (.region false [47] [
 vo 43 (.fa 31 7 7 1 (.t 2)),
 vo 44 (.load 2 false 1 (.t 43)),
 vo 45 (.fa 31 7 7 1 (.t 3)),
 vo 46 (.load 2 false 1 (.t 45)),
 vo 47 (.bin false .neq 2 (.t 44) (.t 46))])
 (.cond (.t 47)
 (.seq
 (.region false [4] [
 vo 4 (.asg (.c (.bool false)))])
 .ret)
 .skip))
 (.seq
 (.region false [4] [
 vo 4 (.asg (.c (.bool true)))])
 .ret))))))))))
 modes := [.lend, .lend]
 rets := [⟨4, none⟩] }

/-- loop.example/g00539/laws.szWeight -/
def v22 : VFun := {
 code :=
 (.seq
 (.region false [1, 2] [
 vo 2 (.box 41 (.t 0)),
 vo 4 (.asg (.c (.int .i64 0)))])
 (.seq
 (.region false [1] [
 vo 5 (.mov (.t 1)),
 vo 6 (.fa 41 0 0 1 (.t 2)),
 vo 7 (.load 9 false 1 (.t 6)),
 vo 8 (.len true 9 (.t 7)),
 vo 9 (.bin false .sub 3 (.t 5) (.t 8)),
 vo 1 (.asg (.t 9))])
 (.seq
 (.seq
 (.region false [1, 11] [
 vo 10 (.mov (.t 1)),
 vo 11 (.bin false .lss 3 (.t 10) (.c (.int .i64 0)))])
 (.cond (.t 11)
 (.seq
 (.region false [4] [
 vo 4 (.asg (.c (.int .i64 (-1))))])
 .ret)
 .skip))
 (.seq
 (.region false [4] [
 vo 12 (.mov (.t 1)),
 vo 4 (.asg (.t 12))])
 .ret))))
 modes := [.lend, .lend]
 rets := [⟨4, none⟩] }

/-- loop.example/g00539/spec.CreditShare -/
def v23 : VFun := {
 code :=
 (.seq
 (.region false [2, 3, 4] [
 vo 2 (.box 31 (.t 0)),
 vo 3 (.box 46 (.t 1)),
 vo 4 (.alloc 44 [(.val (.int .i64 0)), (.val (.int .i64 0)), (.val (.int .i64 0)), (.val (.int .i64 0)), (.nl 2), (.nl 5), (.nl 2), (.val (.int .i64 0)), (.val (.int .i64 0)), (.val (.int .i64 0))])])
 (.seq
 (.seq
 (.region false [2, 3, 4, 5] [
 vo 6 (.call 68 [(.t 2)]),
 vo 5 (.asg (.t 6))])
 (.seq
 (.region false [2, 3, 4, 5, 8] [
 vo 7 (.mov (.t 5)),
 vo 8 (.bin false .neq 2 (.t 7) (.c (.int .i64 0)))])
 (.cond (.t 8)
 (.seq
 (.region false [4] [
 vo 9 (.mov (.t 5)),
 vo 10 (.call 81 [(.t 9)]),
 vn (.store 44 10 (.t 4) (.t 10))])
 .ret)
 .skip)))
 (.seq
 (.region false [4] [
 vo 11 (.load 31 true 8 (.t 2)),
 vo 12 (.load 46 true 2 (.t 3)),
 vo 13 (.call 82 [(.t 11), (.t 12)]),
 vn (.store 44 10 (.t 4) (.t 13))])
 .ret)))
 modes := [.lend, .lend]
 rets := [⟨4, some (true, 10)⟩] }

/-- loop.example/g00539/laws.toWeight -/
def v24 : VFun := {
 code :=
 (.seq
 (.region false [1, 2] [
 vo 1 (.box 41 (.t 0)),
 vo 2 (.alloc 46 [(.val (.string (⟨#[]⟩ : ByteArray))), (.val (.int .i64 0))])])
 (.seq
 (.region false [1, 2, 3] [
 vo 3 (.alloc 46 [(.val (.string (⟨#[]⟩ : ByteArray))), (.val (.int .i64 0))])])
 (.seq
 (.region false [1, 2, 3] [
 vo 4 (.fa 41 0 0 1 (.t 1)),
 vo 5 (.load 9 false 1 (.t 4)),
 vo 6 (.fa 46 0 0 1 (.t 3)),
 vn (.store 9 1 (.t 6) (.t 5))])
 (.seq
 (.region false [2, 3] [
 vo 7 (.fa 41 1 1 1 (.t 1)),
 vo 8 (.load 2 false 1 (.t 7)),
 vo 9 (.fa 46 1 1 1 (.t 3)),
 vn (.store 2 1 (.t 9) (.t 8))])
 (.seq
 (.region false [2] [
 vo 10 (.load 46 true 2 (.t 3)),
 vn (.store 46 2 (.t 2) (.t 10))])
 .ret)))))
 modes := [.lend]
 rets := [⟨2, some (true, 2)⟩] }

/-- loop.example/g00539/impl.CreditShare -/
def v25 : VFun := {
 code :=
 (.seq
 (.region false [2, 3, 4] [
 vo 2 (.box 31 (.t 0)),
 vo 3 (.box 46 (.t 1)),
 vo 4 (.alloc 44 [(.val (.int .i64 0)), (.val (.int .i64 0)), (.val (.int .i64 0)), (.val (.int .i64 0)), (.nl 2), (.nl 5), (.nl 2), (.val (.int .i64 0)), (.val (.int .i64 0)), (.val (.int .i64 0))])])
 (.seq
 (.region false [4] [
 vo 5 (.load 31 true 8 (.t 2)),
 vo 6 (.fn 84 [] [(.t 3)]),
 vo 7 (.call 83 [(.t 5), (.t 6)]),
 vn (.store 44 10 (.t 4) (.t 7))])
 .ret))
 modes := [.lend, .lend]
 rets := [⟨4, some (true, 10)⟩] }

/-- loop.example/g00539/laws.eqLedgerResult -/
def v26 : VFun := {
 code :=
 (.seq
 (.region false [2, 3] [
 vo 2 (.box 44 (.t 0)),
 vo 3 (.box 44 (.t 1)),
 vo 4 (.asg (.c (.bool false)))])
 (.seq
 (.seq
 (.region false [2, 3, 9] [
 vo 5 (.fa 44 0 0 1 (.t 2)),
 vo 6 (.load 2 false 1 (.t 5)),
 vo 7 (.fa 44 0 0 1 (.t 3)),
 vo 8 (.load 2 false 1 (.t 7)),
 vo 9 (.bin false .neq 2 (.t 6) (.t 8))])
 (.cond (.t 9)
 (.seq
 (.region false [4] [
 vo 4 (.asg (.c (.bool false)))])
 .ret)
 .skip))
 (.seq
 (.seq
 (.region false [2, 3, 14] [
 vo 10 (.fa 44 1 1 1 (.t 2)),
 vo 11 (.load 2 false 1 (.t 10)),
 vo 12 (.fa 44 1 1 1 (.t 3)),
 vo 13 (.load 2 false 1 (.t 12)),
 vo 14 (.bin false .neq 2 (.t 11) (.t 13))])
 (.cond (.t 14)
 (.seq
 (.region false [4] [
 vo 4 (.asg (.c (.bool false)))])
 .ret)
 .skip))
 (.seq
 (.seq
 (.region false [20] [
 vo 15 (.fa 44 2 2 8 (.t 2)),
 vo 16 (.load 31 true 8 (.t 15)),
 vo 17 (.fa 44 2 2 8 (.t 3)),
 vo 18 (.load 31 true 8 (.t 17)),
 vo 19 (.call 18 [(.t 16), (.t 18)]),
 vo 20 (.un .not (.t 19))])
 (.cond (.t 20)
 (.seq
 (.region false [4] [
 vo 4 (.asg (.c (.bool false)))])
 .ret)
 .skip))
 (.seq
 (.region false [4] [
 vo 4 (.asg (.c (.bool true)))])
 .ret)))))
 modes := [.lend, .lend]
 rets := [⟨4, none⟩] }

/-- loop.example/g00539/laws.markLedger -/
def v27 : VFun := {
 code :=
 (.seq
 (.region false [0, 1, 2] [
 vo 2 (.box 31 (.t 0)),
 vo 4 (.asg (.c (.int .i64 0)))])
 (.seq
 (.region false [0, 1, 2] [
 vo 5 (.fa 31 2 2 1 (.t 2)),
 vo 6 (.load 28 false 1 (.t 5)),
 vo 7 (.mov (.t 1)),
 vo 8 (.call 85 [(.t 6), (.t 7)]),
 vo 1 (.asg (.t 8))])
 (.seq
 (.region false [0, 1, 2] [
 vo 9 (.fa 31 3 3 1 (.t 2)),
 vo 10 (.load 29 false 1 (.t 9)),
 vo 11 (.mov (.t 1)),
 vo 12 (.call 86 [(.t 10), (.t 11)]),
 vo 1 (.asg (.t 12))])
 (.seq
 (.region false [0, 1, 2] [
 vo 13 (.fa 31 4 4 1 (.t 2)),
 vo 14 (.load 28 false 1 (.t 13)),
 vo 15 (.mov (.t 1)),
 vo 16 (.call 85 [(.t 14), (.t 15)]),
 vo 1 (.asg (.t 16))])
 (.seq
 (.region false [0, 2, 4] [
 vo 17 (.mov (.t 1)),
 vo 4 (.asg (.t 17))])
 .ret)))))
 modes := [.io, .lend]
 rets := [⟨4, none⟩] }

/-- loop.example/g00539/laws.markLedgerResult -/
def v28 : VFun := {
 code :=
 (.seq
 (.region false [0, 1, 2] [
 vo 2 (.box 44 (.t 0)),
 vo 4 (.asg (.c (.int .i64 0)))])
 (.seq
 (.region false [0, 1, 2] [
 vo 5 (.fa 44 2 2 8 (.t 2)),
 vo 6 (.load 31 true 8 (.t 5)),
 vo 7 (.mov (.t 1)),
 vo 8 (.call 27 [(.t 6), (.t 7)]),
 vo 1 (.asg (.t 8))])
 (.seq
 (.region false [0, 2, 4] [
 vo 9 (.mov (.t 1)),
 vo 4 (.asg (.t 9))])
 .ret)))
 modes := [.io, .lend]
 rets := [⟨4, none⟩] }

/-- loop.example/g00539/laws.heldLedgerResult -/
def v29 : VFun := {
 code :=
 (.seq
 (.region false [1, 2] [
 vo 2 (.box 44 (.t 0)),
 vo 4 (.asg (.c (.int .i64 0)))])
 (.seq
 (.region false [1] [
 vo 5 (.fa 44 2 2 8 (.t 2)),
 vo 6 (.load 31 true 8 (.t 5)),
 vo 7 (.mov (.t 1)),
 vo 8 (.call 87 [(.t 6), (.t 7)]),
 vo 1 (.asg (.t 8))])
 (.seq
 (.seq
 (.region false [1, 10] [
 vo 9 (.mov (.t 1)),
 vo 10 (.bin false .lss 3 (.t 9) (.c (.int .i64 0)))])
 (.cond (.t 10)
 (.seq
 (.region false [4] [
 vo 4 (.asg (.c (.int .i64 (-1))))])
 .ret)
 .skip))
 (.seq
 (.region false [4] [
 vo 11 (.mov (.t 1)),
 vo 4 (.asg (.t 11))])
 .ret))))
 modes := [.lend, .lend]
 rets := [⟨4, none⟩] }

/-- loop.example/g00539/impl.PushWeight -/
def v40 : VFun := {
 code :=
 (.seq
 (.region false [0, 2, 4, 6] [
 vo 4 (.box 46 (.t 1)),
 vo 6 (.alloc 63 [(.val (.int .i64 0)), (.nl 2)])])
 (.seq
 (.seq
 (.region false [0, 2, 4, 6, 7] [
 vo 10 (.mov (.t 0)),
 vo 11 (.call 46 [(.t 10)]),
 vo 7 (.asg (.t 11))])
 (.seq
 (.region false [0, 2, 4, 6, 7, 13] [
 vo 12 (.mov (.t 7)),
 vo 13 (.bin false .neq 2 (.t 12) (.c (.int .i64 0)))])
 (.cond (.t 13)
 (.seq
 (.region false [6] [
 vo 14 (.mov (.t 7)),
 vo 15 (.build 63 [(.val (.int .i64 0)), (.nl 2)] [(0, 0, 1, (.t 14))]),
 vn (.store 63 2 (.t 6) (.t 15))])
 .ret)
 .skip)))
 (.seq
 (.seq
 (.region false [0, 2, 4, 6, 8] [
 vo 16 (.load 46 true 2 (.t 4)),
 vo 17 (.lit 28 46 2 1 [(.val (.string (⟨#[]⟩ : ByteArray))), (.val (.int .i64 0))] [(0, (.t 16))]),
 vo 18 (.call 46 [(.t 17)]),
 vo 8 (.asg (.t 18))])
 (.seq
 (.region false [0, 2, 4, 6, 8, 20] [
 vo 19 (.mov (.t 8)),
 vo 20 (.bin false .neq 2 (.t 19) (.c (.int .i64 0)))])
 (.cond (.t 20)
 (.seq
 (.region false [6] [
 vo 21 (.mov (.t 8)),
 vo 22 (.build 63 [(.val (.int .i64 0)), (.nl 2)] [(0, 0, 1, (.t 21))]),
 vn (.store 63 2 (.t 6) (.t 22))])
 .ret)
 .skip)))
 (.seq
 (.seq
 (.region false [0, 2, 4, 6, 25] [
 vo 23 (.mov (.t 2)),
 vo 24 (.call 93 [(.t 23), (.c (.int .i64 1)), (.c (.int .i64 12))]),
 vo 25 (.un .not (.t 24))])
 (.cond (.t 25)
 (.seq
 (.region false [6] [
 vo 26 (.build 63 [(.val (.int .i64 0)), (.nl 2)] [(0, 0, 1, (.c (.int .i64 3)))]),
 vn (.store 63 2 (.t 6) (.t 26))])
 .ret)
 .skip))
 (.seq
 (.region true [2, 6, 9, 31] [
 vo 27 (.mov (.t 0)),
 vo 28 (.call 106 [(.t 27)]),
 ⟨some 29, .load 46 true 2 (.t 4), none, [0, 1]⟩,
 ⟨some 30, .lit 28 46 2 1 [(.val (.string (⟨#[]⟩ : ByteArray))), (.val (.int .i64 0))] [(0, (.t 29))], none, [0, 1]⟩,
 vo 31 (.app 28 46 2 24 (.t 28) (.t 30)),
 vo 9 (.asg (.t 31))])
 (.seq
 (.region false [6] [
 vo 32 (.mov (.t 9)),
 vo 33 (.mov (.t 9)),
 vo 34 (.len false 28 (.t 33)),
 vo 35 (.mov (.t 2)),
 vo 36 (.bin false .sub 3 (.t 34) (.t 35)),
 vo 37 (.mm true (.t 36) (.c (.int .i64 0))),
 vo 38 (.cut 28 (some 46) 2 (.t 32) (some (.t 37)) none),
 vo 39 (.call 106 [(.t 38)]),
 vo 40 (.build 63 [(.val (.int .i64 0)), (.nl 2)] [(0, 0, 1, (.c (.int .i64 0))), (1, 1, 1, (.t 39))]),
 vn (.store 63 2 (.t 6) (.t 40))])
 .ret))))))
 modes := [.lend, .lend, .lend]
 rets := [⟨6, some (true, 2)⟩] }

def b46_0 : VC :=
 (.seq
 (.region false [8, 9, 10, 11] [
 vo 11 (.bin false .lss 3 (.t 10) (.t 9))])
 (.seq
 (.cond (.t 11)
 .skip
 (.exit 0))
 (.seq
 (.block 1
 (.seq
 (.region false [4, 8, 9, 10] [
 vo 12 (.ia 28 46 2 (.t 8) (.t 10)),
 vo 13 (.load 46 true 2 (.t 12)),
 vo 4 (.alloc 46 [(.val (.string (⟨#[]⟩ : ByteArray))), (.val (.int .i64 0))]),
 vn (.store 46 2 (.t 4) (.t 13))])
 (.block 2
 (.seq
 (.region false [4, 8, 9, 10, 14] [
 vo 15 (.fa 46 0 0 1 (.t 4)),
 vo 16 (.load 9 false 1 (.t 15)),
 vo 17 (.call 113 [(.t 16)]),
 vo 18 (.un .not (.t 17)),
 vo 14 (.asg (.t 18))])
 (.cond (.t 14)
 (.seq
 (.region false [2] [
 vo 2 (.asg (.c (.int .i64 5)))])
 .ret)
 (.seq
 (.region false [8, 9, 10, 19] [
 vo 20 (.fa 46 1 1 1 (.t 4)),
 vo 21 (.load 2 false 1 (.t 20)),
 vo 22 (.call 93 [(.t 21), (.c (.int .i64 1)), (.c (.int .i64 9999))]),
 vo 23 (.un .not (.t 22)),
 vo 19 (.asg (.t 23))])
 (.cond (.t 19)
 (.seq
 (.region false [2] [
 vo 2 (.asg (.c (.int .i64 3)))])
 .ret)
 .skip)))))))
 (.region false [8, 9, 10] [
 vo 24 (.bin false .add 3 (.t 10) (.c (.int .i64 1))),
 vo 10 (.mov (.t 24))]))))
def l46_0 : VC := .loop b46_0
/-- loop.example/g00539/impl.WindowFault -/
def v46 : VFun := {
 code :=
 (.seq
 (.region false [0] [
 vo 2 (.asg (.c (.int .i64 0)))])
 (.seq
 (.seq
 (.region false [0, 7] [
 vo 5 (.mov (.t 0)),
 vo 6 (.len false 28 (.t 5)),
 vo 7 (.bin false .gtr 3 (.t 6) (.c (.int .i64 12)))])
 (.cond (.t 7)
 (.seq
 (.region false [2] [
 vo 2 (.asg (.c (.int .i64 2)))])
 .ret)
 .skip))
 (.seq
 (.seq
 (.region false [8, 9, 10] [
 vo 8 (.mov (.t 0)),
 vo 9 (.len false 28 (.t 8)),
 vo 10 (.mov (.c (.int .i64 0)))])
 (.block 0
 l46_0))
 (.seq
 (.region false [2] [
 vo 2 (.asg (.c (.int .i64 0)))])
 .ret))))
 modes := [.lend]
 rets := [⟨2, none⟩] }

def b66_0 : VC :=
 (.seq
 (.seq
 (.region false [0, 1, 5, 15] [
 vo 12 (.mov (.t 5)),
 vo 13 (.mov (.t 0)),
 vo 14 (.len false 22 (.t 13)),
 vo 15 (.bin false .lss 3 (.t 12) (.t 14))])
 (.cond (.t 15)
 .skip
 (.exit 0)))
 (.seq
 (.block 1
 (.seq
 (.region false [0, 1, 5] [
 vo 18 (.mov (.t 0)),
 vo 19 (.mov (.t 5)),
 vo 20 (.ia 22 41 2 (.t 18) (.t 19)),
 vo 21 (.load 41 true 2 (.t 20)),
 vo 22 (.mov (.t 1)),
 vo 23 (.call 22 [(.t 21), (.t 22)]),
 vo 1 (.asg (.t 23))])
 (.seq
 (.region false [0, 1, 5, 25] [
 vo 24 (.mov (.t 1)),
 vo 25 (.bin false .lss 3 (.t 24) (.c (.int .i64 0)))])
 (.cond (.t 25)
 (.seq
 (.region false [4] [
 vo 4 (.asg (.c (.int .i64 (-1))))])
 .ret)
 .skip))))
 (.region false [0, 1, 5] [
 vo 16 (.mov (.t 5)),
 vo 17 (.bin false .add 3 (.t 16) (.c (.int .i64 1))),
 vo 5 (.asg (.t 17))])))
def l66_0 : VC := .loop b66_0
/-- loop.example/g00539/laws.szWeightS -/
def v66 : VFun := {
 code :=
 (.seq
 (.region false [0, 1] [
 vo 4 (.asg (.c (.int .i64 0)))])
 (.seq
 (.region false [0, 1] [
 vo 6 (.mov (.t 1)),
 vo 7 (.mov (.t 0)),
 vo 8 (.len false 22 (.t 7)),
 vo 9 (.bin false .sub 3 (.t 6) (.t 8)),
 vo 1 (.asg (.t 9))])
 (.seq
 (.seq
 (.region false [0, 1, 11] [
 vo 10 (.mov (.t 1)),
 vo 11 (.bin false .lss 3 (.t 10) (.c (.int .i64 0)))])
 (.cond (.t 11)
 (.seq
 (.region false [4] [
 vo 4 (.asg (.c (.int .i64 (-1))))])
 .ret)
 .skip))
 (.seq
 (.seq
 (.region false [0, 1, 5] [
 vo 5 (.asg (.c (.int .i64 0)))])
 (.block 0
 l66_0))
 (.seq
 (.region false [4] [
 vo 26 (.mov (.t 1)),
 vo 4 (.asg (.t 26))])
 .ret)))))
 modes := [.lend, .lend]
 rets := [⟨4, none⟩] }

def b67_0 : VC :=
 (.seq
 (.seq
 (.region false [0, 1, 5, 15] [
 vo 12 (.mov (.t 5)),
 vo 13 (.mov (.t 0)),
 vo 14 (.len false 23 (.t 13)),
 vo 15 (.bin false .lss 3 (.t 12) (.t 14))])
 (.cond (.t 15)
 .skip
 (.exit 0)))
 (.seq
 (.block 1
 (.seq
 (.region false [0, 1, 5] [
 vo 18 (.mov (.t 0)),
 vo 19 (.mov (.t 5)),
 vo 20 (.ia 23 156 5 (.t 18) (.t 19)),
 vo 21 (.load 156 true 5 (.t 20)),
 vo 22 (.mov (.t 1)),
 vo 23 (.call 130 [(.t 21), (.t 22)]),
 vo 1 (.asg (.t 23))])
 (.seq
 (.region false [0, 1, 5, 25] [
 vo 24 (.mov (.t 1)),
 vo 25 (.bin false .lss 3 (.t 24) (.c (.int .i64 0)))])
 (.cond (.t 25)
 (.seq
 (.region false [4] [
 vo 4 (.asg (.c (.int .i64 (-1))))])
 .ret)
 .skip))))
 (.region false [0, 1, 5] [
 vo 16 (.mov (.t 5)),
 vo 17 (.bin false .add 3 (.t 16) (.c (.int .i64 1))),
 vo 5 (.asg (.t 17))])))
def l67_0 : VC := .loop b67_0
/-- loop.example/g00539/laws.szRewardS -/
def v67 : VFun := {
 code :=
 (.seq
 (.region false [0, 1] [
 vo 4 (.asg (.c (.int .i64 0)))])
 (.seq
 (.region false [0, 1] [
 vo 6 (.mov (.t 1)),
 vo 7 (.mov (.t 0)),
 vo 8 (.len false 23 (.t 7)),
 vo 9 (.bin false .sub 3 (.t 6) (.t 8)),
 vo 1 (.asg (.t 9))])
 (.seq
 (.seq
 (.region false [0, 1, 11] [
 vo 10 (.mov (.t 1)),
 vo 11 (.bin false .lss 3 (.t 10) (.c (.int .i64 0)))])
 (.cond (.t 11)
 (.seq
 (.region false [4] [
 vo 4 (.asg (.c (.int .i64 (-1))))])
 .ret)
 .skip))
 (.seq
 (.seq
 (.region false [0, 1, 5] [
 vo 5 (.asg (.c (.int .i64 0)))])
 (.block 0
 l67_0))
 (.seq
 (.region false [4] [
 vo 26 (.mov (.t 1)),
 vo 4 (.asg (.t 26))])
 .ret)))))
 modes := [.lend, .lend]
 rets := [⟨4, none⟩] }

def b68_0 : VC :=
 (.seq
 (.seq
 (.region false [0, 4, 49] [
 vo 43 (.mov (.t 4)),
 vo 44 (.mov (.t 0)),
 vo 45 (.nilc (.t 44)),
 vo 46 (.fa 31 3 3 1 (.t 45)),
 vo 47 (.load 29 false 1 (.t 46)),
 vo 48 (.len false 29 (.t 47)),
 vo 49 (.bin false .lss 3 (.t 43) (.t 48))])
 (.cond (.t 49)
 .skip
 (.exit 0)))
 (.seq
 (.block 1
 (.seq
 (.region false [0, 4, 5] [
 vo 52 (.mov (.t 0)),
 vo 53 (.nilc (.t 52)),
 vo 54 (.fa 31 3 3 1 (.t 53)),
 vo 55 (.load 29 false 1 (.t 54)),
 vo 56 (.mov (.t 4)),
 vo 57 (.call 132 [(.t 55), (.t 56)]),
 vo 5 (.asg (.t 57))])
 (.seq
 (.region false [0, 4, 5, 59] [
 vo 58 (.mov (.t 5)),
 vo 59 (.bin false .neq 2 (.t 58) (.c (.int .i64 0)))])
 (.cond (.t 59)
 (.seq
 (.region false [2] [
 vo 60 (.mov (.t 5)),
 vo 2 (.asg (.t 60))])
 .ret)
 .skip))))
 (.region false [0, 4] [
 vo 50 (.mov (.t 4)),
 vo 51 (.bin false .add 3 (.t 50) (.c (.int .i64 1))),
 vo 4 (.asg (.t 51))])))
def l68_0 : VC := .loop b68_0
/-- loop.example/g00539/spec.l14Fault -/
def v68 : VFun := {
 code :=
 (.seq
 (.region false [0] [
 vo 2 (.asg (.c (.int .i64 0)))])
 (.seq
 (.seq
 (.region false [0, 8] [
 vo 6 (.mov (.t 0)),
 vo 7 (.call 131 [(.t 6)]),
 vo 8 (.un .not (.t 7))])
 (.cond (.t 8)
 (.seq
 (.region false [2] [
 vo 2 (.asg (.c (.int .i64 3)))])
 .ret)
 .skip))
 (.seq
 (.seq
 (.region false [0, 3] [
 vo 9 (.mov (.t 0)),
 vo 10 (.nilc (.t 9)),
 vo 11 (.fa 31 2 2 1 (.t 10)),
 vo 12 (.load 28 false 1 (.t 11)),
 vo 13 (.call 107 [(.t 12)]),
 vo 3 (.asg (.t 13))])
 (.seq
 (.region false [0, 3, 15] [
 vo 14 (.mov (.t 3)),
 vo 15 (.bin false .neq 2 (.t 14) (.c (.int .i64 0)))])
 (.cond (.t 15)
 (.seq
 (.region false [2] [
 vo 16 (.mov (.t 3)),
 vo 2 (.asg (.t 16))])
 .ret)
 .skip)))
 (.seq
 (.seq
 (.region true [0, 42] [
 vo 17 (.mov (.t 0)),
 vo 18 (.nilc (.t 17)),
 vo 19 (.fa 31 2 2 1 (.t 18)),
 vo 20 (.load 28 false 1 (.t 19)),
 vo 21 (.len false 28 (.t 20)),
 ⟨some 22, .mov (.t 0), none, [0, 1, 2, 3, 4]⟩,
 ⟨some 23, .nilc (.t 22), none, [0, 1, 2, 3, 4]⟩,
 ⟨some 24, .fa 31 0 0 1 (.t 23), none, [0, 1, 2, 3, 4]⟩,
 ⟨some 25, .load 2 false 1 (.t 24), none, [0, 1, 2, 3, 4]⟩,
 vo 26 (.bin false .gtr 2 (.t 21) (.t 25)),
 vo 27 (.mov (.t 26)),
 ⟨some 28, .mov (.t 0), some (27, false), []⟩,
 ⟨some 29, .nilc (.t 28), some (27, false), []⟩,
 ⟨some 30, .fa 31 3 3 1 (.t 29), some (27, false), []⟩,
 ⟨some 31, .load 29 false 1 (.t 30), some (27, false), []⟩,
 ⟨some 32, .len false 29 (.t 31), some (27, false), []⟩,
 ⟨some 33, .bin false .gtr 3 (.t 32) (.c (.int .i64 6)), some (27, false), []⟩,
 vo 34 (.pick (.t 27) (.c (.bool true)) (.t 33)),
 vo 35 (.mov (.t 34)),
 ⟨some 36, .mov (.t 0), some (35, false), []⟩,
 ⟨some 37, .nilc (.t 36), some (35, false), []⟩,
 ⟨some 38, .fa 31 4 4 1 (.t 37), some (35, false), []⟩,
 ⟨some 39, .load 28 false 1 (.t 38), some (35, false), []⟩,
 ⟨some 40, .len false 28 (.t 39), some (35, false), []⟩,
 ⟨some 41, .bin false .gtr 3 (.t 40) (.c (.int .i64 8)), some (35, false), []⟩,
 vo 42 (.pick (.t 35) (.c (.bool true)) (.t 41))])
 (.cond (.t 42)
 (.seq
 (.region false [2] [
 vo 2 (.asg (.c (.int .i64 2)))])
 .ret)
 .skip))
 (.seq
 (.seq
 (.region false [0, 4] [
 vo 4 (.asg (.c (.int .i64 0)))])
 (.block 0
 l68_0))
 (.seq
 (.seq
 (.region false [0, 66] [
 vo 61 (.mov (.t 0)),
 vo 62 (.nilc (.t 61)),
 vo 63 (.fa 31 4 4 1 (.t 62)),
 vo 64 (.load 28 false 1 (.t 63)),
 vo 65 (.call 133 [(.t 64)]),
 vo 66 (.un .not (.t 65))])
 (.cond (.t 66)
 (.seq
 (.region false [2] [
 vo 2 (.asg (.c (.int .i64 1)))])
 .ret)
 .skip))
 (.seq
 (.seq
 (.region true [101] [
 vo 67 (.mov (.t 0)),
 vo 68 (.nilc (.t 67)),
 vo 69 (.fa 31 4 4 1 (.t 68)),
 vo 70 (.load 28 false 1 (.t 69)),
 vo 71 (.call 134 [(.t 70)]),
 ⟨some 72, .mov (.t 0), none, [0, 1, 2, 3, 4]⟩,
 ⟨some 73, .nilc (.t 72), none, [0, 1, 2, 3, 4]⟩,
 ⟨some 74, .fa 31 6 6 1 (.t 73), none, [0, 1, 2, 3, 4]⟩,
 ⟨some 75, .load 2 false 1 (.t 74), none, [0, 1, 2, 3, 4]⟩,
 vo 76 (.bin false .add 2 (.t 71) (.t 75)),
 ⟨some 77, .mov (.t 0), none, [0, 1, 2, 3, 4, 5, 6, 7, 8, 9]⟩,
 ⟨some 78, .nilc (.t 77), none, [0, 1, 2, 3, 4, 5, 6, 7, 8, 9]⟩,
 ⟨some 79, .fa 31 5 5 1 (.t 78), none, [0, 1, 2, 3, 4, 5, 6, 7, 8, 9]⟩,
 ⟨some 80, .load 2 false 1 (.t 79), none, [0, 1, 2, 3, 4, 5, 6, 7, 8, 9]⟩,
 vo 81 (.bin false .add 2 (.t 76) (.t 80)),
 ⟨some 82, .mov (.t 0), none, [0, 1, 2, 3, 4, 5, 6, 7, 8, 9, 10, 11, 12, 13, 14]⟩,
 ⟨some 83, .nilc (.t 82), none, [0, 1, 2, 3, 4, 5, 6, 7, 8, 9, 10, 11, 12, 13, 14]⟩,
 ⟨some 84, .fa 31 3 3 1 (.t 83), none, [0, 1, 2, 3, 4, 5, 6, 7, 8, 9, 10, 11, 12, 13, 14]⟩,
 ⟨some 85, .load 29 false 1 (.t 84), none, [0, 1, 2, 3, 4, 5, 6, 7, 8, 9, 10, 11, 12, 13, 14]⟩,
 ⟨some 86, .call 135 [(.t 85), (.c (.bool true))], none, [5, 6, 7, 8, 9, 10, 11, 12, 13, 14]⟩,
 ⟨some 87, .mov (.t 0), none, [0, 1, 2, 3, 4, 5, 6, 7, 8, 9, 10, 11, 12, 13, 14, 15, 16, 17, 18, 19]⟩,
 ⟨some 88, .nilc (.t 87), none, [0, 1, 2, 3, 4, 5, 6, 7, 8, 9, 10, 11, 12, 13, 14, 15, 16, 17, 18, 19]⟩,
 ⟨some 89, .fa 31 7 7 1 (.t 88), none, [0, 1, 2, 3, 4, 5, 6, 7, 8, 9, 10, 11, 12, 13, 14, 15, 16, 17, 18, 19]⟩,
 ⟨some 90, .load 2 false 1 (.t 89), none, [0, 1, 2, 3, 4, 5, 6, 7, 8, 9, 10, 11, 12, 13, 14, 15, 16, 17, 18, 19]⟩,
 ⟨some 91, .bin false .add 2 (.t 86) (.t 90), none, [5, 6, 7, 8, 9, 10, 11, 12, 13, 14]⟩,
 vo 92 (.bin false .neq 2 (.t 81) (.t 91)),
 vo 93 (.mov (.t 92)),
 ⟨some 94, .mov (.t 0), some (93, false), []⟩,
 ⟨some 95, .nilc (.t 94), some (93, false), []⟩,
 ⟨some 96, .fa 31 3 3 1 (.t 95), some (93, false), []⟩,
 ⟨some 97, .load 29 false 1 (.t 96), some (93, false), []⟩,
 ⟨some 98, .call 135 [(.t 97), (.c (.bool false))], some (93, false), []⟩,
 ⟨some 99, .call 115 [(.t 98)], some (93, false), []⟩,
 ⟨some 100, .un .not (.t 99), some (93, false), []⟩,
 vo 101 (.pick (.t 93) (.c (.bool true)) (.t 100))])
 (.cond (.t 101)
 (.seq
 (.region false [2] [
 vo 2 (.asg (.c (.int .i64 7)))])
 .ret)
 .skip))
 (.seq
 (.region false [2] [
 vo 2 (.asg (.c (.int .i64 0)))])
 .ret))))))))
 modes := [.lend]
 rets := [⟨2, none⟩] }

def b69_0 : VC :=
 (.seq
 (.seq
 (.region false [0, 3, 4, 7, 11] [
 vo 8 (.mov (.t 4)),
 vo 9 (.mov (.t 0)),
 vo 10 (.len false 22 (.t 9)),
 vo 11 (.bin false .lss 3 (.t 8) (.t 10))])
 (.cond (.t 11)
 .skip
 (.exit 0)))
 (.seq
 (.block 1
 (.region false [0, 3, 4, 7] [
 vo 14 (.mov (.t 3)),
 vo 15 (.mov (.t 4)),
 vo 16 (.mov (.t 0)),
 vo 17 (.mov (.t 4)),
 vo 18 (.ia 22 41 2 (.t 16) (.t 17)),
 vo 19 (.load 41 true 2 (.t 18)),
 vo 20 (.call 24 [(.t 19)]),
 vo 21 (.ia 28 46 2 (.t 14) (.t 15)),
 vn (.store 46 2 (.t 21) (.t 20))]))
 (.region false [0, 3, 4, 7] [
 vo 12 (.mov (.t 4)),
 vo 13 (.bin false .add 3 (.t 12) (.c (.int .i64 1))),
 vo 4 (.asg (.t 13))])))
def l69_0 : VC := .loop b69_0
/-- loop.example/g00539/laws.toWeightS -/
def v69 : VFun := {
 code :=
 (.seq
 (.region false [0] [
 vo 2 (.asg (.n 2))])
 (.seq
 (.region false [0, 3, 7] [
 vo 5 (.mov (.t 0)),
 vo 6 (.len false 22 (.t 5)),
 vo 7 (.mk 28 46 2 24 [(.val (.string (⟨#[]⟩ : ByteArray))), (.val (.int .i64 0))] (.t 6) (.t 6)),
 vo 3 (.asg (.t 7))])
 (.seq
 (.seq
 (.region false [0, 3, 4, 7] [
 vo 4 (.asg (.c (.int .i64 0)))])
 (.block 0
 l69_0))
 (.seq
 (.region false [2, 3, 7] [
 vo 22 (.mov (.t 3)),
 vo 2 (.asg (.t 22))])
 .ret))))
 modes := [.lend]
 rets := [⟨2, none⟩] }

def b70_0 : VC :=
 (.seq
 (.seq
 (.region false [0, 3, 4, 7, 11] [
 vo 8 (.mov (.t 4)),
 vo 9 (.mov (.t 0)),
 vo 10 (.len false 23 (.t 9)),
 vo 11 (.bin false .lss 3 (.t 8) (.t 10))])
 (.cond (.t 11)
 .skip
 (.exit 0)))
 (.seq
 (.block 1
 (.region false [0, 3, 4, 7] [
 vo 14 (.mov (.t 3)),
 vo 15 (.mov (.t 4)),
 vo 16 (.mov (.t 0)),
 vo 17 (.mov (.t 4)),
 vo 18 (.ia 23 156 5 (.t 16) (.t 17)),
 vo 19 (.load 156 true 5 (.t 18)),
 vo 20 (.call 136 [(.t 19)]),
 vo 21 (.ia 29 107 5 (.t 14) (.t 15)),
 vn (.store 107 5 (.t 21) (.t 20))]))
 (.region false [0, 3, 4, 7] [
 vo 12 (.mov (.t 4)),
 vo 13 (.bin false .add 3 (.t 12) (.c (.int .i64 1))),
 vo 4 (.asg (.t 13))])))
def l70_0 : VC := .loop b70_0
/-- loop.example/g00539/laws.toRewardS -/
def v70 : VFun := {
 code :=
 (.seq
 (.region false [0] [
 vo 2 (.asg (.n 5))])
 (.seq
 (.region false [0, 3, 7] [
 vo 5 (.mov (.t 0)),
 vo 6 (.len false 23 (.t 5)),
 vo 7 (.mk 29 107 5 56 [(.val (.int .i64 0)), (.val (.int .i64 0)), (.val (.int .i64 0)), (.nl 2), (.val (.int .i64 0))] (.t 6) (.t 6)),
 vo 3 (.asg (.t 7))])
 (.seq
 (.seq
 (.region false [0, 3, 4, 7] [
 vo 4 (.asg (.c (.int .i64 0)))])
 (.block 0
 l70_0))
 (.seq
 (.region false [2, 3, 7] [
 vo 22 (.mov (.t 3)),
 vo 2 (.asg (.t 22))])
 .ret))))
 modes := [.lend]
 rets := [⟨2, none⟩] }

/-- loop.example/g00539/impl.sizesOk -/
def v71 : VFun := {
 code :=
 (.seq
 (.region false [0, 1] [
 vo 4 (.asg (.c (.bool false)))])
 (.seq
 (.region false [4] [
 vo 5 (.mov (.t 0)),
 vo 6 (.call 93 [(.t 5), (.c (.int .i64 1)), (.c (.int .i64 12))]),
 vo 7 (.mov (.t 6)),
 ⟨some 8, .mov (.t 1), some (7, true), []⟩,
 ⟨some 9, .call 93 [(.t 8), (.c (.int .i64 0)), (.c (.int .i64 1000))], some (7, true), []⟩,
 vo 10 (.pick (.t 7) (.t 9) (.c (.bool false))),
 vo 4 (.asg (.t 10))])
 .ret))
 modes := [.lend, .lend]
 rets := [⟨4, none⟩] }

/-- loop.example/g00539/impl.isAmount -/
def v72 : VFun := {
 code :=
 (.seq
 (.region false [0] [
 vo 2 (.asg (.c (.bool false)))])
 (.seq
 (.region false [2] [
 vo 3 (.mov (.t 0)),
 vo 4 (.call 93 [(.t 3), (.c (.int .i64 0)), (.c (.int .i64 1000000))]),
 vo 2 (.asg (.t 4))])
 .ret))
 modes := [.lend]
 rets := [⟨2, none⟩] }

/-- loop.example/g00539/impl.rewardFault -/
def v73 : VFun := {
 code :=
 (.seq
 (.region false [1, 2] [
 vo 2 (.box 107 (.t 0)),
 vo 4 (.asg (.c (.int .i64 0)))])
 (.seq
 (.block 0
 (.seq
 (.region false [1, 2, 5] [
 vo 6 (.fa 107 0 0 1 (.t 2)),
 vo 7 (.load 2 false 1 (.t 6)),
 vo 8 (.call 100 [(.t 7)]),
 vo 9 (.un .not (.t 8)),
 vo 10 (.mov (.t 9)),
 ⟨some 11, .fa 107 1 1 1 (.t 2), some (10, false), []⟩,
 ⟨some 12, .load 2 false 1 (.t 11), some (10, false), []⟩,
 ⟨some 13, .call 72 [(.t 12)], some (10, false), []⟩,
 ⟨some 14, .un .not (.t 13), some (10, false), []⟩,
 vo 15 (.pick (.t 10) (.c (.bool true)) (.t 14)),
 vo 16 (.mov (.t 15)),
 ⟨some 17, .fa 107 2 2 1 (.t 2), some (16, false), []⟩,
 ⟨some 18, .load 2 false 1 (.t 17), some (16, false), []⟩,
 ⟨some 19, .call 72 [(.t 18)], some (16, false), []⟩,
 ⟨some 20, .un .not (.t 19), some (16, false), []⟩,
 vo 21 (.pick (.t 16) (.c (.bool true)) (.t 20)),
 vo 22 (.mov (.t 21)),
 ⟨some 23, .fa 107 4 4 1 (.t 2), some (22, false), []⟩,
 ⟨some 24, .load 2 false 1 (.t 23), some (22, false), []⟩,
 ⟨some 25, .call 93 [(.t 24), (.c (.int .i64 1)), (.c (.int .i64 3))], some (22, false), []⟩,
 ⟨some 26, .un .not (.t 25), some (22, false), []⟩,
 vo 27 (.pick (.t 22) (.c (.bool true)) (.t 26)),
 vo 5 (.asg (.t 27))])
 (.cond (.t 5)
 (.seq
 (.region false [4] [
 vo 4 (.asg (.c (.int .i64 3)))])
 .ret)
 (.seq
 (.region true [1, 2, 28] [
 vo 29 (.fa 107 3 3 1 (.t 2)),
 vo 30 (.load 28 false 1 (.t 29)),
 vo 31 (.call 74 [(.t 30), (.c (.int .i64 12))]),
 vo 32 (.un .not (.t 31)),
 vo 33 (.mov (.t 32)),
 ⟨some 34, .fa 107 3 3 1 (.t 2), some (33, false), []⟩,
 ⟨some 35, .load 28 false 1 (.t 34), some (33, false), []⟩,
 ⟨some 36, .call 75 [(.t 35)], some (33, false), []⟩,
 ⟨some 37, .fa 107 2 2 1 (.t 2), some (33, false), [5, 6, 7]⟩,
 ⟨some 38, .load 2 false 1 (.t 37), some (33, false), [5, 6, 7]⟩,
 ⟨some 39, .bin false .add 2 (.t 36) (.t 38), some (33, false), []⟩,
 ⟨some 40, .fa 107 1 1 1 (.t 2), some (33, false), [5, 6, 7, 8, 9, 10]⟩,
 ⟨some 41, .load 2 false 1 (.t 40), some (33, false), [5, 6, 7, 8, 9, 10]⟩,
 ⟨some 42, .bin false .neq 2 (.t 39) (.t 41), some (33, false), []⟩,
 vo 43 (.pick (.t 33) (.c (.bool true)) (.t 42)),
 vo 28 (.asg (.t 43))])
 (.cond (.t 28)
 (.seq
 (.region false [4] [
 vo 4 (.asg (.c (.int .i64 1)))])
 .ret)
 (.seq
 (.region false [44] [
 vo 45 (.mov (.t 1)),
 vo 46 (.fa 107 0 0 1 (.t 2)),
 vo 47 (.load 2 false 1 (.t 46)),
 vo 48 (.call 90 [(.t 45), (.t 47)]),
 vo 49 (.bin false .geq 3 (.t 48) (.c (.int .i64 0))),
 vo 44 (.asg (.t 49))])
 (.cond (.t 44)
 (.seq
 (.region false [4] [
 vo 4 (.asg (.c (.int .i64 6)))])
 .ret)
 .skip)))))))
 (.seq
 (.region false [4] [
 vo 4 (.asg (.c (.int .i64 0)))])
 .ret)))
 modes := [.lend, .lend]
 rets := [⟨4, none⟩] }

def b74_0 : VC :=
 (.seq
 (.region false [0, 1, 7, 8, 9, 10] [
 vo 10 (.bin false .lss 3 (.t 9) (.t 8))])
 (.seq
 (.cond (.t 10)
 .skip
 (.exit 0))
 (.seq
 (.block 1
 (.seq
 (.region false [0, 1, 5, 6, 7, 8, 9] [
 vo 11 (.mov (.t 9)),
 vo 12 (.ia 28 46 2 (.t 7) (.t 9)),
 vo 13 (.load 46 true 2 (.t 12)),
 vo 6 (.alloc 46 [(.val (.string (⟨#[]⟩ : ByteArray))), (.val (.int .i64 0))]),
 vo 5 (.asg (.t 11)),
 vn (.store 46 2 (.t 6) (.t 13))])
 (.seq
 (.region true [0, 1, 7, 8, 9, 32] [
 vo 14 (.fa 46 0 0 1 (.t 6)),
 vo 15 (.load 9 false 1 (.t 14)),
 vo 16 (.call 113 [(.t 15)]),
 vo 17 (.un .not (.t 16)),
 vo 18 (.mov (.t 17)),
 ⟨some 19, .fa 46 1 1 1 (.t 6), some (18, false), []⟩,
 ⟨some 20, .load 2 false 1 (.t 19), some (18, false), []⟩,
 ⟨some 21, .call 72 [(.t 20)], some (18, false), []⟩,
 ⟨some 22, .un .not (.t 21), some (18, false), []⟩,
 vo 23 (.pick (.t 18) (.c (.bool true)) (.t 22)),
 vo 24 (.mov (.t 23)),
 ⟨some 25, .mov (.t 0), some (24, false), []⟩,
 ⟨some 26, .mov (.t 5), some (24, false), [11]⟩,
 ⟨some 27, .cut 28 (some 46) 2 (.t 25) none (some (.t 26)), some (24, false), []⟩,
 ⟨some 28, .fa 46 0 0 1 (.t 6), some (24, false), [11, 12, 13]⟩,
 ⟨some 29, .load 9 false 1 (.t 28), some (24, false), [11, 12, 13]⟩,
 ⟨some 30, .call 94 [(.t 27), (.t 29)], some (24, false), []⟩,
 ⟨some 31, .bin false .geq 3 (.t 30) (.c (.int .i64 0)), some (24, false), []⟩,
 vo 32 (.pick (.t 24) (.c (.bool true)) (.t 31))])
 (.cond (.t 32)
 (.seq
 (.region false [4] [
 vo 4 (.asg (.c (.bool false)))])
 .ret)
 .skip))))
 (.region false [0, 1, 7, 8, 9] [
 vo 33 (.bin false .add 3 (.t 9) (.c (.int .i64 1))),
 vo 9 (.mov (.t 33))]))))
def l74_0 : VC := .loop b74_0
/-- loop.example/g00539/impl.owedOk -/
def v74 : VFun := {
 code :=
 (.seq
 (.region false [0, 1] [
 vo 4 (.asg (.c (.bool false)))])
 (.seq
 (.seq
 (.region false [0, 1, 7, 8, 9] [
 vo 7 (.mov (.t 0)),
 vo 8 (.len false 28 (.t 7)),
 vo 9 (.mov (.c (.int .i64 0)))])
 (.block 0
 l74_0))
 (.seq
 (.region false [4] [
 vo 34 (.mov (.t 0)),
 vo 35 (.len false 28 (.t 34)),
 vo 36 (.mov (.t 1)),
 vo 37 (.bin false .leq 3 (.t 35) (.t 36)),
 vo 4 (.asg (.t 37))])
 .ret)))
 modes := [.lend, .lend]
 rets := [⟨4, none⟩] }

def b75_0 : VC :=
 (.seq
 (.region false [3, 6, 7, 8, 9] [
 vo 9 (.bin false .lss 3 (.t 8) (.t 7))])
 (.seq
 (.cond (.t 9)
 .skip
 (.exit 0))
 (.seq
 (.block 1
 (.seq
 (.region false [3, 5, 6, 7, 8] [
 vo 10 (.ia 28 46 2 (.t 6) (.t 8)),
 vo 11 (.load 46 true 2 (.t 10)),
 vo 5 (.alloc 46 [(.val (.string (⟨#[]⟩ : ByteArray))), (.val (.int .i64 0))]),
 vn (.store 46 2 (.t 5) (.t 11))])
 (.region false [3, 6, 7, 8] [
 vo 12 (.mov (.t 3)),
 vo 13 (.fa 46 1 1 1 (.t 5)),
 vo 14 (.load 2 false 1 (.t 13)),
 vo 15 (.bin false .add 2 (.t 12) (.t 14)),
 vo 3 (.asg (.t 15))])))
 (.region false [3, 6, 7, 8] [
 vo 16 (.bin false .add 3 (.t 8) (.c (.int .i64 1))),
 vo 8 (.mov (.t 16))]))))
def l75_0 : VC := .loop b75_0
/-- loop.example/g00539/impl.amounts -/
def v75 : VFun := {
 code :=
 (.seq
 (.region false [0] [
 vo 2 (.asg (.c (.int .i64 0)))])
 (.seq
 (.region false [0, 3] [
 vo 3 (.asg (.c (.int .i64 0)))])
 (.seq
 (.seq
 (.region false [3, 6, 7, 8] [
 vo 6 (.mov (.t 0)),
 vo 7 (.len false 28 (.t 6)),
 vo 8 (.mov (.c (.int .i64 0)))])
 (.block 0
 l75_0))
 (.seq
 (.region false [2] [
 vo 17 (.mov (.t 3)),
 vo 2 (.asg (.t 17))])
 .ret))))
 modes := [.lend]
 rets := [⟨2, none⟩] }

def b76_0 : VC :=
 (.seq
 (.region false [1, 5, 8, 9, 10, 11] [
 vo 11 (.bin false .lss 3 (.t 10) (.t 9))])
 (.seq
 (.cond (.t 11)
 .skip
 (.exit 0))
 (.seq
 (.block 1
 (.seq
 (.region false [1, 5, 7, 8, 9, 10] [
 vo 12 (.ia 29 107 5 (.t 8) (.t 10)),
 vo 13 (.load 107 true 5 (.t 12)),
 vo 7 (.alloc 107 [(.val (.int .i64 0)), (.val (.int .i64 0)), (.val (.int .i64 0)), (.nl 2), (.val (.int .i64 0))]),
 vn (.store 107 5 (.t 7) (.t 13))])
 (.seq
 (.region false [1, 5, 7, 8, 9, 10, 21] [
 vo 14 (.mov (.t 1)),
 vo 15 (.bin false .eql 2 (.t 14) (.c (.int .i64 0))),
 vo 16 (.mov (.t 15)),
 ⟨some 17, .fa 107 4 4 1 (.t 7), some (16, false), []⟩,
 ⟨some 18, .load 2 false 1 (.t 17), some (16, false), []⟩,
 ⟨some 19, .mov (.t 1), some (16, false), []⟩,
 ⟨some 20, .bin false .eql 2 (.t 18) (.t 19), some (16, false), []⟩,
 vo 21 (.pick (.t 16) (.c (.bool true)) (.t 20))])
 (.cond (.t 21)
 (.region false [1, 5, 8, 9, 10] [
 vo 22 (.mov (.t 5)),
 vo 23 (.fa 107 1 1 1 (.t 7)),
 vo 24 (.load 2 false 1 (.t 23)),
 vo 25 (.bin false .add 2 (.t 22) (.t 24)),
 vo 5 (.asg (.t 25))])
 .skip))))
 (.region false [1, 5, 8, 9, 10] [
 vo 26 (.bin false .add 3 (.t 10) (.c (.int .i64 1))),
 vo 10 (.mov (.t 26))]))))
def l76_0 : VC := .loop b76_0
/-- loop.example/g00539/impl.totals -/
def v76 : VFun := {
 code :=
 (.seq
 (.region false [0, 1] [
 vo 4 (.asg (.c (.int .i64 0)))])
 (.seq
 (.region false [0, 1, 5] [
 vo 5 (.asg (.c (.int .i64 0)))])
 (.seq
 (.seq
 (.region false [1, 5, 8, 9, 10] [
 vo 8 (.mov (.t 0)),
 vo 9 (.len false 29 (.t 8)),
 vo 10 (.mov (.c (.int .i64 0)))])
 (.block 0
 l76_0))
 (.seq
 (.region false [4] [
 vo 27 (.mov (.t 5)),
 vo 4 (.asg (.t 27))])
 .ret))))
 modes := [.lend, .lend]
 rets := [⟨4, none⟩] }

def b77_0 : VC :=
 (.seq
 (.seq
 (.region false [0, 1, 5, 14] [
 vo 11 (.mov (.t 5)),
 vo 12 (.mov (.t 0)),
 vo 13 (.len false 28 (.t 12)),
 vo 14 (.bin false .lss 3 (.t 11) (.t 13))])
 (.cond (.t 14)
 .skip
 (.exit 0)))
 (.seq
 (.block 1
 (.seq
 (.region true [0, 1, 5, 26] [
 vo 17 (.mov (.t 0)),
 ⟨some 18, .mov (.t 5), none, [0]⟩,
 vo 19 (.ia 28 46 2 (.t 17) (.t 18)),
 vo 20 (.load 46 true 2 (.t 19)),
 ⟨some 21, .mov (.t 1), none, [0, 1, 2, 3]⟩,
 ⟨some 22, .mov (.t 5), none, [0, 1, 2, 3, 4]⟩,
 ⟨some 23, .ia 28 46 2 (.t 21) (.t 22), none, [0, 1, 2, 3]⟩,
 ⟨some 24, .load 46 true 2 (.t 23), none, [0, 1, 2, 3]⟩,
 vo 25 (.call 137 [(.t 20), (.t 24)]),
 vo 26 (.un .not (.t 25))])
 (.cond (.t 26)
 (.seq
 (.region false [4] [
 vo 4 (.asg (.c (.bool false)))])
 .ret)
 .skip)))
 (.region false [0, 1, 5] [
 vo 15 (.mov (.t 5)),
 vo 16 (.bin false .add 3 (.t 15) (.c (.int .i64 1))),
 vo 5 (.asg (.t 16))])))
def l77_0 : VC := .loop b77_0
/-- loop.example/g00539/laws.eqWeightS -/
def v77 : VFun := {
 code :=
 (.seq
 (.region false [0, 1] [
 vo 4 (.asg (.c (.bool false)))])
 (.seq
 (.seq
 (.region false [0, 1, 10] [
 vo 6 (.mov (.t 0)),
 vo 7 (.len false 28 (.t 6)),
 vo 8 (.mov (.t 1)),
 vo 9 (.len false 28 (.t 8)),
 vo 10 (.bin false .neq 3 (.t 7) (.t 9))])
 (.cond (.t 10)
 (.seq
 (.region false [4] [
 vo 4 (.asg (.c (.bool false)))])
 .ret)
 .skip))
 (.seq
 (.seq
 (.region false [0, 1, 5] [
 vo 5 (.asg (.c (.int .i64 0)))])
 (.block 0
 l77_0))
 (.seq
 (.region false [4] [
 vo 4 (.asg (.c (.bool true)))])
 .ret))))
 modes := [.lend, .lend]
 rets := [⟨4, none⟩] }

def b78_0 : VC :=
 (.seq
 (.seq
 (.region false [0, 1, 5, 14] [
 vo 11 (.mov (.t 5)),
 vo 12 (.mov (.t 0)),
 vo 13 (.len false 29 (.t 12)),
 vo 14 (.bin false .lss 3 (.t 11) (.t 13))])
 (.cond (.t 14)
 .skip
 (.exit 0)))
 (.seq
 (.block 1
 (.seq
 (.region true [0, 1, 5, 26] [
 vo 17 (.mov (.t 0)),
 ⟨some 18, .mov (.t 5), none, [0]⟩,
 vo 19 (.ia 29 107 5 (.t 17) (.t 18)),
 vo 20 (.load 107 true 5 (.t 19)),
 ⟨some 21, .mov (.t 1), none, [0, 1, 2, 3]⟩,
 ⟨some 22, .mov (.t 5), none, [0, 1, 2, 3, 4]⟩,
 ⟨some 23, .ia 29 107 5 (.t 21) (.t 22), none, [0, 1, 2, 3]⟩,
 ⟨some 24, .load 107 true 5 (.t 23), none, [0, 1, 2, 3]⟩,
 vo 25 (.call 138 [(.t 20), (.t 24)]),
 vo 26 (.un .not (.t 25))])
 (.cond (.t 26)
 (.seq
 (.region false [4] [
 vo 4 (.asg (.c (.bool false)))])
 .ret)
 .skip)))
 (.region false [0, 1, 5] [
 vo 15 (.mov (.t 5)),
 vo 16 (.bin false .add 3 (.t 15) (.c (.int .i64 1))),
 vo 5 (.asg (.t 16))])))
def l78_0 : VC := .loop b78_0
/-- loop.example/g00539/laws.eqRewardS -/
def v78 : VFun := {
 code :=
 (.seq
 (.region false [0, 1] [
 vo 4 (.asg (.c (.bool false)))])
 (.seq
 (.seq
 (.region false [0, 1, 10] [
 vo 6 (.mov (.t 0)),
 vo 7 (.len false 29 (.t 6)),
 vo 8 (.mov (.t 1)),
 vo 9 (.len false 29 (.t 8)),
 vo 10 (.bin false .neq 3 (.t 7) (.t 9))])
 (.cond (.t 10)
 (.seq
 (.region false [4] [
 vo 4 (.asg (.c (.bool false)))])
 .ret)
 .skip))
 (.seq
 (.seq
 (.region false [0, 1, 5] [
 vo 5 (.asg (.c (.int .i64 0)))])
 (.block 0
 l78_0))
 (.seq
 (.region false [4] [
 vo 4 (.asg (.c (.bool true)))])
 .ret))))
 modes := [.lend, .lend]
 rets := [⟨4, none⟩] }

def b79_0 : VC :=
 (.seq
 (.seq
 (.region false [0, 1, 5, 9] [
 vo 6 (.mov (.t 5)),
 vo 7 (.mov (.t 0)),
 vo 8 (.len false 28 (.t 7)),
 vo 9 (.bin false .lss 3 (.t 6) (.t 8))])
 (.cond (.t 9)
 .skip
 (.exit 0)))
 (.seq
 (.block 1
 (.seq
 (.region false [0, 1, 5, 18] [
 vo 12 (.mov (.t 0)),
 vo 13 (.mov (.t 5)),
 vo 14 (.ia 28 46 2 (.t 12) (.t 13)),
 vo 15 (.fa 46 0 0 1 (.t 14)),
 vo 16 (.load 9 false 1 (.t 15)),
 vo 17 (.mov (.t 1)),
 vo 18 (.bin false .eql 9 (.t 16) (.t 17))])
 (.cond (.t 18)
 (.seq
 (.region false [4] [
 vo 19 (.mov (.t 5)),
 vo 4 (.asg (.t 19))])
 .ret)
 .skip)))
 (.region false [0, 1, 5] [
 vo 10 (.mov (.t 5)),
 vo 11 (.bin false .add 3 (.t 10) (.c (.int .i64 1))),
 vo 5 (.asg (.t 11))])))
def l79_0 : VC := .loop b79_0
/-- loop.example/g00539/spec.l13At -/
def v79 : VFun := {
 code :=
 (.seq
 (.region false [0, 1] [
 vo 4 (.asg (.c (.int .i64 0)))])
 (.seq
 (.seq
 (.region false [0, 1, 5] [
 vo 5 (.asg (.c (.int .i64 0)))])
 (.block 0
 l79_0))
 (.seq
 (.region false [4] [
 vo 4 (.asg (.c (.int .i64 (-1))))])
 .ret)))
 modes := [.lend, .lend]
 rets := [⟨4, none⟩] }

/-- loop.example/g00539/spec.l14Bad -/
def v81 : VFun := {
 code :=
 (.seq
 (.region false [0, 2] [
 vo 2 (.alloc 44 [(.val (.int .i64 0)), (.val (.int .i64 0)), (.val (.int .i64 0)), (.val (.int .i64 0)), (.nl 2), (.nl 5), (.nl 2), (.val (.int .i64 0)), (.val (.int .i64 0)), (.val (.int .i64 0))])])
 (.seq
 (.region false [2] [
 vo 3 (.mov (.t 0)),
 vo 4 (.build 44 [(.val (.int .i64 0)), (.val (.int .i64 0)), (.val (.int .i64 0)), (.val (.int .i64 0)), (.nl 2), (.nl 5), (.nl 2), (.val (.int .i64 0)), (.val (.int .i64 0)), (.val (.int .i64 0))] [(0, 0, 1, (.t 3))]),
 vn (.store 44 10 (.t 2) (.t 4))])
 .ret))
 modes := [.lend]
 rets := [⟨2, some (true, 10)⟩] }

/-- loop.example/g00539/spec.l14Credit -/
def v82 : VFun := {
 code :=
 (.seq
 (.region false [2, 3, 4] [
 vo 2 (.box 31 (.t 0)),
 vo 3 (.box 46 (.t 1)),
 vo 4 (.alloc 44 [(.val (.int .i64 0)), (.val (.int .i64 0)), (.val (.int .i64 0)), (.val (.int .i64 0)), (.nl 2), (.nl 5), (.nl 2), (.val (.int .i64 0)), (.val (.int .i64 0)), (.val (.int .i64 0))])])
 (.seq
 (.seq
 (.region false [2, 3, 4, 5] [
 vo 7 (.call 109 [(.t 3)]),
 vo 5 (.asg (.t 7))])
 (.seq
 (.region false [2, 3, 4, 5, 9] [
 vo 8 (.mov (.t 5)),
 vo 9 (.bin false .neq 2 (.t 8) (.c (.int .i64 0)))])
 (.cond (.t 9)
 (.seq
 (.region false [4] [
 vo 10 (.mov (.t 5)),
 vo 11 (.call 81 [(.t 10)]),
 vn (.store 44 10 (.t 4) (.t 11))])
 .ret)
 .skip)))
 (.seq
 (.region false [2, 3, 4, 6] [
 vo 12 (.load 31 true 8 (.t 2)),
 vo 13 (.call 139 [(.t 12)]),
 vo 6 (.alloc 31 [(.val (.int .i64 0)), (.val (.int .i64 0)), (.nl 2), (.nl 5), (.nl 2), (.val (.int .i64 0)), (.val (.int .i64 0)), (.val (.int .i64 0))]),
 vn (.store 31 8 (.t 6) (.t 13))])
 (.seq
 (.region false [4, 6] [
 vo 14 (.fa 31 2 2 1 (.t 2)),
 vo 15 (.load 28 false 1 (.t 14)),
 vo 16 (.load 46 true 2 (.t 3)),
 vo 17 (.fa 31 0 0 1 (.t 2)),
 vo 18 (.load 2 false 1 (.t 17)),
 vo 19 (.call 111 [(.t 15), (.t 16), (.t 18)]),
 vo 20 (.fa 31 2 2 1 (.t 6)),
 vn (.store 28 1 (.t 20) (.t 19))])
 (.seq
 (.region false [4] [
 vo 21 (.load 31 true 8 (.t 6)),
 vo 22 (.build 44 [(.val (.int .i64 0)), (.val (.int .i64 0)), (.val (.int .i64 0)), (.val (.int .i64 0)), (.nl 2), (.nl 5), (.nl 2), (.val (.int .i64 0)), (.val (.int .i64 0)), (.val (.int .i64 0))] [(2, 2, 8, (.t 21))]),
 vn (.store 44 10 (.t 4) (.t 22))])
 .ret)))))
 modes := [.lend, .lend]
 rets := [⟨4, some (true, 10)⟩] }

/-- loop.example/g00539/impl.changed -/
def v83 : VFun := {
 code :=
 (.seq
 (.region false [1, 2, 4] [
 vo 2 (.box 31 (.t 0)),
 vo 4 (.alloc 44 [(.val (.int .i64 0)), (.val (.int .i64 0)), (.val (.int .i64 0)), (.val (.int .i64 0)), (.nl 2), (.nl 5), (.nl 2), (.val (.int .i64 0)), (.val (.int .i64 0)), (.val (.int .i64 0))])])
 (.seq
 (.seq
 (.region false [1, 2, 4, 5] [
 vo 8 (.load 31 true 8 (.t 2)),
 vo 9 (.call 17 [(.t 8)]),
 vo 5 (.asg (.t 9))])
 (.seq
 (.region false [1, 2, 4, 5, 11] [
 vo 10 (.mov (.t 5)),
 vo 11 (.bin false .neq 2 (.t 10) (.c (.int .i64 0)))])
 (.cond (.t 11)
 (.seq
 (.region false [4] [
 vo 12 (.mov (.t 5)),
 vo 13 (.build 44 [(.val (.int .i64 0)), (.val (.int .i64 0)), (.val (.int .i64 0)), (.val (.int .i64 0)), (.nl 2), (.nl 5), (.nl 2), (.val (.int .i64 0)), (.val (.int .i64 0)), (.val (.int .i64 0))] [(0, 0, 1, (.t 12))]),
 vn (.store 44 10 (.t 4) (.t 13))])
 .ret)
 .skip)))
 (.seq
 (.region false [1, 4, 6] [
 vo 14 (.load 31 true 8 (.t 2)),
 vo 15 (.call 140 [(.t 14)]),
 vo 6 (.alloc 31 [(.val (.int .i64 0)), (.val (.int .i64 0)), (.nl 2), (.nl 5), (.nl 2), (.val (.int .i64 0)), (.val (.int .i64 0)), (.val (.int .i64 0))]),
 vn (.store 31 8 (.t 6) (.t 15))])
 (.seq
 (.seq
 (.region false [4, 6, 7] [
 vo 16 (.mov (.t 1)),
 vo 17 (.callv (.t 16) [(.t 6)]),
 vo 7 (.asg (.t 17))])
 (.seq
 (.region false [4, 6, 7, 19] [
 vo 18 (.mov (.t 7)),
 vo 19 (.bin false .neq 2 (.t 18) (.c (.int .i64 0)))])
 (.cond (.t 19)
 (.seq
 (.region false [4] [
 vo 20 (.mov (.t 7)),
 vo 21 (.build 44 [(.val (.int .i64 0)), (.val (.int .i64 0)), (.val (.int .i64 0)), (.val (.int .i64 0)), (.nl 2), (.nl 5), (.nl 2), (.val (.int .i64 0)), (.val (.int .i64 0)), (.val (.int .i64 0))] [(0, 0, 1, (.t 20))]),
 vn (.store 44 10 (.t 4) (.t 21))])
 .ret)
 .skip)))
 (.seq
 (.region false [4] [
 vo 22 (.load 31 true 8 (.t 6)),
 vo 23 (.build 44 [(.val (.int .i64 0)), (.val (.int .i64 0)), (.val (.int .i64 0)), (.val (.int .i64 0)), (.nl 2), (.nl 5), (.nl 2), (.val (.int .i64 0)), (.val (.int .i64 0)), (.val (.int .i64 0))] [(2, 2, 8, (.t 22))]),
 vn (.store 44 10 (.t 4) (.t 23))])
 .ret)))))
 modes := [.lend, .lend]
 rets := [⟨4, some (true, 10)⟩] }

/-- loop.example/g00539/impl.CreditShare$1 -/
def v84 : VFun := {
 code :=
 (.seq
 (.region false [0, 1] [
 vo 3 (.asg (.c (.int .i64 0)))])
 (.seq
 (.region true [0, 4] [
 vo 5 (.mov (.t 0)),
 vo 6 (.nilc (.t 5)),
 vo 7 (.fa 31 2 2 1 (.t 6)),
 vo 8 (.load 28 false 1 (.t 7)),
 ⟨some 9, .load 46 true 2 (.t 1), none, [0, 1, 2, 3]⟩,
 ⟨some 10, .mov (.t 0), none, [0, 1, 2, 3, 4]⟩,
 ⟨some 11, .nilc (.t 10), none, [0, 1, 2, 3, 4]⟩,
 ⟨some 12, .fa 31 0 0 1 (.t 11), none, [0, 1, 2, 3, 4]⟩,
 ⟨some 13, .load 2 false 1 (.t 12), none, [0, 1, 2, 3, 4]⟩,
 vo 14 (.call 40 [(.t 8), (.t 9), (.t 13)]),
 ⟨some 4, .alloc 63 [(.val (.int .i64 0)), (.nl 2)], none, [0, 1, 2, 3, 4, 5, 6, 7, 8, 9]⟩,
 vn (.store 63 2 (.t 4) (.t 14))])
 (.seq
 (.region false [0, 4] [
 vo 15 (.mov (.t 0)),
 vo 16 (.fa 63 1 1 1 (.t 4)),
 vo 17 (.load 28 false 1 (.t 16)),
 vo 18 (.nilc (.t 15)),
 vo 19 (.fa 31 2 2 1 (.t 18)),
 vn (.store 28 1 (.t 19) (.t 17))])
 (.seq
 (.region false [0, 3] [
 vo 20 (.fa 63 0 0 1 (.t 4)),
 vo 21 (.load 2 false 1 (.t 20)),
 vo 3 (.asg (.t 21))])
 .ret))))
 modes := [.io, .lend]
 rets := [⟨3, none⟩] }

def b85_0 : VC :=
 (.seq
 (.seq
 (.region false [0, 1, 5, 9] [
 vo 6 (.mov (.t 5)),
 vo 7 (.mov (.t 0)),
 vo 8 (.len false 28 (.t 7)),
 vo 9 (.bin false .lss 3 (.t 6) (.t 8))])
 (.cond (.t 9)
 .skip
 (.exit 0)))
 (.seq
 (.block 1
 (.seq
 (.region false [0, 1, 5] [
 vo 12 (.mov (.t 0)),
 vo 13 (.mov (.t 5)),
 vo 14 (.mov (.t 1)),
 vo 15 (.call 141 [(.t 14)]),
 vo 16 (.ia 28 46 2 (.t 12) (.t 13)),
 vo 17 (.fa 46 0 0 1 (.t 16)),
 vn (.store 9 1 (.t 17) (.t 15))])
 (.seq
 (.region false [0, 1, 5] [
 vo 18 (.mov (.t 1)),
 vo 19 (.bin false .add 3 (.t 18) (.c (.int .i64 1))),
 vo 1 (.asg (.t 19))])
 (.seq
 (.region false [0, 1, 5] [
 vo 20 (.mov (.t 0)),
 vo 21 (.mov (.t 5)),
 vo 22 (.mov (.t 1)),
 vo 23 (.ia 28 46 2 (.t 20) (.t 21)),
 vo 24 (.fa 46 1 1 1 (.t 23)),
 vn (.store 2 1 (.t 24) (.t 22))])
 (.region false [0, 1, 5] [
 vo 25 (.mov (.t 1)),
 vo 26 (.bin false .add 3 (.t 25) (.c (.int .i64 1))),
 vo 1 (.asg (.t 26))])))))
 (.region false [0, 1, 5] [
 vo 10 (.mov (.t 5)),
 vo 11 (.bin false .add 3 (.t 10) (.c (.int .i64 1))),
 vo 5 (.asg (.t 11))])))
def l85_0 : VC := .loop b85_0
/-- loop.example/g00539/laws.markWeightS -/
def v85 : VFun := {
 code :=
 (.seq
 (.region false [0, 1] [
 vo 4 (.asg (.c (.int .i64 0)))])
 (.seq
 (.seq
 (.region false [0, 1, 5] [
 vo 5 (.asg (.c (.int .i64 0)))])
 (.block 0
 l85_0))
 (.seq
 (.region false [0, 4] [
 vo 27 (.mov (.t 1)),
 vo 4 (.asg (.t 27))])
 .ret)))
 modes := [.io, .lend]
 rets := [⟨4, none⟩] }

def b86_0 : VC :=
 (.seq
 (.seq
 (.region false [0, 1, 5, 9] [
 vo 6 (.mov (.t 5)),
 vo 7 (.mov (.t 0)),
 vo 8 (.len false 29 (.t 7)),
 vo 9 (.bin false .lss 3 (.t 6) (.t 8))])
 (.cond (.t 9)
 .skip
 (.exit 0)))
 (.seq
 (.block 1
 (.seq
 (.region false [0, 1, 5] [
 vo 12 (.mov (.t 0)),
 vo 13 (.mov (.t 5)),
 vo 14 (.mov (.t 1)),
 vo 15 (.ia 29 107 5 (.t 12) (.t 13)),
 vo 16 (.fa 107 0 0 1 (.t 15)),
 vn (.store 2 1 (.t 16) (.t 14))])
 (.seq
 (.region false [0, 1, 5] [
 vo 17 (.mov (.t 1)),
 vo 18 (.bin false .add 3 (.t 17) (.c (.int .i64 1))),
 vo 1 (.asg (.t 18))])
 (.seq
 (.region false [0, 1, 5] [
 vo 19 (.mov (.t 0)),
 vo 20 (.mov (.t 5)),
 vo 21 (.mov (.t 1)),
 vo 22 (.ia 29 107 5 (.t 19) (.t 20)),
 vo 23 (.fa 107 1 1 1 (.t 22)),
 vn (.store 2 1 (.t 23) (.t 21))])
 (.seq
 (.region false [0, 1, 5] [
 vo 24 (.mov (.t 1)),
 vo 25 (.bin false .add 3 (.t 24) (.c (.int .i64 1))),
 vo 1 (.asg (.t 25))])
 (.seq
 (.region false [0, 1, 5] [
 vo 26 (.mov (.t 0)),
 vo 27 (.mov (.t 5)),
 vo 28 (.mov (.t 1)),
 vo 29 (.ia 29 107 5 (.t 26) (.t 27)),
 vo 30 (.fa 107 2 2 1 (.t 29)),
 vn (.store 2 1 (.t 30) (.t 28))])
 (.seq
 (.region false [0, 1, 5] [
 vo 31 (.mov (.t 1)),
 vo 32 (.bin false .add 3 (.t 31) (.c (.int .i64 1))),
 vo 1 (.asg (.t 32))])
 (.seq
 (.region false [0, 1, 5] [
 vo 33 (.mov (.t 0)),
 vo 34 (.mov (.t 5)),
 vo 35 (.ia 29 107 5 (.t 33) (.t 34)),
 vo 36 (.fa 107 3 3 1 (.t 35)),
 vo 37 (.load 28 false 1 (.t 36)),
 vo 38 (.mov (.t 1)),
 vo 39 (.call 85 [(.t 37), (.t 38)]),
 vo 1 (.asg (.t 39))])
 (.seq
 (.region false [0, 1, 5] [
 vo 40 (.mov (.t 0)),
 vo 41 (.mov (.t 5)),
 vo 42 (.mov (.t 1)),
 vo 43 (.ia 29 107 5 (.t 40) (.t 41)),
 vo 44 (.fa 107 4 4 1 (.t 43)),
 vn (.store 2 1 (.t 44) (.t 42))])
 (.region false [0, 1, 5] [
 vo 45 (.mov (.t 1)),
 vo 46 (.bin false .add 3 (.t 45) (.c (.int .i64 1))),
 vo 1 (.asg (.t 46))]))))))))))
 (.region false [0, 1, 5] [
 vo 10 (.mov (.t 5)),
 vo 11 (.bin false .add 3 (.t 10) (.c (.int .i64 1))),
 vo 5 (.asg (.t 11))])))
def l86_0 : VC := .loop b86_0
/-- loop.example/g00539/laws.markRewardS -/
def v86 : VFun := {
 code :=
 (.seq
 (.region false [0, 1] [
 vo 4 (.asg (.c (.int .i64 0)))])
 (.seq
 (.seq
 (.region false [0, 1, 5] [
 vo 5 (.asg (.c (.int .i64 0)))])
 (.block 0
 l86_0))
 (.seq
 (.region false [0, 4] [
 vo 47 (.mov (.t 1)),
 vo 4 (.asg (.t 47))])
 .ret)))
 modes := [.io, .lend]
 rets := [⟨4, none⟩] }

/-- loop.example/g00539/laws.heldLedger -/
def v87 : VFun := {
 code :=
 (.seq
 (.region false [1, 2] [
 vo 2 (.box 31 (.t 0)),
 vo 4 (.asg (.c (.int .i64 0)))])
 (.seq
 (.region false [1, 2] [
 vo 5 (.fa 31 2 2 1 (.t 2)),
 vo 6 (.load 28 false 1 (.t 5)),
 vo 7 (.mov (.t 1)),
 vo 8 (.call 142 [(.t 6), (.t 7)]),
 vo 1 (.asg (.t 8))])
 (.seq
 (.seq
 (.region false [1, 2, 10] [
 vo 9 (.mov (.t 1)),
 vo 10 (.bin false .lss 3 (.t 9) (.c (.int .i64 0)))])
 (.cond (.t 10)
 (.seq
 (.region false [4] [
 vo 4 (.asg (.c (.int .i64 (-1))))])
 .ret)
 .skip))
 (.seq
 (.region false [1, 2] [
 vo 11 (.fa 31 3 3 1 (.t 2)),
 vo 12 (.load 29 false 1 (.t 11)),
 vo 13 (.mov (.t 1)),
 vo 14 (.call 143 [(.t 12), (.t 13)]),
 vo 1 (.asg (.t 14))])
 (.seq
 (.seq
 (.region false [1, 2, 16] [
 vo 15 (.mov (.t 1)),
 vo 16 (.bin false .lss 3 (.t 15) (.c (.int .i64 0)))])
 (.cond (.t 16)
 (.seq
 (.region false [4] [
 vo 4 (.asg (.c (.int .i64 (-1))))])
 .ret)
 .skip))
 (.seq
 (.region false [1] [
 vo 17 (.fa 31 4 4 1 (.t 2)),
 vo 18 (.load 28 false 1 (.t 17)),
 vo 19 (.mov (.t 1)),
 vo 20 (.call 142 [(.t 18), (.t 19)]),
 vo 1 (.asg (.t 20))])
 (.seq
 (.seq
 (.region false [1, 22] [
 vo 21 (.mov (.t 1)),
 vo 22 (.bin false .lss 3 (.t 21) (.c (.int .i64 0)))])
 (.cond (.t 22)
 (.seq
 (.region false [4] [
 vo 4 (.asg (.c (.int .i64 (-1))))])
 .ret)
 .skip))
 (.seq
 (.region false [4] [
 vo 23 (.mov (.t 1)),
 vo 4 (.asg (.t 23))])
 .ret))))))))
 modes := [.lend, .lend]
 rets := [⟨4, none⟩] }

/-- loop.example/g00539/impl.rewardAt -/
def v90 : VFun := {
 code :=
 (.seq
 (.region false [0, 3] [
 vo 3 (.box 2 (.t 1)),
 vo 4 (.asg (.c (.int .i64 0)))])
 (.seq
 (.region false [4] [
 vo 5 (.mov (.t 0)),
 vo 6 (.fn 146 [] [(.t 3)]),
 vo 7 (.call 145 [(.t 5), (.t 6)]),
 vo 4 (.asg (.t 7))])
 .ret))
 modes := [.lend, .lend]
 rets := [⟨4, none⟩] }

/-- loop.example/g00539/impl.in -/
def v93 : VFun := {
 code :=
 (.seq
 (.region false [0, 1, 2] [
 vo 6 (.asg (.c (.bool false)))])
 (.seq
 (.region false [6] [
 vo 7 (.mov (.t 0)),
 vo 8 (.mov (.t 1)),
 vo 9 (.bin false .geq 2 (.t 7) (.t 8)),
 vo 10 (.mov (.t 9)),
 ⟨some 11, .mov (.t 0), some (10, true), []⟩,
 ⟨some 12, .mov (.t 2), some (10, true), []⟩,
 ⟨some 13, .bin false .leq 2 (.t 11) (.t 12), some (10, true), []⟩,
 vo 14 (.pick (.t 10) (.t 13) (.c (.bool false))),
 vo 6 (.asg (.t 14))])
 .ret))
 modes := [.lend, .lend, .lend]
 rets := [⟨6, none⟩] }

/-- loop.example/g00539/impl.weightAt -/
def v94 : VFun := {
 code :=
 (.seq
 (.region false [0, 3] [
 vo 3 (.box 9 (.t 1)),
 vo 4 (.asg (.c (.int .i64 0)))])
 (.seq
 (.region false [4] [
 vo 5 (.mov (.t 0)),
 vo 6 (.fn 148 [] [(.t 3)]),
 vo 7 (.call 147 [(.t 5), (.t 6)]),
 vo 4 (.asg (.t 7))])
 .ret))
 modes := [.lend, .lend]
 rets := [⟨4, none⟩] }

/-- loop.example/g00539/impl.isSum -/
def v100 : VFun := {
 code :=
 (.seq
 (.region false [0] [
 vo 2 (.asg (.c (.bool false)))])
 (.seq
 (.region false [2] [
 vo 3 (.mov (.t 0)),
 vo 4 (.call 93 [(.t 3), (.c (.int .i64 0)), (.c (.int .i64 2147483646))]),
 vo 2 (.asg (.t 4))])
 .ret))
 modes := [.lend]
 rets := [⟨2, none⟩] }

def b107_0 : VC :=
 (.seq
 (.seq
 (.region false [0, 3, 11] [
 vo 8 (.mov (.t 3)),
 vo 9 (.mov (.t 0)),
 vo 10 (.len false 28 (.t 9)),
 vo 11 (.bin false .lss 3 (.t 8) (.t 10))])
 (.cond (.t 11)
 .skip
 (.exit 0)))
 (.seq
 (.block 1
 (.seq
 (.region false [0, 3, 4] [
 vo 14 (.mov (.t 0)),
 vo 15 (.mov (.t 3)),
 vo 16 (.ia 28 46 2 (.t 14) (.t 15)),
 vo 17 (.call 109 [(.t 16)]),
 vo 4 (.asg (.t 17))])
 (.seq
 (.region false [0, 3, 4, 19] [
 vo 18 (.mov (.t 4)),
 vo 19 (.bin false .neq 2 (.t 18) (.c (.int .i64 0)))])
 (.cond (.t 19)
 (.seq
 (.region false [2] [
 vo 20 (.mov (.t 4)),
 vo 2 (.asg (.t 20))])
 .ret)
 .skip))))
 (.region false [0, 3] [
 vo 12 (.mov (.t 3)),
 vo 13 (.bin false .add 3 (.t 12) (.c (.int .i64 1))),
 vo 3 (.asg (.t 13))])))
def l107_0 : VC := .loop b107_0
/-- loop.example/g00539/spec.l13Fault -/
def v107 : VFun := {
 code :=
 (.seq
 (.region false [0] [
 vo 2 (.asg (.c (.int .i64 0)))])
 (.seq
 (.seq
 (.region false [0, 7] [
 vo 5 (.mov (.t 0)),
 vo 6 (.len false 28 (.t 5)),
 vo 7 (.bin false .gtr 3 (.t 6) (.c (.int .i64 12)))])
 (.cond (.t 7)
 (.seq
 (.region false [2] [
 vo 2 (.asg (.c (.int .i64 2)))])
 .ret)
 .skip))
 (.seq
 (.seq
 (.region false [0, 3] [
 vo 3 (.asg (.c (.int .i64 0)))])
 (.block 0
 l107_0))
 (.seq
 (.region false [2] [
 vo 2 (.asg (.c (.int .i64 0)))])
 .ret))))
 modes := [.lend]
 rets := [⟨2, none⟩] }

/-- loop.example/g00539/spec.l13One -/
def v109 : VFun := {
 code :=
 (.seq
 (.region false [0] [
 vo 2 (.asg (.c (.int .i64 0)))])
 (.seq
 (.seq
 (.region false [0, 15] [
 vo 3 (.mov (.t 0)),
 vo 4 (.nilc (.t 3)),
 vo 5 (.fa 46 0 0 1 (.t 4)),
 vo 6 (.load 9 false 1 (.t 5)),
 vo 7 (.bin false .eql 9 (.t 6) (.c (.string (⟨#[]⟩ : ByteArray)))),
 vo 8 (.mov (.t 7)),
 ⟨some 9, .mov (.t 0), some (8, false), []⟩,
 ⟨some 10, .nilc (.t 9), some (8, false), []⟩,
 ⟨some 11, .fa 46 0 0 1 (.t 10), some (8, false), []⟩,
 ⟨some 12, .load 9 false 1 (.t 11), some (8, false), []⟩,
 ⟨some 13, .call 154 [(.t 12)], some (8, false), []⟩,
 ⟨some 14, .un .not (.t 13), some (8, false), []⟩,
 vo 15 (.pick (.t 8) (.c (.bool true)) (.t 14))])
 (.cond (.t 15)
 (.seq
 (.region false [2] [
 vo 2 (.asg (.c (.int .i64 5)))])
 .ret)
 .skip))
 (.seq
 (.seq
 (.region false [21] [
 vo 16 (.mov (.t 0)),
 vo 17 (.nilc (.t 16)),
 vo 18 (.fa 46 1 1 1 (.t 17)),
 vo 19 (.load 2 false 1 (.t 18)),
 vo 20 (.call 110 [(.t 19), (.c (.int .i64 1)), (.c (.int .i64 9999))]),
 vo 21 (.un .not (.t 20))])
 (.cond (.t 21)
 (.seq
 (.region false [2] [
 vo 2 (.asg (.c (.int .i64 3)))])
 .ret)
 .skip))
 (.seq
 (.region false [2] [
 vo 2 (.asg (.c (.int .i64 0)))])
 .ret))))
 modes := [.lend]
 rets := [⟨2, none⟩] }

/-- loop.example/g00539/spec.l1In -/
def v110 : VFun := {
 code :=
 (.seq
 (.region false [0, 1, 2] [
 vo 6 (.asg (.c (.bool false)))])
 (.seq
 (.region false [6] [
 vo 7 (.mov (.t 0)),
 vo 8 (.mov (.t 1)),
 vo 9 (.bin false .geq 2 (.t 7) (.t 8)),
 vo 10 (.mov (.t 9)),
 ⟨some 11, .mov (.t 0), some (10, true), []⟩,
 ⟨some 12, .mov (.t 2), some (10, true), []⟩,
 ⟨some 13, .bin false .leq 2 (.t 11) (.t 12), some (10, true), []⟩,
 vo 14 (.pick (.t 10) (.t 13) (.c (.bool false))),
 vo 6 (.asg (.t 14))])
 .ret))
 modes := [.lend, .lend, .lend]
 rets := [⟨6, none⟩] }

def b111_0 : VC :=
 (.seq
 (.seq
 (.region false [2, 7, 13, 17] [
 vo 14 (.mov (.t 7)),
 vo 15 (.len false 28 (.t 14)),
 vo 16 (.mov (.t 2)),
 vo 17 (.bin false .gtr 2 (.t 15) (.t 16))])
 (.cond (.t 17)
 .skip
 (.exit 0)))
 (.block 1
 (.region false [2, 7, 13] [
 vo 18 (.mov (.t 7)),
 vo 19 (.cut 28 (some 46) 2 (.t 18) (some (.c (.int .i64 1))) none),
 vo 7 (.asg (.t 19))])))
def l111_0 : VC := .loop b111_0
/-- loop.example/g00539/spec.l13Push -/
def v111 : VFun := {
 code :=
 (.seq
 (.region false [0, 2, 4] [
 vo 4 (.box 46 (.t 1)),
 vo 6 (.asg (.n 2))])
 (.seq
 (.region true [2, 7, 13] [
 vo 8 (.lit 28 46 2 0 [(.val (.string (⟨#[]⟩ : ByteArray))), (.val (.int .i64 0))] []),
 ⟨some 9, .mov (.t 0), none, [0]⟩,
 vo 10 (.app 28 46 2 24 (.t 8) (.t 9)),
 ⟨some 11, .load 46 true 2 (.t 4), none, [0, 1, 2]⟩,
 ⟨some 12, .lit 28 46 2 1 [(.val (.string (⟨#[]⟩ : ByteArray))), (.val (.int .i64 0))] [(0, (.t 11))], none, [0, 1, 2]⟩,
 vo 13 (.app 28 46 2 24 (.t 10) (.t 12)),
 vo 7 (.asg (.t 13))])
 (.seq
 (.block 0
 l111_0)
 (.seq
 (.region false [6, 22] [
 vo 20 (.lit 28 46 2 0 [(.val (.string (⟨#[]⟩ : ByteArray))), (.val (.int .i64 0))] []),
 vo 21 (.mov (.t 7)),
 vo 22 (.app 28 46 2 24 (.t 20) (.t 21)),
 vo 6 (.asg (.t 22))])
 .ret))))
 modes := [.lend, .lend, .lend]
 rets := [⟨6, none⟩] }

/-- loop.example/g00539/impl.workerOk -/
def v113 : VFun := {
 code :=
 (.seq
 (.region false [0] [
 vo 2 (.asg (.c (.bool false)))])
 (.seq
 (.region false [2] [
 vo 3 (.mov (.t 0)),
 vo 4 (.bin false .neq 9 (.t 3) (.c (.string (⟨#[]⟩ : ByteArray)))),
 vo 5 (.mov (.t 4)),
 ⟨some 6, .mov (.t 0), some (5, true), []⟩,
 ⟨some 7, .call 155 [(.t 6)], some (5, true), []⟩,
 vo 8 (.pick (.t 5) (.t 7) (.c (.bool false))),
 vo 2 (.asg (.t 8))])
 .ret))
 modes := [.lend]
 rets := [⟨2, none⟩] }

/-- loop.example/g00539/spec.l1Amount -/
def v115 : VFun := {
 code :=
 (.seq
 (.region false [0] [
 vo 2 (.asg (.c (.bool false)))])
 (.seq
 (.region false [2] [
 vo 3 (.mov (.t 0)),
 vo 4 (.call 110 [(.t 3), (.c (.int .i64 0)), (.c (.int .i64 1000000))]),
 vo 2 (.asg (.t 4))])
 .ret))
 modes := [.lend]
 rets := [⟨2, none⟩] }

/-- loop.example/g00539/laws.szReward -/
def v130 : VFun := {
 code :=
 (.seq
 (.region false [1, 2] [
 vo 2 (.box 156 (.t 0)),
 vo 4 (.asg (.c (.int .i64 0)))])
 (.seq
 (.region false [1] [
 vo 5 (.fa 156 3 3 1 (.t 2)),
 vo 6 (.load 22 false 1 (.t 5)),
 vo 7 (.mov (.t 1)),
 vo 8 (.call 66 [(.t 6), (.t 7)]),
 vo 1 (.asg (.t 8))])
 (.seq
 (.seq
 (.region false [1, 10] [
 vo 9 (.mov (.t 1)),
 vo 10 (.bin false .lss 3 (.t 9) (.c (.int .i64 0)))])
 (.cond (.t 10)
 (.seq
 (.region false [4] [
 vo 4 (.asg (.c (.int .i64 (-1))))])
 .ret)
 .skip))
 (.seq
 (.region false [4] [
 vo 11 (.mov (.t 1)),
 vo 4 (.asg (.t 11))])
 .ret))))
 modes := [.lend, .lend]
 rets := [⟨4, none⟩] }

/-- loop.example/g00539/spec.l14Ranges -/
def v131 : VFun := {
 code :=
 (.seq
 (.region false [0] [
 vo 2 (.asg (.c (.bool false)))])
 (.seq
 (.region false [2] [
 vo 3 (.mov (.t 0)),
 vo 4 (.nilc (.t 3)),
 vo 5 (.fa 31 0 0 1 (.t 4)),
 vo 6 (.load 2 false 1 (.t 5)),
 vo 7 (.call 110 [(.t 6), (.c (.int .i64 1)), (.c (.int .i64 12))]),
 vo 8 (.mov (.t 7)),
 ⟨some 9, .mov (.t 0), some (8, true), []⟩,
 ⟨some 10, .nilc (.t 9), some (8, true), []⟩,
 ⟨some 11, .fa 31 1 1 1 (.t 10), some (8, true), []⟩,
 ⟨some 12, .load 2 false 1 (.t 11), some (8, true), []⟩,
 ⟨some 13, .call 110 [(.t 12), (.c (.int .i64 0)), (.c (.int .i64 1000))], some (8, true), []⟩,
 vo 14 (.pick (.t 8) (.t 13) (.c (.bool false))),
 vo 15 (.mov (.t 14)),
 ⟨some 16, .mov (.t 0), some (15, true), []⟩,
 ⟨some 17, .nilc (.t 16), some (15, true), []⟩,
 ⟨some 18, .fa 31 5 5 1 (.t 17), some (15, true), []⟩,
 ⟨some 19, .load 2 false 1 (.t 18), some (15, true), []⟩,
 ⟨some 20, .call 115 [(.t 19)], some (15, true), []⟩,
 vo 21 (.pick (.t 15) (.t 20) (.c (.bool false))),
 vo 22 (.mov (.t 21)),
 ⟨some 23, .mov (.t 0), some (22, true), []⟩,
 ⟨some 24, .nilc (.t 23), some (22, true), []⟩,
 ⟨some 25, .fa 31 6 6 1 (.t 24), some (22, true), []⟩,
 ⟨some 26, .load 2 false 1 (.t 25), some (22, true), []⟩,
 ⟨some 27, .call 115 [(.t 26)], some (22, true), []⟩,
 vo 28 (.pick (.t 22) (.t 27) (.c (.bool false))),
 vo 29 (.mov (.t 28)),
 ⟨some 30, .mov (.t 0), some (29, true), []⟩,
 ⟨some 31, .nilc (.t 30), some (29, true), []⟩,
 ⟨some 32, .fa 31 7 7 1 (.t 31), some (29, true), []⟩,
 ⟨some 33, .load 2 false 1 (.t 32), some (29, true), []⟩,
 ⟨some 34, .call 115 [(.t 33)], some (29, true), []⟩,
 vo 35 (.pick (.t 29) (.t 34) (.c (.bool false))),
 vo 2 (.asg (.t 35))])
 .ret))
 modes := [.lend]
 rets := [⟨2, none⟩] }

/-- loop.example/g00539/spec.l14Reward -/
def v132 : VFun := {
 code :=
 (.seq
 (.region false [0, 1] [
 vo 4 (.asg (.c (.int .i64 0)))])
 (.seq
 (.region false [0, 1, 5] [
 vo 6 (.mov (.t 0)),
 vo 7 (.mov (.t 1)),
 vo 8 (.ia 29 107 5 (.t 6) (.t 7)),
 vo 5 (.asg (.t 8))])
 (.seq
 (.seq
 (.region false [0, 1, 5, 38] [
 vo 9 (.mov (.t 5)),
 vo 10 (.nilc (.t 9)),
 vo 11 (.fa 107 0 0 1 (.t 10)),
 vo 12 (.load 2 false 1 (.t 11)),
 vo 13 (.call 150 [(.t 12)]),
 vo 14 (.un .not (.t 13)),
 vo 15 (.mov (.t 14)),
 ⟨some 16, .mov (.t 5), some (15, false), []⟩,
 ⟨some 17, .nilc (.t 16), some (15, false), []⟩,
 ⟨some 18, .fa 107 1 1 1 (.t 17), some (15, false), []⟩,
 ⟨some 19, .load 2 false 1 (.t 18), some (15, false), []⟩,
 ⟨some 20, .call 115 [(.t 19)], some (15, false), []⟩,
 ⟨some 21, .un .not (.t 20), some (15, false), []⟩,
 vo 22 (.pick (.t 15) (.c (.bool true)) (.t 21)),
 vo 23 (.mov (.t 22)),
 ⟨some 24, .mov (.t 5), some (23, false), []⟩,
 ⟨some 25, .nilc (.t 24), some (23, false), []⟩,
 ⟨some 26, .fa 107 2 2 1 (.t 25), some (23, false), []⟩,
 ⟨some 27, .load 2 false 1 (.t 26), some (23, false), []⟩,
 ⟨some 28, .call 115 [(.t 27)], some (23, false), []⟩,
 ⟨some 29, .un .not (.t 28), some (23, false), []⟩,
 vo 30 (.pick (.t 23) (.c (.bool true)) (.t 29)),
 vo 31 (.mov (.t 30)),
 ⟨some 32, .mov (.t 5), some (31, false), []⟩,
 ⟨some 33, .nilc (.t 32), some (31, false), []⟩,
 ⟨some 34, .fa 107 4 4 1 (.t 33), some (31, false), []⟩,
 ⟨some 35, .load 2 false 1 (.t 34), some (31, false), []⟩,
 ⟨some 36, .call 110 [(.t 35), (.c (.int .i64 1)), (.c (.int .i64 3))], some (31, false), []⟩,
 ⟨some 37, .un .not (.t 36), some (31, false), []⟩,
 vo 38 (.pick (.t 31) (.c (.bool true)) (.t 37))])
 (.cond (.t 38)
 (.seq
 (.region false [4] [
 vo 4 (.asg (.c (.int .i64 3)))])
 .ret)
 .skip))
 (.seq
 (.seq
 (.region true [0, 1, 5, 69] [
 vo 39 (.mov (.t 5)),
 vo 40 (.nilc (.t 39)),
 vo 41 (.fa 107 3 3 1 (.t 40)),
 vo 42 (.load 28 false 1 (.t 41)),
 vo 43 (.len false 28 (.t 42)),
 vo 44 (.bin false .gtr 3 (.t 43) (.c (.int .i64 12))),
 vo 45 (.mov (.t 44)),
 ⟨some 46, .mov (.t 5), some (45, false), []⟩,
 ⟨some 47, .nilc (.t 46), some (45, false), []⟩,
 ⟨some 48, .fa 107 3 3 1 (.t 47), some (45, false), []⟩,
 ⟨some 49, .load 28 false 1 (.t 48), some (45, false), []⟩,
 ⟨some 50, .call 133 [(.t 49)], some (45, false), []⟩,
 ⟨some 51, .un .not (.t 50), some (45, false), []⟩,
 vo 52 (.pick (.t 45) (.c (.bool true)) (.t 51)),
 vo 53 (.mov (.t 52)),
 ⟨some 54, .mov (.t 5), some (53, false), []⟩,
 ⟨some 55, .nilc (.t 54), some (53, false), []⟩,
 ⟨some 56, .fa 107 3 3 1 (.t 55), some (53, false), []⟩,
 ⟨some 57, .load 28 false 1 (.t 56), some (53, false), []⟩,
 ⟨some 58, .call 134 [(.t 57)], some (53, false), []⟩,
 ⟨some 59, .mov (.t 5), some (53, false), [15, 16, 17, 18, 19]⟩,
 ⟨some 60, .nilc (.t 59), some (53, false), [15, 16, 17, 18, 19]⟩,
 ⟨some 61, .fa 107 2 2 1 (.t 60), some (53, false), [15, 16, 17, 18, 19]⟩,
 ⟨some 62, .load 2 false 1 (.t 61), some (53, false), [15, 16, 17, 18, 19]⟩,
 ⟨some 63, .bin false .add 2 (.t 58) (.t 62), some (53, false), []⟩,
 ⟨some 64, .mov (.t 5), some (53, false), [15, 16, 17, 18, 19, 20, 21, 22, 23, 24]⟩,
 ⟨some 65, .nilc (.t 64), some (53, false), [15, 16, 17, 18, 19, 20, 21, 22, 23, 24]⟩,
 ⟨some 66, .fa 107 1 1 1 (.t 65), some (53, false), [15, 16, 17, 18, 19, 20, 21, 22, 23, 24]⟩,
 ⟨some 67, .load 2 false 1 (.t 66), some (53, false), [15, 16, 17, 18, 19, 20, 21, 22, 23, 24]⟩,
 ⟨some 68, .bin false .neq 2 (.t 63) (.t 67), some (53, false), []⟩,
 vo 69 (.pick (.t 53) (.c (.bool true)) (.t 68))])
 (.cond (.t 69)
 (.seq
 (.region false [4] [
 vo 4 (.asg (.c (.int .i64 1)))])
 .ret)
 .skip))
 (.seq
 (.seq
 (.region true [78] [
 vo 70 (.mov (.t 0)),
 ⟨some 71, .mov (.t 1), none, [0]⟩,
 vo 72 (.cut 29 (some 107) 5 (.t 70) none (some (.t 71))),
 ⟨some 73, .mov (.t 5), none, [0, 1, 2]⟩,
 ⟨some 74, .nilc (.t 73), none, [0, 1, 2]⟩,
 ⟨some 75, .fa 107 0 0 1 (.t 74), none, [0, 1, 2]⟩,
 ⟨some 76, .load 2 false 1 (.t 75), none, [0, 1, 2]⟩,
 vo 77 (.call 144 [(.t 72), (.t 76)]),
 vo 78 (.bin false .geq 3 (.t 77) (.c (.int .i64 0)))])
 (.cond (.t 78)
 (.seq
 (.region false [4] [
 vo 4 (.asg (.c (.int .i64 6)))])
 .ret)
 .skip))
 (.seq
 (.region false [4] [
 vo 4 (.asg (.c (.int .i64 0)))])
 .ret))))))
 modes := [.lend, .lend]
 rets := [⟨4, none⟩] }

def b133_0 : VC :=
 (.seq
 (.seq
 (.region false [0, 3, 7] [
 vo 4 (.mov (.t 3)),
 vo 5 (.mov (.t 0)),
 vo 6 (.len false 28 (.t 5)),
 vo 7 (.bin false .lss 3 (.t 4) (.t 6))])
 (.cond (.t 7)
 .skip
 (.exit 0)))
 (.seq
 (.block 1
 (.seq
 (.region false [0, 3, 44] [
 vo 10 (.mov (.t 0)),
 vo 11 (.mov (.t 3)),
 vo 12 (.ia 28 46 2 (.t 10) (.t 11)),
 vo 13 (.fa 46 0 0 1 (.t 12)),
 vo 14 (.load 9 false 1 (.t 13)),
 vo 15 (.bin false .eql 9 (.t 14) (.c (.string (⟨#[]⟩ : ByteArray)))),
 vo 16 (.mov (.t 15)),
 ⟨some 17, .mov (.t 0), some (16, false), []⟩,
 ⟨some 18, .mov (.t 3), some (16, false), []⟩,
 ⟨some 19, .ia 28 46 2 (.t 17) (.t 18), some (16, false), []⟩,
 ⟨some 20, .fa 46 0 0 1 (.t 19), some (16, false), []⟩,
 ⟨some 21, .load 9 false 1 (.t 20), some (16, false), []⟩,
 ⟨some 22, .call 154 [(.t 21)], some (16, false), []⟩,
 ⟨some 23, .un .not (.t 22), some (16, false), []⟩,
 vo 24 (.pick (.t 16) (.c (.bool true)) (.t 23)),
 vo 25 (.mov (.t 24)),
 ⟨some 26, .mov (.t 0), some (25, false), []⟩,
 ⟨some 27, .mov (.t 3), some (25, false), []⟩,
 ⟨some 28, .ia 28 46 2 (.t 26) (.t 27), some (25, false), []⟩,
 ⟨some 29, .fa 46 1 1 1 (.t 28), some (25, false), []⟩,
 ⟨some 30, .load 2 false 1 (.t 29), some (25, false), []⟩,
 ⟨some 31, .call 115 [(.t 30)], some (25, false), []⟩,
 ⟨some 32, .un .not (.t 31), some (25, false), []⟩,
 vo 33 (.pick (.t 25) (.c (.bool true)) (.t 32)),
 vo 34 (.mov (.t 33)),
 ⟨some 35, .mov (.t 0), some (34, false), []⟩,
 ⟨some 36, .mov (.t 0), some (34, false), []⟩,
 ⟨some 37, .mov (.t 3), some (34, false), []⟩,
 ⟨some 38, .ia 28 46 2 (.t 36) (.t 37), some (34, false), []⟩,
 ⟨some 39, .fa 46 0 0 1 (.t 38), some (34, false), []⟩,
 ⟨some 40, .load 9 false 1 (.t 39), some (34, false), []⟩,
 ⟨some 41, .call 79 [(.t 35), (.t 40)], some (34, false), []⟩,
 ⟨some 42, .mov (.t 3), some (34, false), []⟩,
 ⟨some 43, .bin false .neq 3 (.t 41) (.t 42), some (34, false), []⟩,
 vo 44 (.pick (.t 34) (.c (.bool true)) (.t 43))])
 (.cond (.t 44)
 (.seq
 (.region false [2] [
 vo 2 (.asg (.c (.bool false)))])
 .ret)
 .skip)))
 (.region false [0, 3] [
 vo 8 (.mov (.t 3)),
 vo 9 (.bin false .add 3 (.t 8) (.c (.int .i64 1))),
 vo 3 (.asg (.t 9))])))
def l133_0 : VC := .loop b133_0
/-- loop.example/g00539/spec.l14Parts -/
def v133 : VFun := {
 code :=
 (.seq
 (.region false [0] [
 vo 2 (.asg (.c (.bool false)))])
 (.seq
 (.seq
 (.region false [0, 3] [
 vo 3 (.asg (.c (.int .i64 0)))])
 (.block 0
 l133_0))
 (.seq
 (.region false [2] [
 vo 2 (.asg (.c (.bool true)))])
 .ret)))
 modes := [.lend]
 rets := [⟨2, none⟩] }

def b134_0 : VC :=
 (.seq
 (.seq
 (.region false [0, 3, 4, 8] [
 vo 5 (.mov (.t 4)),
 vo 6 (.mov (.t 0)),
 vo 7 (.len false 28 (.t 6)),
 vo 8 (.bin false .lss 3 (.t 5) (.t 7))])
 (.cond (.t 8)
 .skip
 (.exit 0)))
 (.seq
 (.block 1
 (.region false [0, 3, 4] [
 vo 11 (.mov (.t 3)),
 vo 12 (.mov (.t 0)),
 vo 13 (.mov (.t 4)),
 vo 14 (.ia 28 46 2 (.t 12) (.t 13)),
 vo 15 (.fa 46 1 1 1 (.t 14)),
 vo 16 (.load 2 false 1 (.t 15)),
 vo 17 (.bin false .add 2 (.t 11) (.t 16)),
 vo 3 (.asg (.t 17))]))
 (.region false [0, 3, 4] [
 vo 9 (.mov (.t 4)),
 vo 10 (.bin false .add 3 (.t 9) (.c (.int .i64 1))),
 vo 4 (.asg (.t 10))])))
def l134_0 : VC := .loop b134_0
/-- loop.example/g00539/spec.l13Total -/
def v134 : VFun := {
 code :=
 (.seq
 (.region false [0] [
 vo 2 (.asg (.c (.int .i64 0)))])
 (.seq
 (.region false [0, 3] [
 vo 3 (.asg (.c (.int .i64 0)))])
 (.seq
 (.seq
 (.region false [0, 3, 4] [
 vo 4 (.asg (.c (.int .i64 0)))])
 (.block 0
 l134_0))
 (.seq
 (.region false [2] [
 vo 18 (.mov (.t 3)),
 vo 2 (.asg (.t 18))])
 .ret))))
 modes := [.lend]
 rets := [⟨2, none⟩] }

def b135_0 : VC :=
 (.seq
 (.seq
 (.region false [0, 1, 5, 6, 10] [
 vo 7 (.mov (.t 6)),
 vo 8 (.mov (.t 0)),
 vo 9 (.len false 29 (.t 8)),
 vo 10 (.bin false .lss 3 (.t 7) (.t 9))])
 (.cond (.t 10)
 .skip
 (.exit 0)))
 (.seq
 (.block 1
 (.seq
 (.region false [0, 1, 5, 6, 22] [
 vo 13 (.mov (.t 1)),
 vo 14 (.un .not (.t 13)),
 vo 15 (.mov (.t 14)),
 ⟨some 16, .mov (.t 0), some (15, false), []⟩,
 ⟨some 17, .mov (.t 6), some (15, false), []⟩,
 ⟨some 18, .ia 29 107 5 (.t 16) (.t 17), some (15, false), []⟩,
 ⟨some 19, .fa 107 4 4 1 (.t 18), some (15, false), []⟩,
 ⟨some 20, .load 2 false 1 (.t 19), some (15, false), []⟩,
 ⟨some 21, .bin false .eql 2 (.t 20) (.c (.int .i64 2)), some (15, false), []⟩,
 vo 22 (.pick (.t 15) (.c (.bool true)) (.t 21))])
 (.cond (.t 22)
 (.region false [0, 1, 5, 6] [
 vo 23 (.mov (.t 5)),
 vo 24 (.mov (.t 0)),
 vo 25 (.mov (.t 6)),
 vo 26 (.ia 29 107 5 (.t 24) (.t 25)),
 vo 27 (.fa 107 1 1 1 (.t 26)),
 vo 28 (.load 2 false 1 (.t 27)),
 vo 29 (.bin false .add 2 (.t 23) (.t 28)),
 vo 5 (.asg (.t 29))])
 .skip)))
 (.region false [0, 1, 5, 6] [
 vo 11 (.mov (.t 6)),
 vo 12 (.bin false .add 3 (.t 11) (.c (.int .i64 1))),
 vo 6 (.asg (.t 12))])))
def l135_0 : VC := .loop b135_0
/-- loop.example/g00539/spec.l14Totals -/
def v135 : VFun := {
 code :=
 (.seq
 (.region false [0, 1] [
 vo 4 (.asg (.c (.int .i64 0)))])
 (.seq
 (.region false [0, 1, 5] [
 vo 5 (.asg (.c (.int .i64 0)))])
 (.seq
 (.seq
 (.region false [0, 1, 5, 6] [
 vo 6 (.asg (.c (.int .i64 0)))])
 (.block 0
 l135_0))
 (.seq
 (.region false [4] [
 vo 30 (.mov (.t 5)),
 vo 4 (.asg (.t 30))])
 .ret))))
 modes := [.lend, .lend]
 rets := [⟨4, none⟩] }

/-- loop.example/g00539/laws.toReward -/
def v136 : VFun := {
 code :=
 (.seq
 (.region false [1, 2] [
 vo 1 (.box 156 (.t 0)),
 vo 2 (.alloc 107 [(.val (.int .i64 0)), (.val (.int .i64 0)), (.val (.int .i64 0)), (.nl 2), (.val (.int .i64 0))])])
 (.seq
 (.region false [1, 2, 3] [
 vo 3 (.alloc 107 [(.val (.int .i64 0)), (.val (.int .i64 0)), (.val (.int .i64 0)), (.nl 2), (.val (.int .i64 0))])])
 (.seq
 (.region false [1, 2, 3] [
 vo 4 (.fa 156 0 0 1 (.t 1)),
 vo 5 (.load 2 false 1 (.t 4)),
 vo 6 (.fa 107 0 0 1 (.t 3)),
 vn (.store 2 1 (.t 6) (.t 5))])
 (.seq
 (.region false [1, 2, 3] [
 vo 7 (.fa 156 1 1 1 (.t 1)),
 vo 8 (.load 2 false 1 (.t 7)),
 vo 9 (.fa 107 1 1 1 (.t 3)),
 vn (.store 2 1 (.t 9) (.t 8))])
 (.seq
 (.region false [1, 2, 3] [
 vo 10 (.fa 156 2 2 1 (.t 1)),
 vo 11 (.load 2 false 1 (.t 10)),
 vo 12 (.fa 107 2 2 1 (.t 3)),
 vn (.store 2 1 (.t 12) (.t 11))])
 (.seq
 (.region false [1, 2, 3] [
 vo 13 (.fa 156 3 3 1 (.t 1)),
 vo 14 (.load 22 false 1 (.t 13)),
 vo 15 (.call 69 [(.t 14)]),
 vo 16 (.fa 107 3 3 1 (.t 3)),
 vn (.store 28 1 (.t 16) (.t 15))])
 (.seq
 (.region false [2, 3] [
 vo 17 (.fa 156 4 4 1 (.t 1)),
 vo 18 (.load 2 false 1 (.t 17)),
 vo 19 (.fa 107 4 4 1 (.t 3)),
 vn (.store 2 1 (.t 19) (.t 18))])
 (.seq
 (.region false [2] [
 vo 20 (.load 107 true 5 (.t 3)),
 vn (.store 107 5 (.t 2) (.t 20))])
 .ret))))))))
 modes := [.lend]
 rets := [⟨2, some (true, 5)⟩] }

/-- loop.example/g00539/laws.eqWeight -/
def v137 : VFun := {
 code :=
 (.seq
 (.region false [2, 3] [
 vo 2 (.box 46 (.t 0)),
 vo 3 (.box 46 (.t 1)),
 vo 4 (.asg (.c (.bool false)))])
 (.seq
 (.seq
 (.region false [2, 3, 9] [
 vo 5 (.fa 46 0 0 1 (.t 2)),
 vo 6 (.load 9 false 1 (.t 5)),
 vo 7 (.fa 46 0 0 1 (.t 3)),
 vo 8 (.load 9 false 1 (.t 7)),
 vo 9 (.bin false .neq 9 (.t 6) (.t 8))])
 (.cond (.t 9)
 (.seq
 (.region false [4] [
 vo 4 (.asg (.c (.bool false)))])
 .ret)
 .skip))
 (.seq
 (.seq
 (.region false [14] [
 vo 10 (.fa 46 1 1 1 (.t 2)),
 vo 11 (.load 2 false 1 (.t 10)),
 vo 12 (.fa 46 1 1 1 (.t 3)),
 vo 13 (.load 2 false 1 (.t 12)),
 vo 14 (.bin false .neq 2 (.t 11) (.t 13))])
 (.cond (.t 14)
 (.seq
 (.region false [4] [
 vo 4 (.asg (.c (.bool false)))])
 .ret)
 .skip))
 (.seq
 (.region false [4] [
 vo 4 (.asg (.c (.bool true)))])
 .ret))))
 modes := [.lend, .lend]
 rets := [⟨4, none⟩] }

/-- loop.example/g00539/laws.eqReward -/
def v138 : VFun := {
 code :=
 (.seq
 (.region false [2, 3] [
 vo 2 (.box 107 (.t 0)),
 vo 3 (.box 107 (.t 1)),
 vo 4 (.asg (.c (.bool false)))])
 (.seq
 (.seq
 (.region false [2, 3, 9] [
 vo 5 (.fa 107 0 0 1 (.t 2)),
 vo 6 (.load 2 false 1 (.t 5)),
 vo 7 (.fa 107 0 0 1 (.t 3)),
 vo 8 (.load 2 false 1 (.t 7)),
 vo 9 (.bin false .neq 2 (.t 6) (.t 8))])
 (.cond (.t 9)
 (.seq
 (.region false [4] [
 vo 4 (.asg (.c (.bool false)))])
 .ret)
 .skip))
 (.seq
 (.seq
 (.region false [2, 3, 14] [
 vo 10 (.fa 107 1 1 1 (.t 2)),
 vo 11 (.load 2 false 1 (.t 10)),
 vo 12 (.fa 107 1 1 1 (.t 3)),
 vo 13 (.load 2 false 1 (.t 12)),
 vo 14 (.bin false .neq 2 (.t 11) (.t 13))])
 (.cond (.t 14)
 (.seq
 (.region false [4] [
 vo 4 (.asg (.c (.bool false)))])
 .ret)
 .skip))
 (.seq
 (.seq
 (.region false [2, 3, 19] [
 vo 15 (.fa 107 2 2 1 (.t 2)),
 vo 16 (.load 2 false 1 (.t 15)),
 vo 17 (.fa 107 2 2 1 (.t 3)),
 vo 18 (.load 2 false 1 (.t 17)),
 vo 19 (.bin false .neq 2 (.t 16) (.t 18))])
 (.cond (.t 19)
 (.seq
 (.region false [4] [
 vo 4 (.asg (.c (.bool false)))])
 .ret)
 .skip))
 (.seq
 (.seq
 (.region false [2, 3, 25] [
 vo 20 (.fa 107 3 3 1 (.t 2)),
 vo 21 (.load 28 false 1 (.t 20)),
 vo 22 (.fa 107 3 3 1 (.t 3)),
 vo 23 (.load 28 false 1 (.t 22)),
 vo 24 (.call 77 [(.t 21), (.t 23)]),
 vo 25 (.un .not (.t 24))])
 (.cond (.t 25)
 (.seq
 (.region false [4] [
 vo 4 (.asg (.c (.bool false)))])
 .ret)
 .skip))
 (.seq
 (.seq
 (.region false [30] [
 vo 26 (.fa 107 4 4 1 (.t 2)),
 vo 27 (.load 2 false 1 (.t 26)),
 vo 28 (.fa 107 4 4 1 (.t 3)),
 vo 29 (.load 2 false 1 (.t 28)),
 vo 30 (.bin false .neq 2 (.t 27) (.t 29))])
 (.cond (.t 30)
 (.seq
 (.region false [4] [
 vo 4 (.asg (.c (.bool false)))])
 .ret)
 .skip))
 (.seq
 (.region false [4] [
 vo 4 (.asg (.c (.bool true)))])
 .ret)))))))
 modes := [.lend, .lend]
 rets := [⟨4, none⟩] }

def b139_0 : VC :=
 (.seq
 (.seq
 (.region false [1, 2, 3, 4, 20] [
 vo 16 (.mov (.t 4)),
 vo 17 (.fa 31 3 3 1 (.t 1)),
 vo 18 (.load 29 false 1 (.t 17)),
 vo 19 (.len false 29 (.t 18)),
 vo 20 (.bin false .lss 3 (.t 16) (.t 19))])
 (.cond (.t 20)
 .skip
 (.exit 0)))
 (.seq
 (.block 1
 (.seq
 (.region false [1, 2, 3, 4, 5] [
 vo 23 (.fa 31 3 3 1 (.t 1)),
 vo 24 (.load 29 false 1 (.t 23)),
 vo 25 (.mov (.t 4)),
 vo 26 (.ia 29 107 5 (.t 24) (.t 25)),
 vo 27 (.load 107 true 5 (.t 26)),
 vo 5 (.alloc 107 [(.val (.int .i64 0)), (.val (.int .i64 0)), (.val (.int .i64 0)), (.nl 2), (.val (.int .i64 0))]),
 vn (.store 107 5 (.t 5) (.t 27))])
 (.seq
 (.region false [1, 2, 3, 4, 5] [
 vo 28 (.fa 107 3 3 1 (.t 5)),
 vo 29 (.load 28 false 1 (.t 28)),
 vo 30 (.call 170 [(.t 29)]),
 vo 31 (.fa 107 3 3 1 (.t 5)),
 vn (.store 28 1 (.t 31) (.t 30))])
 (.region false [1, 2, 3, 4] [
 vo 32 (.fa 31 3 3 1 (.t 3)),
 vo 33 (.load 29 false 1 (.t 32)),
 vo 34 (.load 107 true 5 (.t 5)),
 vo 35 (.lit 29 107 5 1 [(.val (.int .i64 0)), (.val (.int .i64 0)), (.val (.int .i64 0)), (.nl 2), (.val (.int .i64 0))] [(0, (.t 34))]),
 vo 36 (.app 29 107 5 56 (.t 33) (.t 35)),
 vo 37 (.fa 31 3 3 1 (.t 3)),
 vn (.store 29 1 (.t 37) (.t 36))]))))
 (.region false [1, 2, 3, 4] [
 vo 21 (.mov (.t 4)),
 vo 22 (.bin false .add 3 (.t 21) (.c (.int .i64 1))),
 vo 4 (.asg (.t 22))])))
def l139_0 : VC := .loop b139_0
/-- loop.example/g00539/spec.l14Copy -/
def v139 : VFun := {
 code :=
 (.seq
 (.region false [1, 2] [
 vo 1 (.box 31 (.t 0)),
 vo 2 (.alloc 31 [(.val (.int .i64 0)), (.val (.int .i64 0)), (.nl 2), (.nl 5), (.nl 2), (.val (.int .i64 0)), (.val (.int .i64 0)), (.val (.int .i64 0))])])
 (.seq
 (.region false [1, 2, 3] [
 vo 6 (.load 31 true 8 (.t 1)),
 vo 3 (.alloc 31 [(.val (.int .i64 0)), (.val (.int .i64 0)), (.nl 2), (.nl 5), (.nl 2), (.val (.int .i64 0)), (.val (.int .i64 0)), (.val (.int .i64 0))]),
 vn (.store 31 8 (.t 3) (.t 6))])
 (.seq
 (.region false [1, 2, 3] [
 vo 7 (.fa 31 2 2 1 (.t 1)),
 vo 8 (.load 28 false 1 (.t 7)),
 vo 9 (.call 170 [(.t 8)]),
 vo 10 (.fa 31 2 2 1 (.t 3)),
 vn (.store 28 1 (.t 10) (.t 9))])
 (.seq
 (.region false [1, 2, 3] [
 vo 11 (.fa 31 4 4 1 (.t 1)),
 vo 12 (.load 28 false 1 (.t 11)),
 vo 13 (.call 170 [(.t 12)]),
 vo 14 (.fa 31 4 4 1 (.t 3)),
 vn (.store 28 1 (.t 14) (.t 13))])
 (.seq
 (.region false [1, 2, 3] [
 vo 15 (.fa 31 3 3 1 (.t 3)),
 vn (.store 29 1 (.t 15) (.n 5))])
 (.seq
 (.seq
 (.region false [1, 2, 3, 4] [
 vo 4 (.asg (.c (.int .i64 0)))])
 (.block 0
 l139_0))
 (.seq
 (.region false [2] [
 vo 38 (.load 31 true 8 (.t 3)),
 vn (.store 31 8 (.t 2) (.t 38))])
 .ret)))))))
 modes := [.lend]
 rets := [⟨2, some (true, 8)⟩] }

def b140_0 : VC :=
 (.seq
 (.region false [1, 2, 3, 14, 16, 17, 18, 19, 29] [
 vo 19 (.bin false .lss 3 (.t 18) (.t 17))])
 (.seq
 (.cond (.t 19)
 .skip
 (.exit 0))
 (.seq
 (.block 1
 (.seq
 (.region false [1, 2, 3, 5, 14, 16, 17, 18, 29] [
 vo 20 (.ia 29 107 5 (.t 16) (.t 18)),
 vo 21 (.load 107 true 5 (.t 20)),
 vo 5 (.alloc 107 [(.val (.int .i64 0)), (.val (.int .i64 0)), (.val (.int .i64 0)), (.nl 2), (.val (.int .i64 0))]),
 vn (.store 107 5 (.t 5) (.t 21))])
 (.seq
 (.region false [1, 2, 3, 5, 14, 16, 17, 18, 29] [
 vo 22 (.fa 107 3 3 1 (.t 5)),
 vo 23 (.load 28 false 1 (.t 22)),
 vo 24 (.call 106 [(.t 23)]),
 vo 25 (.fa 107 3 3 1 (.t 5)),
 vn (.store 28 1 (.t 25) (.t 24))])
 (.region false [1, 2, 3, 14, 16, 17, 18, 29] [
 vo 26 (.mov (.t 3)),
 vo 27 (.load 107 true 5 (.t 5)),
 vo 28 (.lit 29 107 5 1 [(.val (.int .i64 0)), (.val (.int .i64 0)), (.val (.int .i64 0)), (.nl 2), (.val (.int .i64 0))] [(0, (.t 27))]),
 vo 29 (.app 29 107 5 56 (.t 26) (.t 28)),
 vo 3 (.asg (.t 29))]))))
 (.region false [1, 2, 3, 14, 16, 17, 18, 29] [
 vo 30 (.bin false .add 3 (.t 18) (.c (.int .i64 1))),
 vo 18 (.mov (.t 30))]))))
def l140_0 : VC := .loop b140_0
/-- loop.example/g00539/impl.cloneLedger -/
def v140 : VFun := {
 code :=
 (.seq
 (.region false [1, 2] [
 vo 1 (.box 31 (.t 0)),
 vo 2 (.alloc 31 [(.val (.int .i64 0)), (.val (.int .i64 0)), (.nl 2), (.nl 5), (.nl 2), (.val (.int .i64 0)), (.val (.int .i64 0)), (.val (.int .i64 0))])])
 (.seq
 (.region true [1, 2] [
 vo 6 (.fa 31 2 2 1 (.t 1)),
 vo 7 (.load 28 false 1 (.t 6)),
 vo 8 (.call 106 [(.t 7)]),
 ⟨some 9, .fa 31 4 4 1 (.t 1), none, [0, 1, 2]⟩,
 ⟨some 10, .load 28 false 1 (.t 9), none, [0, 1, 2]⟩,
 vo 11 (.call 106 [(.t 10)]),
 ⟨some 12, .fa 31 2 2 1 (.t 1), none, [5]⟩,
 vn (.store 28 1 (.t 12) (.t 8)),
 vo 13 (.fa 31 4 4 1 (.t 1)),
 vn (.store 28 1 (.t 13) (.t 11))])
 (.seq
 (.region false [1, 2, 3, 14, 29] [
 vo 14 (.lit 29 107 5 0 [(.val (.int .i64 0)), (.val (.int .i64 0)), (.val (.int .i64 0)), (.nl 2), (.val (.int .i64 0))] []),
 vo 3 (.asg (.t 14))])
 (.seq
 (.seq
 (.region false [1, 2, 3, 14, 16, 17, 18, 29] [
 vo 15 (.fa 31 3 3 1 (.t 1)),
 vo 16 (.load 29 false 1 (.t 15)),
 vo 17 (.len false 29 (.t 16)),
 vo 18 (.mov (.c (.int .i64 0)))])
 (.block 0
 l140_0))
 (.seq
 (.region false [1, 2] [
 vo 31 (.mov (.t 3)),
 vo 32 (.fa 31 3 3 1 (.t 1)),
 vn (.store 29 1 (.t 32) (.t 31))])
 (.seq
 (.region false [2] [
 vo 33 (.load 31 true 8 (.t 1)),
 vn (.store 31 8 (.t 2) (.t 33))])
 .ret))))))
 modes := [.lend]
 rets := [⟨2, some (true, 8)⟩] }

def b141_0 : VC :=
 (.seq
 (.seq
 (.region false [0, 3, 7] [
 vo 6 (.mov (.t 0)),
 vo 7 (.bin false .gtr 3 (.t 6) (.c (.int .i64 0)))])
 (.cond (.t 7)
 .skip
 (.exit 0)))
 (.block 1
 (.seq
 (.region false [0, 3] [
 vo 8 (.mov (.t 0)),
 vo 9 (.bin false .rem 3 (.t 8) (.c (.int .i64 10))),
 vo 10 (.bin false .add 3 (.c (.int .i64 48)) (.t 9)),
 vo 11 (.conv 3 5 .u8 (.t 10)),
 vo 12 (.lit 58 5 1 1 [(.val (.int .u8 0))] [(0, (.t 11))]),
 vo 13 (.b2s 58 9 (.t 12)),
 vo 14 (.mov (.t 3)),
 vo 15 (.bin false .add 9 (.t 13) (.t 14)),
 vo 3 (.asg (.t 15))])
 (.region false [0, 3] [
 vo 16 (.mov (.t 0)),
 vo 17 (.bin false .quo 3 (.t 16) (.c (.int .i64 10))),
 vo 0 (.asg (.t 17))]))))
def l141_0 : VC := .loop b141_0
/-- loop.example/g00539/laws.markText -/
def v141 : VFun := {
 code :=
 (.seq
 (.region false [0] [
 vo 2 (.asg (.c (.string (⟨#[]⟩ : ByteArray))))])
 (.seq
 (.seq
 (.region false [0, 5] [
 vo 4 (.mov (.t 0)),
 vo 5 (.bin false .leq 3 (.t 4) (.c (.int .i64 0)))])
 (.cond (.t 5)
 (.seq
 (.region false [2] [
 vo 2 (.asg (.c (.string (⟨#[109, 48]⟩ : ByteArray))))])
 .ret)
 .skip))
 (.seq
 (.region false [0, 3] [
 vo 3 (.asg (.c (.string (⟨#[]⟩ : ByteArray))))])
 (.seq
 (.block 0
 l141_0)
 (.seq
 (.region false [2] [
 vo 18 (.mov (.t 3)),
 vo 19 (.bin false .add 9 (.c (.string (⟨#[109]⟩ : ByteArray))) (.t 18)),
 vo 2 (.asg (.t 19))])
 .ret)))))
 modes := [.lend]
 rets := [⟨2, none⟩] }

def b142_0 : VC :=
 (.seq
 (.seq
 (.region false [0, 1, 5, 9] [
 vo 6 (.mov (.t 5)),
 vo 7 (.mov (.t 0)),
 vo 8 (.len false 28 (.t 7)),
 vo 9 (.bin false .lss 3 (.t 6) (.t 8))])
 (.cond (.t 9)
 .skip
 (.exit 0)))
 (.seq
 (.block 1
 (.seq
 (.seq
 (.region true [0, 1, 5, 19] [
 vo 12 (.mov (.t 0)),
 ⟨some 13, .mov (.t 5), none, [0]⟩,
 vo 14 (.ia 28 46 2 (.t 12) (.t 13)),
 vo 15 (.fa 46 0 0 1 (.t 14)),
 vo 16 (.load 9 false 1 (.t 15)),
 ⟨some 17, .mov (.t 1), none, [0, 1, 2, 3, 4]⟩,
 ⟨some 18, .call 141 [(.t 17)], none, [0, 1, 2, 3, 4]⟩,
 vo 19 (.bin false .neq 9 (.t 16) (.t 18))])
 (.cond (.t 19)
 (.seq
 (.region false [4] [
 vo 4 (.asg (.c (.int .i64 (-1))))])
 .ret)
 .skip))
 (.seq
 (.region false [0, 1, 5] [
 vo 20 (.mov (.t 1)),
 vo 21 (.bin false .add 3 (.t 20) (.c (.int .i64 1))),
 vo 1 (.asg (.t 21))])
 (.seq
 (.seq
 (.region false [0, 1, 5, 28] [
 vo 22 (.mov (.t 0)),
 vo 23 (.mov (.t 5)),
 vo 24 (.ia 28 46 2 (.t 22) (.t 23)),
 vo 25 (.fa 46 1 1 1 (.t 24)),
 vo 26 (.load 2 false 1 (.t 25)),
 vo 27 (.mov (.t 1)),
 vo 28 (.bin false .neq 2 (.t 26) (.t 27))])
 (.cond (.t 28)
 (.seq
 (.region false [4] [
 vo 4 (.asg (.c (.int .i64 (-1))))])
 .ret)
 .skip))
 (.region false [0, 1, 5] [
 vo 29 (.mov (.t 1)),
 vo 30 (.bin false .add 3 (.t 29) (.c (.int .i64 1))),
 vo 1 (.asg (.t 30))])))))
 (.region false [0, 1, 5] [
 vo 10 (.mov (.t 5)),
 vo 11 (.bin false .add 3 (.t 10) (.c (.int .i64 1))),
 vo 5 (.asg (.t 11))])))
def l142_0 : VC := .loop b142_0
/-- loop.example/g00539/laws.heldWeightS -/
def v142 : VFun := {
 code :=
 (.seq
 (.region false [0, 1] [
 vo 4 (.asg (.c (.int .i64 0)))])
 (.seq
 (.seq
 (.region false [0, 1, 5] [
 vo 5 (.asg (.c (.int .i64 0)))])
 (.block 0
 l142_0))
 (.seq
 (.region false [4] [
 vo 31 (.mov (.t 1)),
 vo 4 (.asg (.t 31))])
 .ret)))
 modes := [.lend, .lend]
 rets := [⟨4, none⟩] }

def b143_0 : VC :=
 (.seq
 (.seq
 (.region false [0, 1, 5, 9] [
 vo 6 (.mov (.t 5)),
 vo 7 (.mov (.t 0)),
 vo 8 (.len false 29 (.t 7)),
 vo 9 (.bin false .lss 3 (.t 6) (.t 8))])
 (.cond (.t 9)
 .skip
 (.exit 0)))
 (.seq
 (.block 1
 (.seq
 (.seq
 (.region false [0, 1, 5, 18] [
 vo 12 (.mov (.t 0)),
 vo 13 (.mov (.t 5)),
 vo 14 (.ia 29 107 5 (.t 12) (.t 13)),
 vo 15 (.fa 107 0 0 1 (.t 14)),
 vo 16 (.load 2 false 1 (.t 15)),
 vo 17 (.mov (.t 1)),
 vo 18 (.bin false .neq 2 (.t 16) (.t 17))])
 (.cond (.t 18)
 (.seq
 (.region false [4] [
 vo 4 (.asg (.c (.int .i64 (-1))))])
 .ret)
 .skip))
 (.seq
 (.region false [0, 1, 5] [
 vo 19 (.mov (.t 1)),
 vo 20 (.bin false .add 3 (.t 19) (.c (.int .i64 1))),
 vo 1 (.asg (.t 20))])
 (.seq
 (.seq
 (.region false [0, 1, 5, 27] [
 vo 21 (.mov (.t 0)),
 vo 22 (.mov (.t 5)),
 vo 23 (.ia 29 107 5 (.t 21) (.t 22)),
 vo 24 (.fa 107 1 1 1 (.t 23)),
 vo 25 (.load 2 false 1 (.t 24)),
 vo 26 (.mov (.t 1)),
 vo 27 (.bin false .neq 2 (.t 25) (.t 26))])
 (.cond (.t 27)
 (.seq
 (.region false [4] [
 vo 4 (.asg (.c (.int .i64 (-1))))])
 .ret)
 .skip))
 (.seq
 (.region false [0, 1, 5] [
 vo 28 (.mov (.t 1)),
 vo 29 (.bin false .add 3 (.t 28) (.c (.int .i64 1))),
 vo 1 (.asg (.t 29))])
 (.seq
 (.seq
 (.region false [0, 1, 5, 36] [
 vo 30 (.mov (.t 0)),
 vo 31 (.mov (.t 5)),
 vo 32 (.ia 29 107 5 (.t 30) (.t 31)),
 vo 33 (.fa 107 2 2 1 (.t 32)),
 vo 34 (.load 2 false 1 (.t 33)),
 vo 35 (.mov (.t 1)),
 vo 36 (.bin false .neq 2 (.t 34) (.t 35))])
 (.cond (.t 36)
 (.seq
 (.region false [4] [
 vo 4 (.asg (.c (.int .i64 (-1))))])
 .ret)
 .skip))
 (.seq
 (.region false [0, 1, 5] [
 vo 37 (.mov (.t 1)),
 vo 38 (.bin false .add 3 (.t 37) (.c (.int .i64 1))),
 vo 1 (.asg (.t 38))])
 (.seq
 (.region false [0, 1, 5] [
 vo 39 (.mov (.t 0)),
 vo 40 (.mov (.t 5)),
 vo 41 (.ia 29 107 5 (.t 39) (.t 40)),
 vo 42 (.fa 107 3 3 1 (.t 41)),
 vo 43 (.load 28 false 1 (.t 42)),
 vo 44 (.mov (.t 1)),
 vo 45 (.call 142 [(.t 43), (.t 44)]),
 vo 1 (.asg (.t 45))])
 (.seq
 (.seq
 (.region false [0, 1, 5, 47] [
 vo 46 (.mov (.t 1)),
 vo 47 (.bin false .lss 3 (.t 46) (.c (.int .i64 0)))])
 (.cond (.t 47)
 (.seq
 (.region false [4] [
 vo 4 (.asg (.c (.int .i64 (-1))))])
 .ret)
 .skip))
 (.seq
 (.seq
 (.region false [0, 1, 5, 54] [
 vo 48 (.mov (.t 0)),
 vo 49 (.mov (.t 5)),
 vo 50 (.ia 29 107 5 (.t 48) (.t 49)),
 vo 51 (.fa 107 4 4 1 (.t 50)),
 vo 52 (.load 2 false 1 (.t 51)),
 vo 53 (.mov (.t 1)),
 vo 54 (.bin false .neq 2 (.t 52) (.t 53))])
 (.cond (.t 54)
 (.seq
 (.region false [4] [
 vo 4 (.asg (.c (.int .i64 (-1))))])
 .ret)
 .skip))
 (.region false [0, 1, 5] [
 vo 55 (.mov (.t 1)),
 vo 56 (.bin false .add 3 (.t 55) (.c (.int .i64 1))),
 vo 1 (.asg (.t 56))])))))))))))
 (.region false [0, 1, 5] [
 vo 10 (.mov (.t 5)),
 vo 11 (.bin false .add 3 (.t 10) (.c (.int .i64 1))),
 vo 5 (.asg (.t 11))])))
def l143_0 : VC := .loop b143_0
/-- loop.example/g00539/laws.heldRewardS -/
def v143 : VFun := {
 code :=
 (.seq
 (.region false [0, 1] [
 vo 4 (.asg (.c (.int .i64 0)))])
 (.seq
 (.seq
 (.region false [0, 1, 5] [
 vo 5 (.asg (.c (.int .i64 0)))])
 (.block 0
 l143_0))
 (.seq
 (.region false [4] [
 vo 57 (.mov (.t 1)),
 vo 4 (.asg (.t 57))])
 .ret)))
 modes := [.lend, .lend]
 rets := [⟨4, none⟩] }

def b144_0 : VC :=
 (.seq
 (.seq
 (.region false [0, 1, 5, 9] [
 vo 6 (.mov (.t 5)),
 vo 7 (.mov (.t 0)),
 vo 8 (.len false 29 (.t 7)),
 vo 9 (.bin false .lss 3 (.t 6) (.t 8))])
 (.cond (.t 9)
 .skip
 (.exit 0)))
 (.seq
 (.block 1
 (.seq
 (.region false [0, 1, 5, 18] [
 vo 12 (.mov (.t 0)),
 vo 13 (.mov (.t 5)),
 vo 14 (.ia 29 107 5 (.t 12) (.t 13)),
 vo 15 (.fa 107 0 0 1 (.t 14)),
 vo 16 (.load 2 false 1 (.t 15)),
 vo 17 (.mov (.t 1)),
 vo 18 (.bin false .eql 2 (.t 16) (.t 17))])
 (.cond (.t 18)
 (.seq
 (.region false [4] [
 vo 19 (.mov (.t 5)),
 vo 4 (.asg (.t 19))])
 .ret)
 .skip)))
 (.region false [0, 1, 5] [
 vo 10 (.mov (.t 5)),
 vo 11 (.bin false .add 3 (.t 10) (.c (.int .i64 1))),
 vo 5 (.asg (.t 11))])))
def l144_0 : VC := .loop b144_0
/-- loop.example/g00539/spec.l14Find -/
def v144 : VFun := {
 code :=
 (.seq
 (.region false [0, 1] [
 vo 4 (.asg (.c (.int .i64 0)))])
 (.seq
 (.seq
 (.region false [0, 1, 5] [
 vo 5 (.asg (.c (.int .i64 0)))])
 (.block 0
 l144_0))
 (.seq
 (.region false [4] [
 vo 4 (.asg (.c (.int .i64 (-1))))])
 .ret)))
 modes := [.lend, .lend]
 rets := [⟨4, none⟩] }

def b145_0 : VC :=
 (.seq
 (.region false [0, 1, 7, 8, 9] [
 vo 9 (.bin false .lss 3 (.t 8) (.t 7))])
 (.seq
 (.cond (.t 9)
 .skip
 (.exit 0))
 (.seq
 (.block 1
 (.seq
 (.region false [0, 1, 5, 7, 8] [
 vo 10 (.mov (.t 8)),
 vo 5 (.asg (.t 10))])
 (.seq
 (.region false [0, 1, 5, 7, 8, 16] [
 vo 11 (.mov (.t 1)),
 vo 12 (.mov (.t 0)),
 vo 13 (.mov (.t 5)),
 vo 14 (.ia 29 107 5 (.t 12) (.t 13)),
 vo 15 (.load 107 true 5 (.t 14)),
 vo 16 (.callv (.t 11) [(.t 15)])])
 (.cond (.t 16)
 (.seq
 (.region false [4] [
 vo 17 (.mov (.t 5)),
 vo 4 (.asg (.t 17))])
 .ret)
 .skip))))
 (.region false [0, 1, 7, 8] [
 vo 18 (.bin false .add 3 (.t 8) (.c (.int .i64 1))),
 vo 8 (.mov (.t 18))]))))
def l145_0 : VC := .loop b145_0
/-- slices.IndexFunc[[]loop.example/g00539/impl.Reward,loop.example/g00539/impl.Reward] -/
def v145 : VFun := {
 code :=
 (.seq
 (.region false [0, 1] [
 vo 4 (.asg (.c (.int .i64 0)))])
 (.seq
 (.seq
 (.region false [0, 1, 7, 8] [
 vo 6 (.mov (.t 0)),
 vo 7 (.len false 29 (.t 6)),
 vo 8 (.mov (.c (.int .i64 0)))])
 (.block 0
 l145_0))
 (.seq
 (.region false [4] [
 vo 4 (.asg (.c (.int .i64 (-1))))])
 .ret)))
 modes := [.lend, .lend]
 rets := [⟨4, none⟩] }

/-- loop.example/g00539/impl.rewardAt$1 -/
def v146 : VFun := {
 code :=
 (.seq
 (.region false [1, 2] [
 vo 2 (.box 107 (.t 0)),
 vo 3 (.asg (.c (.bool false)))])
 (.seq
 (.region false [3] [
 vo 4 (.fa 107 0 0 1 (.t 2)),
 vo 5 (.load 2 false 1 (.t 4)),
 vo 6 (.load 2 false 1 (.t 1)),
 vo 7 (.bin false .eql 2 (.t 5) (.t 6)),
 vo 3 (.asg (.t 7))])
 .ret))
 modes := [.lend, .lend]
 rets := [⟨3, none⟩] }

def b147_0 : VC :=
 (.seq
 (.region false [0, 1, 7, 8, 9] [
 vo 9 (.bin false .lss 3 (.t 8) (.t 7))])
 (.seq
 (.cond (.t 9)
 .skip
 (.exit 0))
 (.seq
 (.block 1
 (.seq
 (.region false [0, 1, 5, 7, 8] [
 vo 10 (.mov (.t 8)),
 vo 5 (.asg (.t 10))])
 (.seq
 (.region false [0, 1, 5, 7, 8, 16] [
 vo 11 (.mov (.t 1)),
 vo 12 (.mov (.t 0)),
 vo 13 (.mov (.t 5)),
 vo 14 (.ia 28 46 2 (.t 12) (.t 13)),
 vo 15 (.load 46 true 2 (.t 14)),
 vo 16 (.callv (.t 11) [(.t 15)])])
 (.cond (.t 16)
 (.seq
 (.region false [4] [
 vo 17 (.mov (.t 5)),
 vo 4 (.asg (.t 17))])
 .ret)
 .skip))))
 (.region false [0, 1, 7, 8] [
 vo 18 (.bin false .add 3 (.t 8) (.c (.int .i64 1))),
 vo 8 (.mov (.t 18))]))))
def l147_0 : VC := .loop b147_0
/-- slices.IndexFunc[[]loop.example/g00539/impl.Weight,loop.example/g00539/impl.Weight] -/
def v147 : VFun := {
 code :=
 (.seq
 (.region false [0, 1] [
 vo 4 (.asg (.c (.int .i64 0)))])
 (.seq
 (.seq
 (.region false [0, 1, 7, 8] [
 vo 6 (.mov (.t 0)),
 vo 7 (.len false 28 (.t 6)),
 vo 8 (.mov (.c (.int .i64 0)))])
 (.block 0
 l147_0))
 (.seq
 (.region false [4] [
 vo 4 (.asg (.c (.int .i64 (-1))))])
 .ret)))
 modes := [.lend, .lend]
 rets := [⟨4, none⟩] }

/-- loop.example/g00539/impl.weightAt$1 -/
def v148 : VFun := {
 code :=
 (.seq
 (.region false [1, 2] [
 vo 2 (.box 46 (.t 0)),
 vo 3 (.asg (.c (.bool false)))])
 (.seq
 (.region false [3] [
 vo 4 (.fa 46 0 0 1 (.t 2)),
 vo 5 (.load 9 false 1 (.t 4)),
 vo 6 (.load 9 false 1 (.t 1)),
 vo 7 (.bin false .eql 9 (.t 5) (.t 6)),
 vo 3 (.asg (.t 7))])
 .ret))
 modes := [.lend, .lend]
 rets := [⟨3, none⟩] }

/-- loop.example/g00539/spec.l4Sum -/
def v150 : VFun := {
 code :=
 (.seq
 (.region false [0] [
 vo 2 (.asg (.c (.bool false)))])
 (.seq
 (.region false [2] [
 vo 3 (.mov (.t 0)),
 vo 4 (.call 110 [(.t 3), (.c (.int .i64 0)), (.c (.int .i64 2147483646))]),
 vo 2 (.asg (.t 4))])
 .ret))
 modes := [.lend]
 rets := [⟨2, none⟩] }

def b154_0 : VC :=
 (.seq
 (.seq
 (.region false [0, 3, 7] [
 vo 4 (.mov (.t 3)),
 vo 5 (.mov (.t 0)),
 vo 6 (.len true 9 (.t 5)),
 vo 7 (.bin false .lss 3 (.t 4) (.t 6))])
 (.cond (.t 7)
 .skip
 (.exit 0)))
 (.seq
 (.block 1
 (.seq
 (.region false [0, 3, 14] [
 vo 10 (.mov (.t 0)),
 vo 11 (.mov (.t 3)),
 vo 12 (.idx 9 (.t 10) (.t 11)),
 vo 13 (.call 171 [(.t 12)]),
 vo 14 (.un .not (.t 13))])
 (.cond (.t 14)
 (.seq
 (.region false [2] [
 vo 2 (.asg (.c (.bool false)))])
 .ret)
 .skip)))
 (.region false [0, 3] [
 vo 8 (.mov (.t 3)),
 vo 9 (.bin false .add 3 (.t 8) (.c (.int .i64 1))),
 vo 3 (.asg (.t 9))])))
def l154_0 : VC := .loop b154_0
/-- loop.example/g00539/spec.l9Arg -/
def v154 : VFun := {
 code :=
 (.seq
 (.region false [0] [
 vo 2 (.asg (.c (.bool false)))])
 (.seq
 (.seq
 (.region false [0, 3] [
 vo 3 (.asg (.c (.int .i64 0)))])
 (.block 0
 l154_0))
 (.seq
 (.region false [2] [
 vo 15 (.mov (.t 0)),
 vo 16 (.len true 9 (.t 15)),
 vo 17 (.bin false .leq 3 (.t 16) (.c (.int .i64 12))),
 vo 2 (.asg (.t 17))])
 .ret)))
 modes := [.lend]
 rets := [⟨2, none⟩] }

/-- loop.example/g00539/impl.argOk -/
def v155 : VFun := {
 code :=
 (.seq
 (.region false [0] [
 vo 2 (.asg (.c (.bool false)))])
 (.seq
 (.region false [2] [
 vo 3 (.mov (.t 0)),
 vo 4 (.len true 9 (.t 3)),
 vo 5 (.bin false .leq 3 (.t 4) (.c (.int .i64 12))),
 vo 6 (.mov (.t 5)),
 ⟨some 7, .mov (.t 0), some (6, true), []⟩,
 ⟨some 8, .call 172 [(.t 7), (.c (.string (⟨#[97, 98, 99, 100, 101, 102, 103, 104, 105, 106, 107, 108, 109, 110, 111, 112, 113, 114, 115, 116, 117, 118, 119, 120, 121, 122, 65, 66, 67, 68, 69, 70, 71, 72, 73, 74, 75, 76, 77, 78, 79, 80, 81, 82, 83, 84, 85, 86, 87, 88, 89, 90, 48, 49, 50, 51, 52, 53, 54, 55, 56, 57]⟩ : ByteArray)))], some (6, true), []⟩,
 ⟨some 9, .bin false .eql 9 (.t 8) (.c (.string (⟨#[]⟩ : ByteArray))), some (6, true), []⟩,
 vo 10 (.pick (.t 6) (.t 9) (.c (.bool false))),
 vo 2 (.asg (.t 10))])
 .ret))
 modes := [.lend]
 rets := [⟨2, none⟩] }

/-- loop.example/g00539/spec.l14Weights -/
def v170 : VFun := {
 code :=
 (.seq
 (.region false [0] [
 vo 2 (.asg (.n 2))])
 (.seq
 (.region false [2, 5] [
 vo 3 (.lit 28 46 2 0 [(.val (.string (⟨#[]⟩ : ByteArray))), (.val (.int .i64 0))] []),
 vo 4 (.mov (.t 0)),
 vo 5 (.app 28 46 2 24 (.t 3) (.t 4)),
 vo 2 (.asg (.t 5))])
 .ret))
 modes := [.lend]
 rets := [⟨2, none⟩] }

/-- loop.example/g00539/spec.l9Letter -/
def v171 : VFun := {
 code :=
 (.seq
 (.region false [0] [
 vo 2 (.asg (.c (.bool false)))])
 (.seq
 (.region false [2] [
 vo 3 (.mov (.t 0)),
 vo 4 (.bin false .geq 5 (.t 3) (.c (.int .u8 97))),
 vo 5 (.mov (.t 4)),
 ⟨some 6, .mov (.t 0), some (5, true), []⟩,
 ⟨some 7, .bin false .leq 5 (.t 6) (.c (.int .u8 122)), some (5, true), []⟩,
 vo 8 (.pick (.t 5) (.t 7) (.c (.bool false))),
 vo 9 (.mov (.t 8)),
 ⟨some 10, .mov (.t 0), some (9, false), []⟩,
 ⟨some 11, .bin false .geq 5 (.t 10) (.c (.int .u8 65)), some (9, false), []⟩,
 ⟨some 12, .mov (.t 11), some (9, false), []⟩,
 ⟨some 13, .mov (.t 0), some (12, true), []⟩,
 ⟨some 14, .bin false .leq 5 (.t 13) (.c (.int .u8 90)), some (12, true), []⟩,
 ⟨some 15, .pick (.t 12) (.t 14) (.c (.bool false)), some (9, false), []⟩,
 vo 16 (.pick (.t 9) (.c (.bool true)) (.t 15)),
 vo 17 (.mov (.t 16)),
 ⟨some 18, .mov (.t 0), some (17, false), []⟩,
 ⟨some 19, .bin false .geq 5 (.t 18) (.c (.int .u8 48)), some (17, false), []⟩,
 ⟨some 20, .mov (.t 19), some (17, false), []⟩,
 ⟨some 21, .mov (.t 0), some (20, true), []⟩,
 ⟨some 22, .bin false .leq 5 (.t 21) (.c (.int .u8 57)), some (20, true), []⟩,
 ⟨some 23, .pick (.t 20) (.t 22) (.c (.bool false)), some (17, false), []⟩,
 vo 24 (.pick (.t 17) (.c (.bool true)) (.t 23)),
 vo 2 (.asg (.t 24))])
 .ret))
 modes := [.lend]
 rets := [⟨2, none⟩] }

def tab : List (Nat × VFun) := [(5, v5), (14, v14), (16, v16), (17, v17), (18, v18), (22, v22), (23, v23), (24, v24), (25, v25), (26, v26), (27, v27), (28, v28), (29, v29), (40, v40), (46, v46), (66, v66), (67, v67), (68, v68), (69, v69), (70, v70), (71, v71), (72, v72), (73, v73), (74, v74), (75, v75), (76, v76), (77, v77), (78, v78), (79, v79), (81, v81), (82, v82), (83, v83), (84, v84), (85, v85), (86, v86), (87, v87), (90, v90), (93, v93), (94, v94), (100, v100), (107, v107), (109, v109), (110, v110), (111, v111), (113, v113), (115, v115), (130, v130), (131, v131), (132, v132), (133, v133), (134, v134), (135, v135), (136, v136), (137, v137), (138, v138), (139, v139), (140, v140), (141, v141), (142, v142), (143, v143), (144, v144), (145, v145), (146, v146), (147, v147), (148, v148), (150, v150), (154, v154), (155, v155), (170, v170), (171, v171)]
def F (f : FuncId) : Option VFun := getA none (tab.map fun x => (x.1, some x.2)) f
theorem tab_ok : tab.all (fun x => matchFun Tryd.prog x.1 x.2) = true := by kernel_rfl
theorem F_mem {f : FuncId} {fn : VFun} : ∀ {l : List (Nat × VFun)}, getA none (l.map fun x => (x.1, some x.2)) f = some fn → (f, fn) ∈ l
  | [], h => by simp [getA] at h
  | (k, v) :: l, h => by
    simp only [List.map_cons, getA] at h
    split at h
    · rename_i e
      injection h with h
      subst e; subst h
      exact List.mem_cons_self ..
    · exact List.mem_cons_of_mem _ (F_mem h)
theorem F_ok (f : FuncId) (fn : VFun) (h : F f = some fn) : matchFun Tryd.prog f fn = true := List.all_eq_true.1 tab_ok _ (F_mem h)
end Go.Proofs.YtfmkbpiobddhdaaDoor.CreditShare
