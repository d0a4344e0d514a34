/- V's text of the functions that this law reaches. -/
import Derived.Test.YtdnopbpdiineiaaDoorVCode
import Derived.Test.YtdnopbpdiineiaaDoorRows
import Derived.KernelRfl
namespace Go.Proofs.YtdnopbpdiineiaaDoor.OpenSession
open Go Go.Proofs.YtdnopbpdiineiaaDoor.V
set_option maxRecDepth 20000
def vo (d : Nat) (x : VOp) : VO := ⟨some d, x, none, []⟩
def vn (x : VOp) : VO := ⟨none, x, none, []⟩

/-- loop.example/g00539/laws.FnExactOpenSession -/
def v9 : VFun := {
 code :=
 (.seq
 (.region false [1] [
 vo 1 (.box 71 (.t 0)),
 vo 2 (.asg (.c (.bool false)))])
 (.seq
 (.region false [1, 3] [
 vo 3 (.asg (.c (.int .i64 1048576)))])
 (.seq
 (.region false [1, 3] [
 vo 11 (.load 71 true 2 (.t 1)),
 vo 12 (.mov (.t 3)),
 vo 13 (.call 44 [(.t 11), (.t 12)]),
 vo 3 (.asg (.t 13))])
 (.seq
 (.seq
 (.region false [1, 15] [
 vo 14 (.mov (.t 3)),
 vo 15 (.bin false .lss 3 (.t 14) (.c (.int .i64 0)))])
 (.cond (.t 15)
 (.seq
 (.region false [2] [
 vo 2 (.asg (.c (.bool true)))])
 .ret)
 .skip))
 (.seq
 (.region false [1, 4] [
 vo 16 (.load 71 true 2 (.t 1)),
 vo 17 (.call 46 [(.t 16)]),
 vo 18 (.call 55 [(.t 17)]),
 vo 4 (.alloc 89 [(.val (.int .i64 0)), (.nl 1), (.nl 7), (.nl 4), (.val (.int .i64 0))]),
 vn (.store 89 5 (.t 4) (.t 18))])
 (.seq
 (.region false [1, 4, 5] [
 vo 19 (.load 71 true 2 (.t 1)),
 vo 20 (.call 46 [(.t 19)]),
 vo 5 (.alloc 76 [(.nl 4), (.val (.int .i64 0))]),
 vn (.store 76 2 (.t 5) (.t 20))])
 (.seq
 (.region false [1, 4, 5, 6] [
 vo 21 (.load 76 true 2 (.t 5)),
 vo 22 (.call 56 [(.t 21)]),
 vo 6 (.alloc 89 [(.val (.int .i64 0)), (.nl 1), (.nl 7), (.nl 4), (.val (.int .i64 0))]),
 vn (.store 89 5 (.t 6) (.t 22))])
 (.seq
 (.seq
 (.region false [1, 4, 5, 6, 26] [
 vo 23 (.load 89 true 5 (.t 6)),
 vo 24 (.load 89 true 5 (.t 4)),
 vo 25 (.call 57 [(.t 23), (.t 24)]),
 vo 26 (.un .not (.t 25))])
 (.cond (.t 26)
 (.seq
 (.region false [2] [
 vo 2 (.asg (.c (.bool false)))])
 .ret)
 .skip))
 (.seq
 (.seq
 (.region true [1, 4, 5, 6, 31] [
 vo 27 (.load 76 true 2 (.t 5)),
 ⟨some 28, .load 71 true 2 (.t 1), none, [0]⟩,
 ⟨some 29, .call 46 [(.t 28)], none, [0]⟩,
 vo 30 (.call 48 [(.t 27), (.t 29)]),
 vo 31 (.un .not (.t 30))])
 (.cond (.t 31)
 (.seq
 (.region false [2] [
 vo 2 (.asg (.c (.bool false)))])
 .ret)
 .skip))
 (.seq
 (.region false [1, 4, 5, 6, 7] [
 vo 7 (.asg (.c (.int .i64 1)))])
 (.seq
 (.region false [1, 4, 6, 7] [
 vo 32 (.load 76 true 2 (.t 5)),
 vo 33 (.mov (.t 7)),
 vo 34 (.call 52 [(.t 32), (.t 33)]),
 vo 7 (.asg (.t 34))])
 (.seq
 (.seq
 (.region false [1, 4, 6, 42] [
 vo 35 (.mov (.t 7)),
 vo 36 (.bin false .lss 3 (.t 35) (.c (.int .i64 0))),
 vo 37 (.mov (.t 36)),
 ⟨some 38, .load 89 true 5 (.t 6), some (37, false), []⟩,
 ⟨some 39, .load 89 true 5 (.t 4), some (37, false), []⟩,
 ⟨some 40, .call 57 [(.t 38), (.t 39)], some (37, false), []⟩,
 ⟨some 41, .un .not (.t 40), some (37, false), []⟩,
 vo 42 (.pick (.t 37) (.c (.bool true)) (.t 41))])
 (.cond (.t 42)
 (.seq
 (.region false [2] [
 vo 2 (.asg (.c (.bool false)))])
 .ret)
 .skip))
 (.seq
 (.region false [1, 4, 6, 8] [
 vo 8 (.asg (.c (.int .i64 1)))])
 (.seq
 (.region false [1, 4, 6, 8] [
 vo 43 (.load 89 true 5 (.t 6)),
 vo 44 (.mov (.t 8)),
 vo 45 (.call 58 [(.t 43), (.t 44)]),
 vo 8 (.asg (.t 45))])
 (.seq
 (.region false [1, 4, 6, 8, 9] [
 vo 9 (.asg (.c (.int .i64 1)))])
 (.seq
 (.region false [1, 4, 6, 8, 9] [
 vo 46 (.load 89 true 5 (.t 6)),
 vo 47 (.mov (.t 9)),
 vo 48 (.call 59 [(.t 46), (.t 47)]),
 vo 9 (.asg (.t 48))])
 (.seq
 (.seq
 (.region false [1, 4, 6, 8, 9, 50] [
 vo 49 (.mov (.t 9)),
 vo 50 (.bin false .lss 3 (.t 49) (.c (.int .i64 0)))])
 (.cond (.t 50)
 (.seq
 (.region false [2] [
 vo 2 (.asg (.c (.bool false)))])
 .ret)
 .skip))
 (.seq
 (.seq
 (.region false [1, 4, 6, 8, 53] [
 vo 51 (.mov (.t 9)),
 vo 52 (.mov (.t 8)),
 vo 53 (.bin false .neq 3 (.t 51) (.t 52))])
 (.cond (.t 53)
 (.seq
 (.region false [2] [
 vo 2 (.asg (.c (.bool false)))])
 .ret)
 .skip))
 (.seq
 (.region false [4, 6, 8, 10] [
 vo 54 (.load 71 true 2 (.t 1)),
 vo 55 (.call 46 [(.t 54)]),
 vo 56 (.call 56 [(.t 55)]),
 vo 10 (.alloc 89 [(.val (.int .i64 0)), (.nl 1), (.nl 7), (.nl 4), (.val (.int .i64 0))]),
 vn (.store 89 5 (.t 10) (.t 56))])
 (.seq
 (.seq
 (.region false [6, 8, 60] [
 vo 57 (.load 89 true 5 (.t 10)),
 vo 58 (.load 89 true 5 (.t 4)),
 vo 59 (.call 57 [(.t 57), (.t 58)]),
 vo 60 (.un .not (.t 59))])
 (.cond (.t 60)
 (.seq
 (.region false [2] [
 vo 2 (.asg (.c (.bool false)))])
 .ret)
 .skip))
 (.seq
 (.region false [6, 8, 9] [
 vo 9 (.asg (.c (.int .i64 1)))])
 (.seq
 (.region false [8, 9] [
 vo 61 (.load 89 true 5 (.t 6)),
 vo 62 (.mov (.t 9)),
 vo 63 (.call 59 [(.t 61), (.t 62)]),
 vo 9 (.asg (.t 63))])
 (.seq
 (.seq
 (.region false [8, 9, 65] [
 vo 64 (.mov (.t 9)),
 vo 65 (.bin false .lss 3 (.t 64) (.c (.int .i64 0)))])
 (.cond (.t 65)
 (.seq
 (.region false [2] [
 vo 2 (.asg (.c (.bool false)))])
 .ret)
 .skip))
 (.seq
 (.seq
 (.region false [68] [
 vo 66 (.mov (.t 9)),
 vo 67 (.mov (.t 8)),
 vo 68 (.bin false .neq 3 (.t 66) (.t 67))])
 (.cond (.t 68)
 (.seq
 (.region false [2] [
 vo 2 (.asg (.c (.bool false)))])
 .ret)
 .skip))
 (.seq
 (.region false [2] [
 vo 2 (.asg (.c (.bool true)))])
 .ret)))))))))))))))))))))))))
 modes := [.lend]
 rets := [⟨2, none⟩] }

/-- loop.example/g00539/laws.szServer -/
def v44 : VFun := {
 code :=
 (.seq
 (.region false [1, 2] [
 vo 2 (.box 71 (.t 0)),
 vo 4 (.asg (.c (.int .i64 0)))])
 (.seq
 (.region false [1] [
 vo 5 (.fa 71 0 0 1 (.t 2)),
 vo 6 (.load 69 false 1 (.t 5)),
 vo 7 (.mov (.t 1)),
 vo 8 (.call 89 [(.t 6), (.t 7)]),
 vo 1 (.asg (.t 8))])
 (.seq
 (.seq
 (.region false [1, 10] [
 vo 9 (.mov (.t 1)),
 vo 10 (.bin false .lss 3 (.t 9) (.c (.int .i64 0)))])
 (.cond (.t 10)
 (.seq
 (.region false [4] [
 vo 4 (.asg (.c (.int .i64 (-1))))])
 .ret)
 .skip))
 (.seq
 (.region false [4] [
 vo 11 (.mov (.t 1)),
 vo 4 (.asg (.t 11))])
 .ret))))
 modes := [.lend, .lend]
 rets := [⟨4, none⟩] }

/-- loop.example/g00539/laws.toServer -/
def v46 : VFun := {
 code :=
 (.seq
 (.region false [1, 2] [
 vo 1 (.box 71 (.t 0)),
 vo 2 (.alloc 76 [(.nl 4), (.val (.int .i64 0))])])
 (.seq
 (.region false [1, 2, 3] [
 vo 3 (.alloc 76 [(.nl 4), (.val (.int .i64 0))])])
 (.seq
 (.region false [1, 2, 3] [
 vo 4 (.fa 71 0 0 1 (.t 1)),
 vo 5 (.load 69 false 1 (.t 4)),
 vo 6 (.call 91 [(.t 5)]),
 vo 7 (.fa 76 0 0 1 (.t 3)),
 vn (.store 74 1 (.t 7) (.t 6))])
 (.seq
 (.region false [2, 3] [
 vo 8 (.fa 71 1 1 1 (.t 1)),
 vo 9 (.load 2 false 1 (.t 8)),
 vo 10 (.fa 76 1 1 1 (.t 3)),
 vn (.store 2 1 (.t 10) (.t 9))])
 (.seq
 (.region false [2] [
 vo 11 (.load 76 true 2 (.t 3)),
 vn (.store 76 2 (.t 2) (.t 11))])
 .ret)))))
 modes := [.lend]
 rets := [⟨2, some (true, 2)⟩] }

def b47_0 : VC :=
 (.seq
 (.region false [1, 11, 12, 13, 14] [
 vo 14 (.bin false .lss 3 (.t 13) (.t 12))])
 (.seq
 (.cond (.t 14)
 .skip
 (.exit 0))
 (.seq
 (.block 1
 (.seq
 (.region false [1, 3, 4, 11, 12, 13] [
 vo 15 (.mov (.t 13)),
 vo 16 (.ia 74 127 4 (.t 11) (.t 13)),
 vo 17 (.load 127 true 4 (.t 16)),
 vo 4 (.alloc 127 [(.val (.string (⟨#[]⟩ : ByteArray))), (.val (.int .i64 0)), (.val (.string (⟨#[]⟩ : ByteArray))), (.val (.int .i64 0))]),
 vo 3 (.asg (.t 15)),
 vn (.store 127 4 (.t 4) (.t 17))])
 (.seq
 (.region true [1, 5, 11, 12, 13] [
 vo 18 (.load 127 true 4 (.t 4)),
 ⟨some 19, .fa 76 0 0 1 (.t 1), none, [0]⟩,
 ⟨some 20, .load 74 false 1 (.t 19), none, [0]⟩,
 ⟨some 21, .mov (.t 3), none, [0, 1, 2]⟩,
 ⟨some 22, .cut 74 (some 127) 4 (.t 20) none (some (.t 21)), none, [0]⟩,
 vo 23 (.call 92 [(.t 18), (.t 22)]),
 vo 5 (.asg (.t 23))])
 (.seq
 (.region false [1, 5, 11, 12, 13, 25] [
 vo 24 (.mov (.t 5)),
 vo 25 (.bin false .neq 2 (.t 24) (.c (.int .i64 0)))])
 (.cond (.t 25)
 (.seq
 (.region false [2] [
 vo 26 (.mov (.t 5)),
 vo 2 (.asg (.t 26))])
 .ret)
 .skip)))))
 (.region false [1, 11, 12, 13] [
 vo 27 (.bin false .add 3 (.t 13) (.c (.int .i64 1))),
 vo 13 (.mov (.t 27))]))))
def l47_0 : VC := .loop b47_0
/-- loop.example/g00539/impl.ServerFault -/
def v47 : VFun := {
 code :=
 (.seq
 (.region false [1] [
 vo 1 (.box 76 (.t 0)),
 vo 2 (.asg (.c (.int .i64 0)))])
 (.seq
 (.seq
 (.region false [1, 9] [
 vo 6 (.fa 76 0 0 1 (.t 1)),
 vo 7 (.load 74 false 1 (.t 6)),
 vo 8 (.len false 74 (.t 7)),
 vo 9 (.bin false .gtr 3 (.t 8) (.c (.int .i64 4)))])
 (.cond (.t 9)
 (.seq
 (.region false [2] [
 vo 2 (.asg (.c (.int .i64 2)))])
 .ret)
 .skip))
 (.seq
 (.seq
 (.region false [1, 11, 12, 13] [
 vo 10 (.fa 76 0 0 1 (.t 1)),
 vo 11 (.load 74 false 1 (.t 10)),
 vo 12 (.len false 74 (.t 11)),
 vo 13 (.mov (.c (.int .i64 0)))])
 (.block 0
 l47_0))
 (.seq
 (.seq
 (.region false [37] [
 vo 28 (.fa 76 1 1 1 (.t 1)),
 vo 29 (.load 2 false 1 (.t 28)),
 vo 30 (.call 93 [(.t 29), (.c (.int .i64 0)), (.c (.int .i64 999))]),
 vo 31 (.un .not (.t 30)),
 vo 32 (.mov (.t 31)),
 ⟨some 33, .fa 76 0 0 1 (.t 1), some (32, false), []⟩,
 ⟨some 34, .load 74 false 1 (.t 33), some (32, false), []⟩,
 ⟨some 35, .fn 95 [] [(.t 1)], some (32, false), []⟩,
 ⟨some 36, .call 94 [(.t 34), (.t 35)], some (32, false), []⟩,
 vo 37 (.pick (.t 32) (.c (.bool true)) (.t 36))])
 (.cond (.t 37)
 (.seq
 (.region false [2] [
 vo 2 (.asg (.c (.int .i64 3)))])
 .ret)
 .skip))
 (.seq
 (.region false [2] [
 vo 2 (.asg (.c (.int .i64 0)))])
 .ret)))))
 modes := [.lend]
 rets := [⟨2, none⟩] }

/-- loop.example/g00539/laws.eqServer -/
def v48 : VFun := {
 code :=
 (.seq
 (.region false [2, 3] [
 vo 2 (.box 76 (.t 0)),
 vo 3 (.box 76 (.t 1)),
 vo 4 (.asg (.c (.bool false)))])
 (.seq
 (.seq
 (.region false [2, 3, 10] [
 vo 5 (.fa 76 0 0 1 (.t 2)),
 vo 6 (.load 74 false 1 (.t 5)),
 vo 7 (.fa 76 0 0 1 (.t 3)),
 vo 8 (.load 74 false 1 (.t 7)),
 vo 9 (.call 96 [(.t 6), (.t 8)]),
 vo 10 (.un .not (.t 9))])
 (.cond (.t 10)
 (.seq
 (.region false [4] [
 vo 4 (.asg (.c (.bool false)))])
 .ret)
 .skip))
 (.seq
 (.seq
 (.region false [15] [
 vo 11 (.fa 76 1 1 1 (.t 2)),
 vo 12 (.load 2 false 1 (.t 11)),
 vo 13 (.fa 76 1 1 1 (.t 3)),
 vo 14 (.load 2 false 1 (.t 13)),
 vo 15 (.bin false .neq 2 (.t 12) (.t 14))])
 (.cond (.t 15)
 (.seq
 (.region false [4] [
 vo 4 (.asg (.c (.bool false)))])
 .ret)
 .skip))
 (.seq
 (.region false [4] [
 vo 4 (.asg (.c (.bool true)))])
 .ret))))
 modes := [.lend, .lend]
 rets := [⟨4, none⟩] }

/-- loop.example/g00539/laws.markServer -/
def v52 : VFun := {
 code :=
 (.seq
 (.region false [0, 1, 2] [
 vo 2 (.box 76 (.t 0)),
 vo 4 (.asg (.c (.int .i64 0)))])
 (.seq
 (.region false [0, 1, 2] [
 vo 5 (.fa 76 0 0 1 (.t 2)),
 vo 6 (.load 74 false 1 (.t 5)),
 vo 7 (.mov (.t 1)),
 vo 8 (.call 99 [(.t 6), (.t 7)]),
 vo 1 (.asg (.t 8))])
 (.seq
 (.region false [0, 2, 4] [
 vo 9 (.mov (.t 1)),
 vo 4 (.asg (.t 9))])
 .ret)))
 modes := [.io, .lend]
 rets := [⟨4, none⟩] }

/-- loop.example/g00539/spec.OpenSession -/
def v55 : VFun := {
 code :=
 (.seq
 (.region false [1, 2] [
 vo 1 (.box 76 (.t 0)),
 vo 2 (.alloc 89 [(.val (.int .i64 0)), (.nl 1), (.nl 7), (.nl 4), (.val (.int .i64 0))])])
 (.seq
 (.seq
 (.region false [1, 2, 3] [
 vo 5 (.call 90 [(.t 1)]),
 vo 3 (.asg (.t 5))])
 (.seq
 (.region false [1, 2, 3, 7] [
 vo 6 (.mov (.t 3)),
 vo 7 (.bin false .neq 2 (.t 6) (.c (.int .i64 0)))])
 (.cond (.t 7)
 (.seq
 (.region false [2] [
 vo 8 (.mov (.t 3)),
 vo 9 (.call 102 [(.t 8)]),
 vn (.store 89 5 (.t 2) (.t 9))])
 .ret)
 .skip)))
 (.seq
 (.seq
 (.region false [1, 2, 13] [
 vo 10 (.fa 76 0 0 1 (.t 1)),
 vo 11 (.load 74 false 1 (.t 10)),
 vo 12 (.len false 74 (.t 11)),
 vo 13 (.bin false .geq 3 (.t 12) (.c (.int .i64 4)))])
 (.cond (.t 13)
 (.seq
 (.region false [2] [
 vo 14 (.call 102 [(.c (.int .i64 10))]),
 vn (.store 89 5 (.t 2) (.t 14))])
 .ret)
 .skip))
 (.seq
 (.region false [2, 4] [
 vo 15 (.load 76 true 2 (.t 1)),
 vo 16 (.call 103 [(.t 15)]),
 vo 4 (.alloc 76 [(.nl 4), (.val (.int .i64 0))]),
 vn (.store 76 2 (.t 4) (.t 16))])
 (.seq
 (.region false [2, 4] [
 vo 17 (.fa 76 0 0 1 (.t 4)),
 vo 18 (.load 74 false 1 (.t 17)),
 vo 19 (.build 127 [(.val (.string (⟨#[]⟩ : ByteArray))), (.val (.int .i64 0)), (.val (.string (⟨#[]⟩ : ByteArray))), (.val (.int .i64 0))] [(1, 1, 1, (.c (.int .i64 (-1)))), (3, 3, 1, (.c (.int .i64 1)))]),
 vo 20 (.lit 74 127 4 1 [(.val (.string (⟨#[]⟩ : ByteArray))), (.val (.int .i64 0)), (.val (.string (⟨#[]⟩ : ByteArray))), (.val (.int .i64 0))] [(0, (.t 19))]),
 vo 21 (.app 74 127 4 48 (.t 18) (.t 20)),
 vo 22 (.fa 76 0 0 1 (.t 4)),
 vn (.store 74 1 (.t 22) (.t 21))])
 (.seq
 (.region false [2] [
 vo 23 (.load 76 true 2 (.t 4)),
 vo 24 (.build 89 [(.val (.int .i64 0)), (.nl 1), (.nl 7), (.nl 4), (.val (.int .i64 0))] [(3, 3, 2, (.t 23))]),
 vn (.store 89 5 (.t 2) (.t 24))])
 .ret))))))
 modes := [.lend]
 rets := [⟨2, some (true, 5)⟩] }

/-- loop.example/g00539/impl.OpenSession -/
def v56 : VFun := {
 code :=
 (.seq
 (.region false [1, 2] [
 vo 1 (.box 76 (.t 0)),
 vo 2 (.alloc 89 [(.val (.int .i64 0)), (.nl 1), (.nl 7), (.nl 4), (.val (.int .i64 0))])])
 (.seq
 (.seq
 (.region false [1, 2, 3] [
 vo 5 (.load 76 true 2 (.t 1)),
 vo 6 (.call 47 [(.t 5)]),
 vo 3 (.asg (.t 6))])
 (.block 0
 (.seq
 (.region false [1, 2, 3, 7] [
 vo 8 (.mov (.t 3)),
 vo 9 (.bin false .neq 2 (.t 8) (.c (.int .i64 0))),
 vo 7 (.asg (.t 9))])
 (.cond (.t 7)
 (.seq
 (.region false [2] [
 vo 10 (.mov (.t 3)),
 vo 11 (.build 89 [(.val (.int .i64 0)), (.nl 1), (.nl 7), (.nl 4), (.val (.int .i64 0))] [(0, 0, 1, (.t 10))]),
 vn (.store 89 5 (.t 2) (.t 11))])
 .ret)
 (.seq
 (.region false [1, 2, 12] [
 vo 13 (.fa 76 0 0 1 (.t 1)),
 vo 14 (.load 74 false 1 (.t 13)),
 vo 15 (.len false 74 (.t 14)),
 vo 16 (.bin false .geq 3 (.t 15) (.c (.int .i64 4))),
 vo 12 (.asg (.t 16))])
 (.cond (.t 12)
 (.seq
 (.region false [2] [
 vo 17 (.build 89 [(.val (.int .i64 0)), (.nl 1), (.nl 7), (.nl 4), (.val (.int .i64 0))] [(0, 0, 1, (.c (.int .i64 10)))]),
 vn (.store 89 5 (.t 2) (.t 17))])
 .ret)
 .skip))))))
 (.seq
 (.region false [2, 4] [
 vo 18 (.load 76 true 2 (.t 1)),
 vo 19 (.call 104 [(.t 18)]),
 vo 4 (.alloc 76 [(.nl 4), (.val (.int .i64 0))]),
 vn (.store 76 2 (.t 4) (.t 19))])
 (.seq
 (.region false [2, 4] [
 vo 20 (.fa 76 0 0 1 (.t 4)),
 vo 21 (.load 74 false 1 (.t 20)),
 vo 22 (.build 127 [(.val (.string (⟨#[]⟩ : ByteArray))), (.val (.int .i64 0)), (.val (.string (⟨#[]⟩ : ByteArray))), (.val (.int .i64 0))] [(1, 1, 1, (.c (.int .i64 (-1)))), (3, 3, 1, (.c (.int .i64 1)))]),
 vo 23 (.lit 74 127 4 1 [(.val (.string (⟨#[]⟩ : ByteArray))), (.val (.int .i64 0)), (.val (.string (⟨#[]⟩ : ByteArray))), (.val (.int .i64 0))] [(0, (.t 22))]),
 vo 24 (.app 74 127 4 48 (.t 21) (.t 23)),
 vo 25 (.fa 76 0 0 1 (.t 4)),
 vn (.store 74 1 (.t 25) (.t 24))])
 (.seq
 (.region false [2] [
 vo 26 (.load 76 true 2 (.t 4)),
 vo 27 (.build 89 [(.val (.int .i64 0)), (.nl 1), (.nl 7), (.nl 4), (.val (.int .i64 0))] [(3, 3, 2, (.t 26))]),
 vn (.store 89 5 (.t 2) (.t 27))])
 .ret)))))
 modes := [.lend]
 rets := [⟨2, some (true, 5)⟩] }

/-- loop.example/g00539/laws.eqServerResult -/
def v57 : VFun := {
 code :=
 (.seq
 (.region false [2, 3] [
 vo 2 (.box 89 (.t 0)),
 vo 3 (.box 89 (.t 1)),
 vo 4 (.asg (.c (.bool false)))])
 (.seq
 (.seq
 (.region false [2, 3, 9] [
 vo 5 (.fa 89 0 0 1 (.t 2)),
 vo 6 (.load 2 false 1 (.t 5)),
 vo 7 (.fa 89 0 0 1 (.t 3)),
 vo 8 (.load 2 false 1 (.t 7)),
 vo 9 (.bin false .neq 2 (.t 6) (.t 8))])
 (.cond (.t 9)
 (.seq
 (.region false [4] [
 vo 4 (.asg (.c (.bool false)))])
 .ret)
 .skip))
 (.seq
 (.seq
 (.region false [2, 3, 15] [
 vo 10 (.fa 89 1 1 1 (.t 2)),
 vo 11 (.load 80 false 1 (.t 10)),
 vo 12 (.fa 89 1 1 1 (.t 3)),
 vo 13 (.load 80 false 1 (.t 12)),
 vo 14 (.call 98 [(.t 11), (.t 13)]),
 vo 15 (.un .not (.t 14))])
 (.cond (.t 15)
 (.seq
 (.region false [4] [
 vo 4 (.asg (.c (.bool false)))])
 .ret)
 .skip))
 (.seq
 (.seq
 (.region false [2, 3, 21] [
 vo 16 (.fa 89 2 2 1 (.t 2)),
 vo 17 (.load 87 false 1 (.t 16)),
 vo 18 (.fa 89 2 2 1 (.t 3)),
 vo 19 (.load 87 false 1 (.t 18)),
 vo 20 (.call 105 [(.t 17), (.t 19)]),
 vo 21 (.un .not (.t 20))])
 (.cond (.t 21)
 (.seq
 (.region false [4] [
 vo 4 (.asg (.c (.bool false)))])
 .ret)
 .skip))
 (.seq
 (.seq
 (.region false [27] [
 vo 22 (.fa 89 3 3 2 (.t 2)),
 vo 23 (.load 76 true 2 (.t 22)),
 vo 24 (.fa 89 3 3 2 (.t 3)),
 vo 25 (.load 76 true 2 (.t 24)),
 vo 26 (.call 48 [(.t 23), (.t 25)]),
 vo 27 (.un .not (.t 26))])
 (.cond (.t 27)
 (.seq
 (.region false [4] [
 vo 4 (.asg (.c (.bool false)))])
 .ret)
 .skip))
 (.seq
 (.region false [4] [
 vo 4 (.asg (.c (.bool true)))])
 .ret))))))
 modes := [.lend, .lend]
 rets := [⟨4, none⟩] }

/-- loop.example/g00539/laws.markServerResult -/
def v58 : VFun := {
 code :=
 (.seq
 (.region false [0, 1, 2] [
 vo 2 (.box 89 (.t 0)),
 vo 4 (.asg (.c (.int .i64 0)))])
 (.seq
 (.region false [0, 1, 2] [
 vo 5 (.fa 89 1 1 1 (.t 2)),
 vo 6 (.load 80 false 1 (.t 5)),
 vo 7 (.mov (.t 1)),
 vo 8 (.call 100 [(.t 6), (.t 7)]),
 vo 1 (.asg (.t 8))])
 (.seq
 (.region false [0, 1, 2] [
 vo 9 (.fa 89 2 2 1 (.t 2)),
 vo 10 (.load 87 false 1 (.t 9)),
 vo 11 (.mov (.t 1)),
 vo 12 (.call 106 [(.t 10), (.t 11)]),
 vo 1 (.asg (.t 12))])
 (.seq
 (.region false [0, 1, 2] [
 vo 13 (.fa 89 3 3 2 (.t 2)),
 vo 14 (.load 76 true 2 (.t 13)),
 vo 15 (.mov (.t 1)),
 vo 16 (.call 52 [(.t 14), (.t 15)]),
 vo 1 (.asg (.t 16))])
 (.seq
 (.region false [0, 2, 4] [
 vo 17 (.mov (.t 1)),
 vo 4 (.asg (.t 17))])
 .ret)))))
 modes := [.io, .lend]
 rets := [⟨4, none⟩] }

/-- loop.example/g00539/laws.heldServerResult -/
def v59 : VFun := {
 code :=
 (.seq
 (.region false [1, 2] [
 vo 2 (.box 89 (.t 0)),
 vo 4 (.asg (.c (.int .i64 0)))])
 (.seq
 (.region false [1, 2] [
 vo 5 (.fa 89 1 1 1 (.t 2)),
 vo 6 (.load 80 false 1 (.t 5)),
 vo 7 (.mov (.t 1)),
 vo 8 (.call 101 [(.t 6), (.t 7)]),
 vo 1 (.asg (.t 8))])
 (.seq
 (.seq
 (.region false [1, 2, 10] [
 vo 9 (.mov (.t 1)),
 vo 10 (.bin false .lss 3 (.t 9) (.c (.int .i64 0)))])
 (.cond (.t 10)
 (.seq
 (.region false [4] [
 vo 4 (.asg (.c (.int .i64 (-1))))])
 .ret)
 .skip))
 (.seq
 (.region false [1, 2] [
 vo 11 (.fa 89 2 2 1 (.t 2)),
 vo 12 (.load 87 false 1 (.t 11)),
 vo 13 (.mov (.t 1)),
 vo 14 (.call 107 [(.t 12), (.t 13)]),
 vo 1 (.asg (.t 14))])
 (.seq
 (.seq
 (.region false [1, 2, 16] [
 vo 15 (.mov (.t 1)),
 vo 16 (.bin false .lss 3 (.t 15) (.c (.int .i64 0)))])
 (.cond (.t 16)
 (.seq
 (.region false [4] [
 vo 4 (.asg (.c (.int .i64 (-1))))])
 .ret)
 .skip))
 (.seq
 (.region false [1] [
 vo 17 (.fa 89 3 3 2 (.t 2)),
 vo 18 (.load 76 true 2 (.t 17)),
 vo 19 (.mov (.t 1)),
 vo 20 (.call 108 [(.t 18), (.t 19)]),
 vo 1 (.asg (.t 20))])
 (.seq
 (.seq
 (.region false [1, 22] [
 vo 21 (.mov (.t 1)),
 vo 22 (.bin false .lss 3 (.t 21) (.c (.int .i64 0)))])
 (.cond (.t 22)
 (.seq
 (.region false [4] [
 vo 4 (.asg (.c (.int .i64 (-1))))])
 .ret)
 .skip))
 (.seq
 (.region false [4] [
 vo 23 (.mov (.t 1)),
 vo 4 (.asg (.t 23))])
 .ret))))))))
 modes := [.lend, .lend]
 rets := [⟨4, none⟩] }

def b82_0 : VC :=
 (.seq
 (.seq
 (.region false [0, 3, 7] [
 vo 6 (.mov (.t 0)),
 vo 7 (.bin false .gtr 3 (.t 6) (.c (.int .i64 0)))])
 (.cond (.t 7)
 .skip
 (.exit 0)))
 (.block 1
 (.seq
 (.region false [0, 3] [
 vo 8 (.mov (.t 0)),
 vo 9 (.bin false .rem 3 (.t 8) (.c (.int .i64 10))),
 vo 10 (.bin false .add 3 (.c (.int .i64 48)) (.t 9)),
 vo 11 (.conv 3 5 .u8 (.t 10)),
 vo 12 (.lit 25 5 1 1 [(.val (.int .u8 0))] [(0, (.t 11))]),
 vo 13 (.b2s 25 9 (.t 12)),
 vo 14 (.mov (.t 3)),
 vo 15 (.bin false .add 9 (.t 13) (.t 14)),
 vo 3 (.asg (.t 15))])
 (.region false [0, 3] [
 vo 16 (.mov (.t 0)),
 vo 17 (.bin false .quo 3 (.t 16) (.c (.int .i64 10))),
 vo 0 (.asg (.t 17))]))))
def l82_0 : VC := .loop b82_0
/-- loop.example/g00539/laws.markText -/
def v82 : VFun := {
 code :=
 (.seq
 (.region false [0] [
 vo 2 (.asg (.c (.string (⟨#[]⟩ : ByteArray))))])
 (.seq
 (.seq
 (.region false [0, 5] [
 vo 4 (.mov (.t 0)),
 vo 5 (.bin false .leq 3 (.t 4) (.c (.int .i64 0)))])
 (.cond (.t 5)
 (.seq
 (.region false [2] [
 vo 2 (.asg (.c (.string (⟨#[109, 48]⟩ : ByteArray))))])
 .ret)
 .skip))
 (.seq
 (.region false [0, 3] [
 vo 3 (.asg (.c (.string (⟨#[]⟩ : ByteArray))))])
 (.seq
 (.block 0
 l82_0)
 (.seq
 (.region false [2] [
 vo 18 (.mov (.t 3)),
 vo 19 (.bin false .add 9 (.c (.string (⟨#[109]⟩ : ByteArray))) (.t 18)),
 vo 2 (.asg (.t 19))])
 .ret)))))
 modes := [.lend]
 rets := [⟨2, none⟩] }

def b89_0 : VC :=
 (.seq
 (.seq
 (.region false [0, 1, 5, 15] [
 vo 12 (.mov (.t 5)),
 vo 13 (.mov (.t 0)),
 vo 14 (.len false 69 (.t 13)),
 vo 15 (.bin false .lss 3 (.t 12) (.t 14))])
 (.cond (.t 15)
 .skip
 (.exit 0)))
 (.seq
 (.block 1
 (.seq
 (.region false [0, 1, 5] [
 vo 18 (.mov (.t 0)),
 vo 19 (.mov (.t 5)),
 vo 20 (.ia 69 163 4 (.t 18) (.t 19)),
 vo 21 (.load 163 true 4 (.t 20)),
 vo 22 (.mov (.t 1)),
 vo 23 (.call 135 [(.t 21), (.t 22)]),
 vo 1 (.asg (.t 23))])
 (.seq
 (.region false [0, 1, 5, 25] [
 vo 24 (.mov (.t 1)),
 vo 25 (.bin false .lss 3 (.t 24) (.c (.int .i64 0)))])
 (.cond (.t 25)
 (.seq
 (.region false [4] [
 vo 4 (.asg (.c (.int .i64 (-1))))])
 .ret)
 .skip))))
 (.region false [0, 1, 5] [
 vo 16 (.mov (.t 5)),
 vo 17 (.bin false .add 3 (.t 16) (.c (.int .i64 1))),
 vo 5 (.asg (.t 17))])))
def l89_0 : VC := .loop b89_0
/-- loop.example/g00539/laws.szSessionS -/
def v89 : VFun := {
 code :=
 (.seq
 (.region false [0, 1] [
 vo 4 (.asg (.c (.int .i64 0)))])
 (.seq
 (.region false [0, 1] [
 vo 6 (.mov (.t 1)),
 vo 7 (.mov (.t 0)),
 vo 8 (.len false 69 (.t 7)),
 vo 9 (.bin false .sub 3 (.t 6) (.t 8)),
 vo 1 (.asg (.t 9))])
 (.seq
 (.seq
 (.region false [0, 1, 11] [
 vo 10 (.mov (.t 1)),
 vo 11 (.bin false .lss 3 (.t 10) (.c (.int .i64 0)))])
 (.cond (.t 11)
 (.seq
 (.region false [4] [
 vo 4 (.asg (.c (.int .i64 (-1))))])
 .ret)
 .skip))
 (.seq
 (.seq
 (.region false [0, 1, 5] [
 vo 5 (.asg (.c (.int .i64 0)))])
 (.block 0
 l89_0))
 (.seq
 (.region false [4] [
 vo 26 (.mov (.t 1)),
 vo 4 (.asg (.t 26))])
 .ret)))))
 modes := [.lend, .lend]
 rets := [⟨4, none⟩] }

def b90_1 : VC :=
 (.seq
 (.seq
 (.region false [0, 5, 39] [
 vo 33 (.mov (.t 5)),
 vo 34 (.mov (.t 0)),
 vo 35 (.nilc (.t 34)),
 vo 36 (.fa 76 0 0 1 (.t 35)),
 vo 37 (.load 74 false 1 (.t 36)),
 vo 38 (.len false 74 (.t 37)),
 vo 39 (.bin false .lss 3 (.t 33) (.t 38))])
 (.cond (.t 39)
 .skip
 (.exit 2)))
 (.seq
 (.block 3
 (.seq
 (.region true [0, 5, 54] [
 vo 42 (.mov (.t 0)),
 vo 43 (.nilc (.t 42)),
 vo 44 (.fa 76 0 0 1 (.t 43)),
 vo 45 (.load 74 false 1 (.t 44)),
 ⟨some 46, .mov (.t 5), none, [0, 1, 2, 3]⟩,
 vo 47 (.ia 74 127 4 (.t 45) (.t 46)),
 vo 48 (.fa 127 1 1 1 (.t 47)),
 vo 49 (.load 2 false 1 (.t 48)),
 ⟨some 50, .mov (.t 0), none, [0, 1, 2, 3, 4, 5, 6, 7]⟩,
 ⟨some 51, .nilc (.t 50), none, [0, 1, 2, 3, 4, 5, 6, 7]⟩,
 ⟨some 52, .fa 76 1 1 1 (.t 51), none, [0, 1, 2, 3, 4, 5, 6, 7]⟩,
 ⟨some 53, .load 2 false 1 (.t 52), none, [0, 1, 2, 3, 4, 5, 6, 7]⟩,
 vo 54 (.bin false .geq 2 (.t 49) (.t 53))])
 (.cond (.t 54)
 (.seq
 (.region false [2] [
 vo 2 (.asg (.c (.int .i64 3)))])
 .ret)
 .skip)))
 (.region false [0, 5] [
 vo 40 (.mov (.t 5)),
 vo 41 (.bin false .add 3 (.t 40) (.c (.int .i64 1))),
 vo 5 (.asg (.t 41))])))
def l90_1 : VC := .loop b90_1
def b90_0 : VC :=
 (.seq
 (.seq
 (.region false [0, 3, 18] [
 vo 12 (.mov (.t 3)),
 vo 13 (.mov (.t 0)),
 vo 14 (.nilc (.t 13)),
 vo 15 (.fa 76 0 0 1 (.t 14)),
 vo 16 (.load 74 false 1 (.t 15)),
 vo 17 (.len false 74 (.t 16)),
 vo 18 (.bin false .lss 3 (.t 12) (.t 17))])
 (.cond (.t 18)
 .skip
 (.exit 0)))
 (.seq
 (.block 1
 (.seq
 (.region false [0, 3, 4] [
 vo 21 (.mov (.t 0)),
 vo 22 (.mov (.t 3)),
 vo 23 (.call 136 [(.t 21), (.t 22)]),
 vo 4 (.asg (.t 23))])
 (.seq
 (.region false [0, 3, 4, 25] [
 vo 24 (.mov (.t 4)),
 vo 25 (.bin false .neq 2 (.t 24) (.c (.int .i64 0)))])
 (.cond (.t 25)
 (.seq
 (.region false [2] [
 vo 26 (.mov (.t 4)),
 vo 2 (.asg (.t 26))])
 .ret)
 .skip))))
 (.region false [0, 3] [
 vo 19 (.mov (.t 3)),
 vo 20 (.bin false .add 3 (.t 19) (.c (.int .i64 1))),
 vo 3 (.asg (.t 20))])))
def l90_0 : VC := .loop b90_0
/-- loop.example/g00539/spec.l10Fault -/
def v90 : VFun := {
 code :=
 (.seq
 (.region false [0] [
 vo 2 (.asg (.c (.int .i64 0)))])
 (.seq
 (.seq
 (.region false [0, 11] [
 vo 6 (.mov (.t 0)),
 vo 7 (.nilc (.t 6)),
 vo 8 (.fa 76 0 0 1 (.t 7)),
 vo 9 (.load 74 false 1 (.t 8)),
 vo 10 (.len false 74 (.t 9)),
 vo 11 (.bin false .gtr 3 (.t 10) (.c (.int .i64 4)))])
 (.cond (.t 11)
 (.seq
 (.region false [2] [
 vo 2 (.asg (.c (.int .i64 2)))])
 .ret)
 .skip))
 (.seq
 (.seq
 (.region false [0, 3] [
 vo 3 (.asg (.c (.int .i64 0)))])
 (.block 0
 l90_0))
 (.seq
 (.seq
 (.region false [0, 32] [
 vo 27 (.mov (.t 0)),
 vo 28 (.nilc (.t 27)),
 vo 29 (.fa 76 1 1 1 (.t 28)),
 vo 30 (.load 2 false 1 (.t 29)),
 vo 31 (.call 113 [(.t 30), (.c (.int .i64 0)), (.c (.int .i64 999))]),
 vo 32 (.un .not (.t 31))])
 (.cond (.t 32)
 (.seq
 (.region false [2] [
 vo 2 (.asg (.c (.int .i64 3)))])
 .ret)
 .skip))
 (.seq
 (.seq
 (.region false [0, 5] [
 vo 5 (.asg (.c (.int .i64 0)))])
 (.block 2
 l90_1))
 (.seq
 (.region false [2] [
 vo 2 (.asg (.c (.int .i64 0)))])
 .ret))))))
 modes := [.lend]
 rets := [⟨2, none⟩] }

def b91_0 : VC :=
 (.seq
 (.seq
 (.region false [0, 3, 4, 7, 11] [
 vo 8 (.mov (.t 4)),
 vo 9 (.mov (.t 0)),
 vo 10 (.len false 69 (.t 9)),
 vo 11 (.bin false .lss 3 (.t 8) (.t 10))])
 (.cond (.t 11)
 .skip
 (.exit 0)))
 (.seq
 (.block 1
 (.region false [0, 3, 4, 7] [
 vo 14 (.mov (.t 3)),
 vo 15 (.mov (.t 4)),
 vo 16 (.mov (.t 0)),
 vo 17 (.mov (.t 4)),
 vo 18 (.ia 69 163 4 (.t 16) (.t 17)),
 vo 19 (.load 163 true 4 (.t 18)),
 vo 20 (.call 137 [(.t 19)]),
 vo 21 (.ia 74 127 4 (.t 14) (.t 15)),
 vn (.store 127 4 (.t 21) (.t 20))]))
 (.region false [0, 3, 4, 7] [
 vo 12 (.mov (.t 4)),
 vo 13 (.bin false .add 3 (.t 12) (.c (.int .i64 1))),
 vo 4 (.asg (.t 13))])))
def l91_0 : VC := .loop b91_0
/-- loop.example/g00539/laws.toSessionS -/
def v91 : VFun := {
 code :=
 (.seq
 (.region false [0] [
 vo 2 (.asg (.n 4))])
 (.seq
 (.region false [0, 3, 7] [
 vo 5 (.mov (.t 0)),
 vo 6 (.len false 69 (.t 5)),
 vo 7 (.mk 74 127 4 48 [(.val (.string (⟨#[]⟩ : ByteArray))), (.val (.int .i64 0)), (.val (.string (⟨#[]⟩ : ByteArray))), (.val (.int .i64 0))] (.t 6) (.t 6)),
 vo 3 (.asg (.t 7))])
 (.seq
 (.seq
 (.region false [0, 3, 4, 7] [
 vo 4 (.asg (.c (.int .i64 0)))])
 (.block 0
 l91_0))
 (.seq
 (.region false [2, 3, 7] [
 vo 22 (.mov (.t 3)),
 vo 2 (.asg (.t 22))])
 .ret))))
 modes := [.lend]
 rets := [⟨2, none⟩] }

/-- loop.example/g00539/impl.sessionFault -/
def v92 : VFun := {
 code :=
 (.seq
 (.region false [1, 2] [
 vo 2 (.box 127 (.t 0)),
 vo 4 (.asg (.c (.int .i64 0)))])
 (.seq
 (.block 0
 (.seq
 (.region false [1, 2, 5] [
 vo 6 (.fa 127 0 0 1 (.t 2)),
 vo 7 (.load 9 false 1 (.t 6)),
 vo 8 (.len true 9 (.t 7)),
 vo 9 (.bin false .gtr 3 (.t 8) (.c (.int .i64 161))),
 vo 10 (.mov (.t 9)),
 ⟨some 11, .fa 127 0 0 1 (.t 2), some (10, false), []⟩,
 ⟨some 12, .load 9 false 1 (.t 11), some (10, false), []⟩,
 ⟨some 13, .call 138 [(.t 12), (.c (.int .u8 10))], some (10, false), []⟩,
 ⟨some 14, .bin false .geq 3 (.t 13) (.c (.int .i64 0)), some (10, false), []⟩,
 vo 15 (.pick (.t 10) (.c (.bool true)) (.t 14)),
 vo 16 (.mov (.t 15)),
 ⟨some 17, .fa 127 2 2 1 (.t 2), some (16, false), []⟩,
 ⟨some 18, .load 9 false 1 (.t 17), some (16, false), []⟩,
 ⟨some 19, .call 139 [(.t 18)], some (16, false), []⟩,
 vo 20 (.pick (.t 16) (.c (.bool true)) (.t 19)),
 vo 5 (.asg (.t 20))])
 (.cond (.t 5)
 (.seq
 (.region false [4] [
 vo 4 (.asg (.c (.int .i64 5)))])
 .ret)
 (.seq
 (.region false [1, 2, 21] [
 vo 22 (.fa 127 1 1 1 (.t 2)),
 vo 23 (.load 2 false 1 (.t 22)),
 vo 24 (.call 93 [(.t 23), (.c (.int .i64 (-1))), (.c (.int .i64 998))]),
 vo 25 (.un .not (.t 24)),
 vo 26 (.mov (.t 25)),
 ⟨some 27, .fa 127 3 3 1 (.t 2), some (26, false), []⟩,
 ⟨some 28, .load 2 false 1 (.t 27), some (26, false), []⟩,
 ⟨some 29, .call 140 [(.t 28)], some (26, false), []⟩,
 ⟨some 30, .un .not (.t 29), some (26, false), []⟩,
 vo 31 (.pick (.t 26) (.c (.bool true)) (.t 30)),
 vo 21 (.asg (.t 31))])
 (.cond (.t 21)
 (.seq
 (.region false [4] [
 vo 4 (.asg (.c (.int .i64 3)))])
 .ret)
 (.seq
 (.region false [1, 2, 32] [
 vo 33 (.fa 127 2 2 1 (.t 2)),
 vo 34 (.load 9 false 1 (.t 33)),
 vo 35 (.bin false .neq 9 (.t 34) (.c (.string (⟨#[]⟩ : ByteArray)))),
 vo 36 (.mov (.t 35)),
 ⟨some 37, .fa 127 1 1 1 (.t 2), some (36, true), []⟩,
 ⟨some 38, .load 2 false 1 (.t 37), some (36, true), []⟩,
 ⟨some 39, .bin false .eql 2 (.t 38) (.c (.int .i64 (-1))), some (36, true), []⟩,
 vo 40 (.pick (.t 36) (.t 39) (.c (.bool false))),
 vo 32 (.asg (.t 40))])
 (.cond (.t 32)
 (.seq
 (.region false [4] [
 vo 4 (.asg (.c (.int .i64 1)))])
 .ret)
 (.seq
 (.region false [41] [
 vo 42 (.fa 127 1 1 1 (.t 2)),
 vo 43 (.load 2 false 1 (.t 42)),
 vo 44 (.bin false .neq 2 (.t 43) (.c (.int .i64 (-1)))),
 vo 45 (.mov (.t 44)),
 ⟨some 46, .mov (.t 1), some (45, true), []⟩,
 ⟨some 47, .fn 141 [] [(.t 2)], some (45, true), []⟩,
 ⟨some 48, .call 94 [(.t 46), (.t 47)], some (45, true), []⟩,
 vo 49 (.pick (.t 45) (.t 48) (.c (.bool false))),
 vo 41 (.asg (.t 49))])
 (.cond (.t 41)
 (.seq
 (.region false [4] [
 vo 4 (.asg (.c (.int .i64 6)))])
 .ret)
 .skip)))))))))
 (.seq
 (.region false [4] [
 vo 4 (.asg (.c (.int .i64 0)))])
 .ret)))
 modes := [.lend, .lend]
 rets := [⟨4, none⟩] }

/-- loop.example/g00539/impl.in -/
def v93 : VFun := {
 code :=
 (.seq
 (.region false [0, 1, 2] [
 vo 6 (.asg (.c (.bool false)))])
 (.seq
 (.region false [6] [
 vo 7 (.mov (.t 0)),
 vo 8 (.mov (.t 1)),
 vo 9 (.bin false .geq 2 (.t 7) (.t 8)),
 vo 10 (.mov (.t 9)),
 ⟨some 11, .mov (.t 0), some (10, true), []⟩,
 ⟨some 12, .mov (.t 2), some (10, true), []⟩,
 ⟨some 13, .bin false .leq 2 (.t 11) (.t 12), some (10, true), []⟩,
 vo 14 (.pick (.t 10) (.t 13) (.c (.bool false))),
 vo 6 (.asg (.t 14))])
 .ret))
 modes := [.lend, .lend, .lend]
 rets := [⟨6, none⟩] }

/-- slices.ContainsFunc[[]loop.example/g00539/impl.Session,loop.example/g00539/impl.Session] -/
def v94 : VFun := {
 code :=
 (.seq
 (.region false [0, 1] [
 vo 4 (.asg (.c (.bool false)))])
 (.seq
 (.region false [4] [
 vo 5 (.mov (.t 0)),
 vo 6 (.mov (.t 1)),
 vo 7 (.call 142 [(.t 5), (.t 6)]),
 vo 8 (.bin false .geq 3 (.t 7) (.c (.int .i64 0))),
 vo 4 (.asg (.t 8))])
 .ret))
 modes := [.lend, .lend]
 rets := [⟨4, none⟩] }

/-- loop.example/g00539/impl.ServerFault$1 -/
def v95 : VFun := {
 code :=
 (.seq
 (.region false [1, 2] [
 vo 2 (.box 127 (.t 0)),
 vo 3 (.asg (.c (.bool false)))])
 (.seq
 (.region false [3] [
 vo 4 (.fa 127 1 1 1 (.t 2)),
 vo 5 (.load 2 false 1 (.t 4)),
 vo 6 (.fa 76 1 1 1 (.t 1)),
 vo 7 (.load 2 false 1 (.t 6)),
 vo 8 (.bin false .geq 2 (.t 5) (.t 7)),
 vo 3 (.asg (.t 8))])
 .ret))
 modes := [.lend, .lend]
 rets := [⟨3, none⟩] }

def b96_0 : VC :=
 (.seq
 (.seq
 (.region false [0, 1, 5, 14] [
 vo 11 (.mov (.t 5)),
 vo 12 (.mov (.t 0)),
 vo 13 (.len false 74 (.t 12)),
 vo 14 (.bin false .lss 3 (.t 11) (.t 13))])
 (.cond (.t 14)
 .skip
 (.exit 0)))
 (.seq
 (.block 1
 (.seq
 (.region true [0, 1, 5, 26] [
 vo 17 (.mov (.t 0)),
 ⟨some 18, .mov (.t 5), none, [0]⟩,
 vo 19 (.ia 74 127 4 (.t 17) (.t 18)),
 vo 20 (.load 127 true 4 (.t 19)),
 ⟨some 21, .mov (.t 1), none, [0, 1, 2, 3]⟩,
 ⟨some 22, .mov (.t 5), none, [0, 1, 2, 3, 4]⟩,
 ⟨some 23, .ia 74 127 4 (.t 21) (.t 22), none, [0, 1, 2, 3]⟩,
 ⟨some 24, .load 127 true 4 (.t 23), none, [0, 1, 2, 3]⟩,
 vo 25 (.call 143 [(.t 20), (.t 24)]),
 vo 26 (.un .not (.t 25))])
 (.cond (.t 26)
 (.seq
 (.region false [4] [
 vo 4 (.asg (.c (.bool false)))])
 .ret)
 .skip)))
 (.region false [0, 1, 5] [
 vo 15 (.mov (.t 5)),
 vo 16 (.bin false .add 3 (.t 15) (.c (.int .i64 1))),
 vo 5 (.asg (.t 16))])))
def l96_0 : VC := .loop b96_0
/-- loop.example/g00539/laws.eqSessionS -/
def v96 : VFun := {
 code :=
 (.seq
 (.region false [0, 1] [
 vo 4 (.asg (.c (.bool false)))])
 (.seq
 (.seq
 (.region false [0, 1, 10] [
 vo 6 (.mov (.t 0)),
 vo 7 (.len false 74 (.t 6)),
 vo 8 (.mov (.t 1)),
 vo 9 (.len false 74 (.t 8)),
 vo 10 (.bin false .neq 3 (.t 7) (.t 9))])
 (.cond (.t 10)
 (.seq
 (.region false [4] [
 vo 4 (.asg (.c (.bool false)))])
 .ret)
 .skip))
 (.seq
 (.seq
 (.region false [0, 1, 5] [
 vo 5 (.asg (.c (.int .i64 0)))])
 (.block 0
 l96_0))
 (.seq
 (.region false [4] [
 vo 4 (.asg (.c (.bool true)))])
 .ret))))
 modes := [.lend, .lend]
 rets := [⟨4, none⟩] }

def b98_0 : VC :=
 (.seq
 (.seq
 (.region false [0, 1, 5, 14] [
 vo 11 (.mov (.t 5)),
 vo 12 (.mov (.t 0)),
 vo 13 (.len false 80 (.t 12)),
 vo 14 (.bin false .lss 3 (.t 11) (.t 13))])
 (.cond (.t 14)
 .skip
 (.exit 0)))
 (.seq
 (.block 1
 (.seq
 (.region true [0, 1, 5, 25] [
 vo 17 (.mov (.t 0)),
 ⟨some 18, .mov (.t 5), none, [0]⟩,
 vo 19 (.ia 80 9 1 (.t 17) (.t 18)),
 vo 20 (.load 9 false 1 (.t 19)),
 ⟨some 21, .mov (.t 1), none, [0, 1, 2, 3]⟩,
 ⟨some 22, .mov (.t 5), none, [0, 1, 2, 3, 4]⟩,
 ⟨some 23, .ia 80 9 1 (.t 21) (.t 22), none, [0, 1, 2, 3]⟩,
 ⟨some 24, .load 9 false 1 (.t 23), none, [0, 1, 2, 3]⟩,
 vo 25 (.bin false .neq 9 (.t 20) (.t 24))])
 (.cond (.t 25)
 (.seq
 (.region false [4] [
 vo 4 (.asg (.c (.bool false)))])
 .ret)
 .skip)))
 (.region false [0, 1, 5] [
 vo 15 (.mov (.t 5)),
 vo 16 (.bin false .add 3 (.t 15) (.c (.int .i64 1))),
 vo 5 (.asg (.t 16))])))
def l98_0 : VC := .loop b98_0
/-- loop.example/g00539/laws.eqStringS -/
def v98 : VFun := {
 code :=
 (.seq
 (.region false [0, 1] [
 vo 4 (.asg (.c (.bool false)))])
 (.seq
 (.seq
 (.region false [0, 1, 10] [
 vo 6 (.mov (.t 0)),
 vo 7 (.len false 80 (.t 6)),
 vo 8 (.mov (.t 1)),
 vo 9 (.len false 80 (.t 8)),
 vo 10 (.bin false .neq 3 (.t 7) (.t 9))])
 (.cond (.t 10)
 (.seq
 (.region false [4] [
 vo 4 (.asg (.c (.bool false)))])
 .ret)
 .skip))
 (.seq
 (.seq
 (.region false [0, 1, 5] [
 vo 5 (.asg (.c (.int .i64 0)))])
 (.block 0
 l98_0))
 (.seq
 (.region false [4] [
 vo 4 (.asg (.c (.bool true)))])
 .ret))))
 modes := [.lend, .lend]
 rets := [⟨4, none⟩] }

def b99_0 : VC :=
 (.seq
 (.seq
 (.region false [0, 1, 5, 9] [
 vo 6 (.mov (.t 5)),
 vo 7 (.mov (.t 0)),
 vo 8 (.len false 74 (.t 7)),
 vo 9 (.bin false .lss 3 (.t 6) (.t 8))])
 (.cond (.t 9)
 .skip
 (.exit 0)))
 (.seq
 (.block 1
 (.seq
 (.region false [0, 1, 5] [
 vo 12 (.mov (.t 0)),
 vo 13 (.mov (.t 5)),
 vo 14 (.mov (.t 1)),
 vo 15 (.call 82 [(.t 14)]),
 vo 16 (.ia 74 127 4 (.t 12) (.t 13)),
 vo 17 (.fa 127 0 0 1 (.t 16)),
 vn (.store 9 1 (.t 17) (.t 15))])
 (.seq
 (.region false [0, 1, 5] [
 vo 18 (.mov (.t 1)),
 vo 19 (.bin false .add 3 (.t 18) (.c (.int .i64 1))),
 vo 1 (.asg (.t 19))])
 (.seq
 (.region false [0, 1, 5] [
 vo 20 (.mov (.t 0)),
 vo 21 (.mov (.t 5)),
 vo 22 (.mov (.t 1)),
 vo 23 (.ia 74 127 4 (.t 20) (.t 21)),
 vo 24 (.fa 127 1 1 1 (.t 23)),
 vn (.store 2 1 (.t 24) (.t 22))])
 (.seq
 (.region false [0, 1, 5] [
 vo 25 (.mov (.t 1)),
 vo 26 (.bin false .add 3 (.t 25) (.c (.int .i64 1))),
 vo 1 (.asg (.t 26))])
 (.seq
 (.region false [0, 1, 5] [
 vo 27 (.mov (.t 0)),
 vo 28 (.mov (.t 5)),
 vo 29 (.mov (.t 1)),
 vo 30 (.call 82 [(.t 29)]),
 vo 31 (.ia 74 127 4 (.t 27) (.t 28)),
 vo 32 (.fa 127 2 2 1 (.t 31)),
 vn (.store 9 1 (.t 32) (.t 30))])
 (.seq
 (.region false [0, 1, 5] [
 vo 33 (.mov (.t 1)),
 vo 34 (.bin false .add 3 (.t 33) (.c (.int .i64 1))),
 vo 1 (.asg (.t 34))])
 (.seq
 (.region false [0, 1, 5] [
 vo 35 (.mov (.t 0)),
 vo 36 (.mov (.t 5)),
 vo 37 (.mov (.t 1)),
 vo 38 (.ia 74 127 4 (.t 35) (.t 36)),
 vo 39 (.fa 127 3 3 1 (.t 38)),
 vn (.store 2 1 (.t 39) (.t 37))])
 (.region false [0, 1, 5] [
 vo 40 (.mov (.t 1)),
 vo 41 (.bin false .add 3 (.t 40) (.c (.int .i64 1))),
 vo 1 (.asg (.t 41))])))))))))
 (.region false [0, 1, 5] [
 vo 10 (.mov (.t 5)),
 vo 11 (.bin false .add 3 (.t 10) (.c (.int .i64 1))),
 vo 5 (.asg (.t 11))])))
def l99_0 : VC := .loop b99_0
/-- loop.example/g00539/laws.markSessionS -/
def v99 : VFun := {
 code :=
 (.seq
 (.region false [0, 1] [
 vo 4 (.asg (.c (.int .i64 0)))])
 (.seq
 (.seq
 (.region false [0, 1, 5] [
 vo 5 (.asg (.c (.int .i64 0)))])
 (.block 0
 l99_0))
 (.seq
 (.region false [0, 4] [
 vo 42 (.mov (.t 1)),
 vo 4 (.asg (.t 42))])
 .ret)))
 modes := [.io, .lend]
 rets := [⟨4, none⟩] }

def b100_0 : VC :=
 (.seq
 (.seq
 (.region false [0, 1, 5, 9] [
 vo 6 (.mov (.t 5)),
 vo 7 (.mov (.t 0)),
 vo 8 (.len false 80 (.t 7)),
 vo 9 (.bin false .lss 3 (.t 6) (.t 8))])
 (.cond (.t 9)
 .skip
 (.exit 0)))
 (.seq
 (.block 1
 (.seq
 (.region false [0, 1, 5] [
 vo 12 (.mov (.t 0)),
 vo 13 (.mov (.t 5)),
 vo 14 (.mov (.t 1)),
 vo 15 (.call 82 [(.t 14)]),
 vo 16 (.ia 80 9 1 (.t 12) (.t 13)),
 vn (.store 9 1 (.t 16) (.t 15))])
 (.region false [0, 1, 5] [
 vo 17 (.mov (.t 1)),
 vo 18 (.bin false .add 3 (.t 17) (.c (.int .i64 1))),
 vo 1 (.asg (.t 18))])))
 (.region false [0, 1, 5] [
 vo 10 (.mov (.t 5)),
 vo 11 (.bin false .add 3 (.t 10) (.c (.int .i64 1))),
 vo 5 (.asg (.t 11))])))
def l100_0 : VC := .loop b100_0
/-- loop.example/g00539/laws.markStringS -/
def v100 : VFun := {
 code :=
 (.seq
 (.region false [0, 1] [
 vo 4 (.asg (.c (.int .i64 0)))])
 (.seq
 (.seq
 (.region false [0, 1, 5] [
 vo 5 (.asg (.c (.int .i64 0)))])
 (.block 0
 l100_0))
 (.seq
 (.region false [0, 4] [
 vo 19 (.mov (.t 1)),
 vo 4 (.asg (.t 19))])
 .ret)))
 modes := [.io, .lend]
 rets := [⟨4, none⟩] }

def b101_0 : VC :=
 (.seq
 (.seq
 (.region false [0, 1, 5, 9] [
 vo 6 (.mov (.t 5)),
 vo 7 (.mov (.t 0)),
 vo 8 (.len false 80 (.t 7)),
 vo 9 (.bin false .lss 3 (.t 6) (.t 8))])
 (.cond (.t 9)
 .skip
 (.exit 0)))
 (.seq
 (.block 1
 (.seq
 (.seq
 (.region true [0, 1, 5, 18] [
 vo 12 (.mov (.t 0)),
 ⟨some 13, .mov (.t 5), none, [0]⟩,
 vo 14 (.ia 80 9 1 (.t 12) (.t 13)),
 vo 15 (.load 9 false 1 (.t 14)),
 ⟨some 16, .mov (.t 1), none, [0, 1, 2, 3]⟩,
 ⟨some 17, .call 82 [(.t 16)], none, [0, 1, 2, 3]⟩,
 vo 18 (.bin false .neq 9 (.t 15) (.t 17))])
 (.cond (.t 18)
 (.seq
 (.region false [4] [
 vo 4 (.asg (.c (.int .i64 (-1))))])
 .ret)
 .skip))
 (.region false [0, 1, 5] [
 vo 19 (.mov (.t 1)),
 vo 20 (.bin false .add 3 (.t 19) (.c (.int .i64 1))),
 vo 1 (.asg (.t 20))])))
 (.region false [0, 1, 5] [
 vo 10 (.mov (.t 5)),
 vo 11 (.bin false .add 3 (.t 10) (.c (.int .i64 1))),
 vo 5 (.asg (.t 11))])))
def l101_0 : VC := .loop b101_0
/-- loop.example/g00539/laws.heldStringS -/
def v101 : VFun := {
 code :=
 (.seq
 (.region false [0, 1] [
 vo 4 (.asg (.c (.int .i64 0)))])
 (.seq
 (.seq
 (.region false [0, 1, 5] [
 vo 5 (.asg (.c (.int .i64 0)))])
 (.block 0
 l101_0))
 (.seq
 (.region false [4] [
 vo 21 (.mov (.t 1)),
 vo 4 (.asg (.t 21))])
 .ret)))
 modes := [.lend, .lend]
 rets := [⟨4, none⟩] }

/-- loop.example/g00539/spec.l10Bad -/
def v102 : VFun := {
 code :=
 (.seq
 (.region false [0, 2] [
 vo 2 (.alloc 89 [(.val (.int .i64 0)), (.nl 1), (.nl 7), (.nl 4), (.val (.int .i64 0))])])
 (.seq
 (.region false [2] [
 vo 3 (.mov (.t 0)),
 vo 4 (.build 89 [(.val (.int .i64 0)), (.nl 1), (.nl 7), (.nl 4), (.val (.int .i64 0))] [(0, 0, 1, (.t 3))]),
 vn (.store 89 5 (.t 2) (.t 4))])
 .ret))
 modes := [.lend]
 rets := [⟨2, some (true, 5)⟩] }

/-- loop.example/g00539/spec.l10Copy -/
def v103 : VFun := {
 code :=
 (.seq
 (.region false [1, 2] [
 vo 1 (.box 76 (.t 0)),
 vo 2 (.alloc 76 [(.nl 4), (.val (.int .i64 0))])])
 (.seq
 (.region true [2] [
 vo 3 (.lit 74 127 4 0 [(.val (.string (⟨#[]⟩ : ByteArray))), (.val (.int .i64 0)), (.val (.string (⟨#[]⟩ : ByteArray))), (.val (.int .i64 0))] []),
 ⟨some 4, .fa 76 0 0 1 (.t 1), none, [0]⟩,
 ⟨some 5, .load 74 false 1 (.t 4), none, [0]⟩,
 vo 6 (.app 74 127 4 48 (.t 3) (.t 5)),
 ⟨some 7, .fa 76 1 1 1 (.t 1), none, [0, 1, 2, 3]⟩,
 ⟨some 8, .load 2 false 1 (.t 7), none, [0, 1, 2, 3]⟩,
 vo 9 (.build 76 [(.nl 4), (.val (.int .i64 0))] [(0, 0, 1, (.t 6)), (1, 1, 1, (.t 8))]),
 vn (.store 76 2 (.t 2) (.t 9))])
 .ret))
 modes := [.lend]
 rets := [⟨2, some (true, 2)⟩] }

/-- loop.example/g00539/impl.cloneServer -/
def v104 : VFun := {
 code :=
 (.seq
 (.region false [1, 2] [
 vo 1 (.box 76 (.t 0)),
 vo 2 (.alloc 76 [(.nl 4), (.val (.int .i64 0))])])
 (.seq
 (.region true [2] [
 vo 3 (.fa 76 0 0 1 (.t 1)),
 vo 4 (.load 74 false 1 (.t 3)),
 vo 5 (.call 145 [(.t 4)]),
 ⟨some 6, .fa 76 1 1 1 (.t 1), none, [0, 1, 2]⟩,
 ⟨some 7, .load 2 false 1 (.t 6), none, [0, 1, 2]⟩,
 vo 8 (.build 76 [(.nl 4), (.val (.int .i64 0))] [(0, 0, 1, (.t 5)), (1, 1, 1, (.t 7))]),
 vn (.store 76 2 (.t 2) (.t 8))])
 .ret))
 modes := [.lend]
 rets := [⟨2, some (true, 2)⟩] }

def b105_0 : VC :=
 (.seq
 (.seq
 (.region false [0, 1, 5, 14] [
 vo 11 (.mov (.t 5)),
 vo 12 (.mov (.t 0)),
 vo 13 (.len false 87 (.t 12)),
 vo 14 (.bin false .lss 3 (.t 11) (.t 13))])
 (.cond (.t 14)
 .skip
 (.exit 0)))
 (.seq
 (.block 1
 (.seq
 (.region true [0, 1, 5, 26] [
 vo 17 (.mov (.t 0)),
 ⟨some 18, .mov (.t 5), none, [0]⟩,
 vo 19 (.ia 87 173 7 (.t 17) (.t 18)),
 vo 20 (.load 173 true 7 (.t 19)),
 ⟨some 21, .mov (.t 1), none, [0, 1, 2, 3]⟩,
 ⟨some 22, .mov (.t 5), none, [0, 1, 2, 3, 4]⟩,
 ⟨some 23, .ia 87 173 7 (.t 21) (.t 22), none, [0, 1, 2, 3]⟩,
 ⟨some 24, .load 173 true 7 (.t 23), none, [0, 1, 2, 3]⟩,
 vo 25 (.call 146 [(.t 20), (.t 24)]),
 vo 26 (.un .not (.t 25))])
 (.cond (.t 26)
 (.seq
 (.region false [4] [
 vo 4 (.asg (.c (.bool false)))])
 .ret)
 .skip)))
 (.region false [0, 1, 5] [
 vo 15 (.mov (.t 5)),
 vo 16 (.bin false .add 3 (.t 15) (.c (.int .i64 1))),
 vo 5 (.asg (.t 16))])))
def l105_0 : VC := .loop b105_0
/-- loop.example/g00539/laws.eqActS -/
def v105 : VFun := {
 code :=
 (.seq
 (.region false [0, 1] [
 vo 4 (.asg (.c (.bool false)))])
 (.seq
 (.seq
 (.region false [0, 1, 10] [
 vo 6 (.mov (.t 0)),
 vo 7 (.len false 87 (.t 6)),
 vo 8 (.mov (.t 1)),
 vo 9 (.len false 87 (.t 8)),
 vo 10 (.bin false .neq 3 (.t 7) (.t 9))])
 (.cond (.t 10)
 (.seq
 (.region false [4] [
 vo 4 (.asg (.c (.bool false)))])
 .ret)
 .skip))
 (.seq
 (.seq
 (.region false [0, 1, 5] [
 vo 5 (.asg (.c (.int .i64 0)))])
 (.block 0
 l105_0))
 (.seq
 (.region false [4] [
 vo 4 (.asg (.c (.bool true)))])
 .ret))))
 modes := [.lend, .lend]
 rets := [⟨4, none⟩] }

def b106_0 : VC :=
 (.seq
 (.seq
 (.region false [0, 1, 5, 9] [
 vo 6 (.mov (.t 5)),
 vo 7 (.mov (.t 0)),
 vo 8 (.len false 87 (.t 7)),
 vo 9 (.bin false .lss 3 (.t 6) (.t 8))])
 (.cond (.t 9)
 .skip
 (.exit 0)))
 (.seq
 (.block 1
 (.seq
 (.region false [0, 1, 5] [
 vo 12 (.mov (.t 0)),
 vo 13 (.mov (.t 5)),
 vo 14 (.mov (.t 1)),
 vo 15 (.ia 87 173 7 (.t 12) (.t 13)),
 vo 16 (.fa 173 0 0 1 (.t 15)),
 vn (.store 2 1 (.t 16) (.t 14))])
 (.seq
 (.region false [0, 1, 5] [
 vo 17 (.mov (.t 1)),
 vo 18 (.bin false .add 3 (.t 17) (.c (.int .i64 1))),
 vo 1 (.asg (.t 18))])
 (.seq
 (.region false [0, 1, 5] [
 vo 19 (.mov (.t 0)),
 vo 20 (.mov (.t 5)),
 vo 21 (.mov (.t 1)),
 vo 22 (.ia 87 173 7 (.t 19) (.t 20)),
 vo 23 (.fa 173 1 1 1 (.t 22)),
 vn (.store 2 1 (.t 23) (.t 21))])
 (.seq
 (.region false [0, 1, 5] [
 vo 24 (.mov (.t 1)),
 vo 25 (.bin false .add 3 (.t 24) (.c (.int .i64 1))),
 vo 1 (.asg (.t 25))])
 (.seq
 (.region false [0, 1, 5] [
 vo 26 (.mov (.t 0)),
 vo 27 (.mov (.t 5)),
 vo 28 (.mov (.t 1)),
 vo 29 (.call 82 [(.t 28)]),
 vo 30 (.ia 87 173 7 (.t 26) (.t 27)),
 vo 31 (.fa 173 2 2 1 (.t 30)),
 vn (.store 9 1 (.t 31) (.t 29))])
 (.seq
 (.region false [0, 1, 5] [
 vo 32 (.mov (.t 1)),
 vo 33 (.bin false .add 3 (.t 32) (.c (.int .i64 1))),
 vo 1 (.asg (.t 33))])
 (.seq
 (.region false [0, 1, 5] [
 vo 34 (.mov (.t 0)),
 vo 35 (.mov (.t 5)),
 vo 36 (.mov (.t 1)),
 vo 37 (.ia 87 173 7 (.t 34) (.t 35)),
 vo 38 (.fa 173 3 3 1 (.t 37)),
 vn (.store 2 1 (.t 38) (.t 36))])
 (.seq
 (.region false [0, 1, 5] [
 vo 39 (.mov (.t 1)),
 vo 40 (.bin false .add 3 (.t 39) (.c (.int .i64 1))),
 vo 1 (.asg (.t 40))])
 (.seq
 (.region false [0, 1, 5] [
 vo 41 (.mov (.t 0)),
 vo 42 (.mov (.t 5)),
 vo 43 (.mov (.t 1)),
 vo 44 (.ia 87 173 7 (.t 41) (.t 42)),
 vo 45 (.fa 173 4 4 1 (.t 44)),
 vn (.store 2 1 (.t 45) (.t 43))])
 (.seq
 (.region false [0, 1, 5] [
 vo 46 (.mov (.t 1)),
 vo 47 (.bin false .add 3 (.t 46) (.c (.int .i64 1))),
 vo 1 (.asg (.t 47))])
 (.seq
 (.region false [0, 1, 5] [
 vo 48 (.mov (.t 0)),
 vo 49 (.mov (.t 5)),
 vo 50 (.mov (.t 1)),
 vo 51 (.ia 87 173 7 (.t 48) (.t 49)),
 vo 52 (.fa 173 5 5 1 (.t 51)),
 vn (.store 2 1 (.t 52) (.t 50))])
 (.seq
 (.region false [0, 1, 5] [
 vo 53 (.mov (.t 1)),
 vo 54 (.bin false .add 3 (.t 53) (.c (.int .i64 1))),
 vo 1 (.asg (.t 54))])
 (.seq
 (.region false [0, 1, 5] [
 vo 55 (.mov (.t 0)),
 vo 56 (.mov (.t 5)),
 vo 57 (.mov (.t 1)),
 vo 58 (.ia 87 173 7 (.t 55) (.t 56)),
 vo 59 (.fa 173 6 6 1 (.t 58)),
 vn (.store 2 1 (.t 59) (.t 57))])
 (.region false [0, 1, 5] [
 vo 60 (.mov (.t 1)),
 vo 61 (.bin false .add 3 (.t 60) (.c (.int .i64 1))),
 vo 1 (.asg (.t 61))])))))))))))))))
 (.region false [0, 1, 5] [
 vo 10 (.mov (.t 5)),
 vo 11 (.bin false .add 3 (.t 10) (.c (.int .i64 1))),
 vo 5 (.asg (.t 11))])))
def l106_0 : VC := .loop b106_0
/-- loop.example/g00539/laws.markActS -/
def v106 : VFun := {
 code :=
 (.seq
 (.region false [0, 1] [
 vo 4 (.asg (.c (.int .i64 0)))])
 (.seq
 (.seq
 (.region false [0, 1, 5] [
 vo 5 (.asg (.c (.int .i64 0)))])
 (.block 0
 l106_0))
 (.seq
 (.region false [0, 4] [
 vo 62 (.mov (.t 1)),
 vo 4 (.asg (.t 62))])
 .ret)))
 modes := [.io, .lend]
 rets := [⟨4, none⟩] }

def b107_0 : VC :=
 (.seq
 (.seq
 (.region false [0, 1, 5, 9] [
 vo 6 (.mov (.t 5)),
 vo 7 (.mov (.t 0)),
 vo 8 (.len false 87 (.t 7)),
 vo 9 (.bin false .lss 3 (.t 6) (.t 8))])
 (.cond (.t 9)
 .skip
 (.exit 0)))
 (.seq
 (.block 1
 (.seq
 (.seq
 (.region false [0, 1, 5, 18] [
 vo 12 (.mov (.t 0)),
 vo 13 (.mov (.t 5)),
 vo 14 (.ia 87 173 7 (.t 12) (.t 13)),
 vo 15 (.fa 173 0 0 1 (.t 14)),
 vo 16 (.load 2 false 1 (.t 15)),
 vo 17 (.mov (.t 1)),
 vo 18 (.bin false .neq 2 (.t 16) (.t 17))])
 (.cond (.t 18)
 (.seq
 (.region false [4] [
 vo 4 (.asg (.c (.int .i64 (-1))))])
 .ret)
 .skip))
 (.seq
 (.region false [0, 1, 5] [
 vo 19 (.mov (.t 1)),
 vo 20 (.bin false .add 3 (.t 19) (.c (.int .i64 1))),
 vo 1 (.asg (.t 20))])
 (.seq
 (.seq
 (.region false [0, 1, 5, 27] [
 vo 21 (.mov (.t 0)),
 vo 22 (.mov (.t 5)),
 vo 23 (.ia 87 173 7 (.t 21) (.t 22)),
 vo 24 (.fa 173 1 1 1 (.t 23)),
 vo 25 (.load 2 false 1 (.t 24)),
 vo 26 (.mov (.t 1)),
 vo 27 (.bin false .neq 2 (.t 25) (.t 26))])
 (.cond (.t 27)
 (.seq
 (.region false [4] [
 vo 4 (.asg (.c (.int .i64 (-1))))])
 .ret)
 .skip))
 (.seq
 (.region false [0, 1, 5] [
 vo 28 (.mov (.t 1)),
 vo 29 (.bin false .add 3 (.t 28) (.c (.int .i64 1))),
 vo 1 (.asg (.t 29))])
 (.seq
 (.seq
 (.region true [0, 1, 5, 37] [
 vo 30 (.mov (.t 0)),
 ⟨some 31, .mov (.t 5), none, [0]⟩,
 vo 32 (.ia 87 173 7 (.t 30) (.t 31)),
 vo 33 (.fa 173 2 2 1 (.t 32)),
 vo 34 (.load 9 false 1 (.t 33)),
 ⟨some 35, .mov (.t 1), none, [0, 1, 2, 3, 4]⟩,
 ⟨some 36, .call 82 [(.t 35)], none, [0, 1, 2, 3, 4]⟩,
 vo 37 (.bin false .neq 9 (.t 34) (.t 36))])
 (.cond (.t 37)
 (.seq
 (.region false [4] [
 vo 4 (.asg (.c (.int .i64 (-1))))])
 .ret)
 .skip))
 (.seq
 (.region false [0, 1, 5] [
 vo 38 (.mov (.t 1)),
 vo 39 (.bin false .add 3 (.t 38) (.c (.int .i64 1))),
 vo 1 (.asg (.t 39))])
 (.seq
 (.seq
 (.region false [0, 1, 5, 46] [
 vo 40 (.mov (.t 0)),
 vo 41 (.mov (.t 5)),
 vo 42 (.ia 87 173 7 (.t 40) (.t 41)),
 vo 43 (.fa 173 3 3 1 (.t 42)),
 vo 44 (.load 2 false 1 (.t 43)),
 vo 45 (.mov (.t 1)),
 vo 46 (.bin false .neq 2 (.t 44) (.t 45))])
 (.cond (.t 46)
 (.seq
 (.region false [4] [
 vo 4 (.asg (.c (.int .i64 (-1))))])
 .ret)
 .skip))
 (.seq
 (.region false [0, 1, 5] [
 vo 47 (.mov (.t 1)),
 vo 48 (.bin false .add 3 (.t 47) (.c (.int .i64 1))),
 vo 1 (.asg (.t 48))])
 (.seq
 (.seq
 (.region false [0, 1, 5, 55] [
 vo 49 (.mov (.t 0)),
 vo 50 (.mov (.t 5)),
 vo 51 (.ia 87 173 7 (.t 49) (.t 50)),
 vo 52 (.fa 173 4 4 1 (.t 51)),
 vo 53 (.load 2 false 1 (.t 52)),
 vo 54 (.mov (.t 1)),
 vo 55 (.bin false .neq 2 (.t 53) (.t 54))])
 (.cond (.t 55)
 (.seq
 (.region false [4] [
 vo 4 (.asg (.c (.int .i64 (-1))))])
 .ret)
 .skip))
 (.seq
 (.region false [0, 1, 5] [
 vo 56 (.mov (.t 1)),
 vo 57 (.bin false .add 3 (.t 56) (.c (.int .i64 1))),
 vo 1 (.asg (.t 57))])
 (.seq
 (.seq
 (.region false [0, 1, 5, 64] [
 vo 58 (.mov (.t 0)),
 vo 59 (.mov (.t 5)),
 vo 60 (.ia 87 173 7 (.t 58) (.t 59)),
 vo 61 (.fa 173 5 5 1 (.t 60)),
 vo 62 (.load 2 false 1 (.t 61)),
 vo 63 (.mov (.t 1)),
 vo 64 (.bin false .neq 2 (.t 62) (.t 63))])
 (.cond (.t 64)
 (.seq
 (.region false [4] [
 vo 4 (.asg (.c (.int .i64 (-1))))])
 .ret)
 .skip))
 (.seq
 (.region false [0, 1, 5] [
 vo 65 (.mov (.t 1)),
 vo 66 (.bin false .add 3 (.t 65) (.c (.int .i64 1))),
 vo 1 (.asg (.t 66))])
 (.seq
 (.seq
 (.region false [0, 1, 5, 73] [
 vo 67 (.mov (.t 0)),
 vo 68 (.mov (.t 5)),
 vo 69 (.ia 87 173 7 (.t 67) (.t 68)),
 vo 70 (.fa 173 6 6 1 (.t 69)),
 vo 71 (.load 2 false 1 (.t 70)),
 vo 72 (.mov (.t 1)),
 vo 73 (.bin false .neq 2 (.t 71) (.t 72))])
 (.cond (.t 73)
 (.seq
 (.region false [4] [
 vo 4 (.asg (.c (.int .i64 (-1))))])
 .ret)
 .skip))
 (.region false [0, 1, 5] [
 vo 74 (.mov (.t 1)),
 vo 75 (.bin false .add 3 (.t 74) (.c (.int .i64 1))),
 vo 1 (.asg (.t 75))])))))))))))))))
 (.region false [0, 1, 5] [
 vo 10 (.mov (.t 5)),
 vo 11 (.bin false .add 3 (.t 10) (.c (.int .i64 1))),
 vo 5 (.asg (.t 11))])))
def l107_0 : VC := .loop b107_0
/-- loop.example/g00539/laws.heldActS -/
def v107 : VFun := {
 code :=
 (.seq
 (.region false [0, 1] [
 vo 4 (.asg (.c (.int .i64 0)))])
 (.seq
 (.seq
 (.region false [0, 1, 5] [
 vo 5 (.asg (.c (.int .i64 0)))])
 (.block 0
 l107_0))
 (.seq
 (.region false [4] [
 vo 76 (.mov (.t 1)),
 vo 4 (.asg (.t 76))])
 .ret)))
 modes := [.lend, .lend]
 rets := [⟨4, none⟩] }

/-- loop.example/g00539/laws.heldServer -/
def v108 : VFun := {
 code :=
 (.seq
 (.region false [1, 2] [
 vo 2 (.box 76 (.t 0)),
 vo 4 (.asg (.c (.int .i64 0)))])
 (.seq
 (.region false [1] [
 vo 5 (.fa 76 0 0 1 (.t 2)),
 vo 6 (.load 74 false 1 (.t 5)),
 vo 7 (.mov (.t 1)),
 vo 8 (.call 147 [(.t 6), (.t 7)]),
 vo 1 (.asg (.t 8))])
 (.seq
 (.seq
 (.region false [1, 10] [
 vo 9 (.mov (.t 1)),
 vo 10 (.bin false .lss 3 (.t 9) (.c (.int .i64 0)))])
 (.cond (.t 10)
 (.seq
 (.region false [4] [
 vo 4 (.asg (.c (.int .i64 (-1))))])
 .ret)
 .skip))
 (.seq
 (.region false [4] [
 vo 11 (.mov (.t 1)),
 vo 4 (.asg (.t 11))])
 .ret))))
 modes := [.lend, .lend]
 rets := [⟨4, none⟩] }

/-- loop.example/g00539/spec.l1In -/
def v113 : VFun := {
 code :=
 (.seq
 (.region false [0, 1, 2] [
 vo 6 (.asg (.c (.bool false)))])
 (.seq
 (.region false [6] [
 vo 7 (.mov (.t 0)),
 vo 8 (.mov (.t 1)),
 vo 9 (.bin false .geq 2 (.t 7) (.t 8)),
 vo 10 (.mov (.t 9)),
 ⟨some 11, .mov (.t 0), some (10, true), []⟩,
 ⟨some 12, .mov (.t 2), some (10, true), []⟩,
 ⟨some 13, .bin false .leq 2 (.t 11) (.t 12), some (10, true), []⟩,
 vo 14 (.pick (.t 10) (.t 13) (.c (.bool false))),
 vo 6 (.asg (.t 14))])
 .ret))
 modes := [.lend, .lend, .lend]
 rets := [⟨6, none⟩] }

def b114_0 : VC :=
 (.seq
 (.seq
 (.region false [0, 3, 7] [
 vo 4 (.mov (.t 3)),
 vo 5 (.mov (.t 0)),
 vo 6 (.len true 9 (.t 5)),
 vo 7 (.bin false .lss 3 (.t 4) (.t 6))])
 (.cond (.t 7)
 .skip
 (.exit 0)))
 (.seq
 (.block 1
 (.seq
 (.region false [0, 3, 14] [
 vo 10 (.mov (.t 0)),
 vo 11 (.mov (.t 3)),
 vo 12 (.idx 9 (.t 10) (.t 11)),
 vo 13 (.call 148 [(.t 12)]),
 vo 14 (.un .not (.t 13))])
 (.cond (.t 14)
 (.seq
 (.region false [2] [
 vo 2 (.asg (.c (.bool false)))])
 .ret)
 .skip)))
 (.region false [0, 3] [
 vo 8 (.mov (.t 3)),
 vo 9 (.bin false .add 3 (.t 8) (.c (.int .i64 1))),
 vo 3 (.asg (.t 9))])))
def l114_0 : VC := .loop b114_0
/-- loop.example/g00539/spec.l9Arg -/
def v114 : VFun := {
 code :=
 (.seq
 (.region false [0] [
 vo 2 (.asg (.c (.bool false)))])
 (.seq
 (.seq
 (.region false [0, 3] [
 vo 3 (.asg (.c (.int .i64 0)))])
 (.block 0
 l114_0))
 (.seq
 (.region false [2] [
 vo 15 (.mov (.t 0)),
 vo 16 (.len true 9 (.t 15)),
 vo 17 (.bin false .leq 3 (.t 16) (.c (.int .i64 12))),
 vo 2 (.asg (.t 17))])
 .ret)))
 modes := [.lend]
 rets := [⟨2, none⟩] }

/-- loop.example/g00539/laws.szSession -/
def v135 : VFun := {
 code :=
 (.seq
 (.region false [1, 2] [
 vo 2 (.box 163 (.t 0)),
 vo 4 (.asg (.c (.int .i64 0)))])
 (.seq
 (.region false [1, 2] [
 vo 5 (.mov (.t 1)),
 vo 6 (.fa 163 0 0 1 (.t 2)),
 vo 7 (.load 9 false 1 (.t 6)),
 vo 8 (.len true 9 (.t 7)),
 vo 9 (.bin false .sub 3 (.t 5) (.t 8)),
 vo 1 (.asg (.t 9))])
 (.seq
 (.seq
 (.region false [1, 2, 11] [
 vo 10 (.mov (.t 1)),
 vo 11 (.bin false .lss 3 (.t 10) (.c (.int .i64 0)))])
 (.cond (.t 11)
 (.seq
 (.region false [4] [
 vo 4 (.asg (.c (.int .i64 (-1))))])
 .ret)
 .skip))
 (.seq
 (.region false [1] [
 vo 12 (.mov (.t 1)),
 vo 13 (.fa 163 2 2 1 (.t 2)),
 vo 14 (.load 9 false 1 (.t 13)),
 vo 15 (.len true 9 (.t 14)),
 vo 16 (.bin false .sub 3 (.t 12) (.t 15)),
 vo 1 (.asg (.t 16))])
 (.seq
 (.seq
 (.region false [1, 18] [
 vo 17 (.mov (.t 1)),
 vo 18 (.bin false .lss 3 (.t 17) (.c (.int .i64 0)))])
 (.cond (.t 18)
 (.seq
 (.region false [4] [
 vo 4 (.asg (.c (.int .i64 (-1))))])
 .ret)
 .skip))
 (.seq
 (.region false [4] [
 vo 19 (.mov (.t 1)),
 vo 4 (.asg (.t 19))])
 .ret))))))
 modes := [.lend, .lend]
 rets := [⟨4, none⟩] }

def b136_0 : VC :=
 (.seq
 (.seq
 (.region false [0, 1, 5, 6, 55] [
 vo 53 (.mov (.t 6)),
 vo 54 (.mov (.t 1)),
 vo 55 (.bin false .lss 3 (.t 53) (.t 54))])
 (.cond (.t 55)
 .skip
 (.exit 0)))
 (.seq
 (.block 1
 (.seq
 (.region true [0, 1, 5, 6, 77] [
 vo 58 (.mov (.t 5)),
 vo 59 (.nilc (.t 58)),
 vo 60 (.fa 127 1 1 1 (.t 59)),
 vo 61 (.load 2 false 1 (.t 60)),
 vo 62 (.bin false .geq 2 (.t 61) (.c (.int .i64 0))),
 vo 63 (.mov (.t 62)),
 ⟨some 64, .mov (.t 0), some (63, true), []⟩,
 ⟨some 65, .nilc (.t 64), some (63, true), []⟩,
 ⟨some 66, .fa 76 0 0 1 (.t 65), some (63, true), []⟩,
 ⟨some 67, .load 74 false 1 (.t 66), some (63, true), []⟩,
 ⟨some 68, .mov (.t 6), some (63, true), [6, 7, 8, 9]⟩,
 ⟨some 69, .ia 74 127 4 (.t 67) (.t 68), some (63, true), []⟩,
 ⟨some 70, .fa 127 1 1 1 (.t 69), some (63, true), []⟩,
 ⟨some 71, .load 2 false 1 (.t 70), some (63, true), []⟩,
 ⟨some 72, .mov (.t 5), some (63, true), [6, 7, 8, 9, 10, 11, 12, 13]⟩,
 ⟨some 73, .nilc (.t 72), some (63, true), [6, 7, 8, 9, 10, 11, 12, 13]⟩,
 ⟨some 74, .fa 127 1 1 1 (.t 73), some (63, true), [6, 7, 8, 9, 10, 11, 12, 13]⟩,
 ⟨some 75, .load 2 false 1 (.t 74), some (63, true), [6, 7, 8, 9, 10, 11, 12, 13]⟩,
 ⟨some 76, .bin false .eql 2 (.t 71) (.t 75), some (63, true), []⟩,
 vo 77 (.pick (.t 63) (.t 76) (.c (.bool false)))])
 (.cond (.t 77)
 (.seq
 (.region false [4] [
 vo 4 (.asg (.c (.int .i64 6)))])
 .ret)
 .skip)))
 (.region false [0, 1, 5, 6] [
 vo 56 (.mov (.t 6)),
 vo 57 (.bin false .add 3 (.t 56) (.c (.int .i64 1))),
 vo 6 (.asg (.t 57))])))
def l136_0 : VC := .loop b136_0
/-- loop.example/g00539/spec.l10One -/
def v136 : VFun := {
 code :=
 (.seq
 (.region false [0, 1] [
 vo 4 (.asg (.c (.int .i64 0)))])
 (.seq
 (.region false [0, 1, 5] [
 vo 7 (.mov (.t 0)),
 vo 8 (.nilc (.t 7)),
 vo 9 (.fa 76 0 0 1 (.t 8)),
 vo 10 (.load 74 false 1 (.t 9)),
 vo 11 (.mov (.t 1)),
 vo 12 (.ia 74 127 4 (.t 10) (.t 11)),
 vo 5 (.asg (.t 12))])
 (.seq
 (.seq
 (.region false [0, 1, 5, 26] [
 vo 13 (.mov (.t 5)),
 vo 14 (.nilc (.t 13)),
 vo 15 (.fa 127 0 0 1 (.t 14)),
 vo 16 (.load 9 false 1 (.t 15)),
 vo 17 (.call 154 [(.t 16)]),
 vo 18 (.un .not (.t 17)),
 vo 19 (.mov (.t 18)),
 ⟨some 20, .mov (.t 5), some (19, false), []⟩,
 ⟨some 21, .nilc (.t 20), some (19, false), []⟩,
 ⟨some 22, .fa 127 2 2 1 (.t 21), some (19, false), []⟩,
 ⟨some 23, .load 9 false 1 (.t 22), some (19, false), []⟩,
 ⟨some 24, .call 114 [(.t 23)], some (19, false), []⟩,
 ⟨some 25, .un .not (.t 24), some (19, false), []⟩,
 vo 26 (.pick (.t 19) (.c (.bool true)) (.t 25))])
 (.cond (.t 26)
 (.seq
 (.region false [4] [
 vo 4 (.asg (.c (.int .i64 5)))])
 .ret)
 .skip))
 (.seq
 (.seq
 (.region false [0, 1, 5, 40] [
 vo 27 (.mov (.t 5)),
 vo 28 (.nilc (.t 27)),
 vo 29 (.fa 127 1 1 1 (.t 28)),
 vo 30 (.load 2 false 1 (.t 29)),
 vo 31 (.call 113 [(.t 30), (.c (.int .i64 (-1))), (.c (.int .i64 998))]),
 vo 32 (.un .not (.t 31)),
 vo 33 (.mov (.t 32)),
 ⟨some 34, .mov (.t 5), some (33, false), []⟩,
 ⟨some 35, .nilc (.t 34), some (33, false), []⟩,
 ⟨some 36, .fa 127 3 3 1 (.t 35), some (33, false), []⟩,
 ⟨some 37, .load 2 false 1 (.t 36), some (33, false), []⟩,
 ⟨some 38, .call 113 [(.t 37), (.c (.int .i64 1)), (.c (.int .i64 9999))], some (33, false), []⟩,
 ⟨some 39, .un .not (.t 38), some (33, false), []⟩,
 vo 40 (.pick (.t 33) (.c (.bool true)) (.t 39))])
 (.cond (.t 40)
 (.seq
 (.region false [4] [
 vo 4 (.asg (.c (.int .i64 3)))])
 .ret)
 .skip))
 (.seq
 (.seq
 (.region false [0, 1, 5, 52] [
 vo 41 (.mov (.t 5)),
 vo 42 (.nilc (.t 41)),
 vo 43 (.fa 127 2 2 1 (.t 42)),
 vo 44 (.load 9 false 1 (.t 43)),
 vo 45 (.bin false .neq 9 (.t 44) (.c (.string (⟨#[]⟩ : ByteArray)))),
 vo 46 (.mov (.t 45)),
 ⟨some 47, .mov (.t 5), some (46, true), []⟩,
 ⟨some 48, .nilc (.t 47), some (46, true), []⟩,
 ⟨some 49, .fa 127 1 1 1 (.t 48), some (46, true), []⟩,
 ⟨some 50, .load 2 false 1 (.t 49), some (46, true), []⟩,
 ⟨some 51, .bin false .lss 2 (.t 50) (.c (.int .i64 0)), some (46, true), []⟩,
 vo 52 (.pick (.t 46) (.t 51) (.c (.bool false)))])
 (.cond (.t 52)
 (.seq
 (.region false [4] [
 vo 4 (.asg (.c (.int .i64 1)))])
 .ret)
 .skip))
 (.seq
 (.seq
 (.region false [0, 1, 5, 6] [
 vo 6 (.asg (.c (.int .i64 0)))])
 (.block 0
 l136_0))
 (.seq
 (.region false [4] [
 vo 4 (.asg (.c (.int .i64 0)))])
 .ret)))))))
 modes := [.lend, .lend]
 rets := [⟨4, none⟩] }

/-- loop.example/g00539/laws.toSession -/
def v137 : VFun := {
 code :=
 (.seq
 (.region false [1, 2] [
 vo 1 (.box 163 (.t 0)),
 vo 2 (.alloc 127 [(.val (.string (⟨#[]⟩ : ByteArray))), (.val (.int .i64 0)), (.val (.string (⟨#[]⟩ : ByteArray))), (.val (.int .i64 0))])])
 (.seq
 (.region false [1, 2, 3] [
 vo 3 (.alloc 127 [(.val (.string (⟨#[]⟩ : ByteArray))), (.val (.int .i64 0)), (.val (.string (⟨#[]⟩ : ByteArray))), (.val (.int .i64 0))])])
 (.seq
 (.region false [1, 2, 3] [
 vo 4 (.fa 163 0 0 1 (.t 1)),
 vo 5 (.load 9 false 1 (.t 4)),
 vo 6 (.fa 127 0 0 1 (.t 3)),
 vn (.store 9 1 (.t 6) (.t 5))])
 (.seq
 (.region false [1, 2, 3] [
 vo 7 (.fa 163 1 1 1 (.t 1)),
 vo 8 (.load 2 false 1 (.t 7)),
 vo 9 (.fa 127 1 1 1 (.t 3)),
 vn (.store 2 1 (.t 9) (.t 8))])
 (.seq
 (.region false [1, 2, 3] [
 vo 10 (.fa 163 2 2 1 (.t 1)),
 vo 11 (.load 9 false 1 (.t 10)),
 vo 12 (.fa 127 2 2 1 (.t 3)),
 vn (.store 9 1 (.t 12) (.t 11))])
 (.seq
 (.region false [2, 3] [
 vo 13 (.fa 163 3 3 1 (.t 1)),
 vo 14 (.load 2 false 1 (.t 13)),
 vo 15 (.fa 127 3 3 1 (.t 3)),
 vn (.store 2 1 (.t 15) (.t 14))])
 (.seq
 (.region false [2] [
 vo 16 (.load 127 true 4 (.t 3)),
 vn (.store 127 4 (.t 2) (.t 16))])
 .ret)))))))
 modes := [.lend]
 rets := [⟨2, some (true, 4)⟩] }

/-- loop.example/g00539/impl.badArg -/
def v139 : VFun := {
 code :=
 (.seq
 (.region false [0] [
 vo 2 (.asg (.c (.bool false)))])
 (.seq
 (.region false [2] [
 vo 3 (.mov (.t 0)),
 vo 4 (.call 149 [(.t 3)]),
 vo 5 (.un .not (.t 4)),
 vo 2 (.asg (.t 5))])
 .ret))
 modes := [.lend]
 rets := [⟨2, none⟩] }

/-- loop.example/g00539/impl.isLevel -/
def v140 : VFun := {
 code :=
 (.seq
 (.region false [0] [
 vo 2 (.asg (.c (.bool false)))])
 (.seq
 (.region false [2] [
 vo 3 (.mov (.t 0)),
 vo 4 (.call 93 [(.t 3), (.c (.int .i64 1)), (.c (.int .i64 9999))]),
 vo 2 (.asg (.t 4))])
 .ret))
 modes := [.lend]
 rets := [⟨2, none⟩] }

/-- loop.example/g00539/impl.sessionFault$1 -/
def v141 : VFun := {
 code :=
 (.seq
 (.region false [1, 2] [
 vo 2 (.box 127 (.t 0)),
 vo 3 (.asg (.c (.bool false)))])
 (.seq
 (.region false [3] [
 vo 4 (.fa 127 1 1 1 (.t 1)),
 vo 5 (.load 2 false 1 (.t 4)),
 vo 6 (.fa 127 1 1 1 (.t 2)),
 vo 7 (.load 2 false 1 (.t 6)),
 vo 8 (.bin false .eql 2 (.t 5) (.t 7)),
 vo 3 (.asg (.t 8))])
 .ret))
 modes := [.lend, .lend]
 rets := [⟨3, none⟩] }

def b142_0 : VC :=
 (.seq
 (.region false [0, 1, 7, 8, 9] [
 vo 9 (.bin false .lss 3 (.t 8) (.t 7))])
 (.seq
 (.cond (.t 9)
 .skip
 (.exit 0))
 (.seq
 (.block 1
 (.seq
 (.region false [0, 1, 5, 7, 8] [
 vo 10 (.mov (.t 8)),
 vo 5 (.asg (.t 10))])
 (.seq
 (.region false [0, 1, 5, 7, 8, 16] [
 vo 11 (.mov (.t 1)),
 vo 12 (.mov (.t 0)),
 vo 13 (.mov (.t 5)),
 vo 14 (.ia 74 127 4 (.t 12) (.t 13)),
 vo 15 (.load 127 true 4 (.t 14)),
 vo 16 (.callv (.t 11) [(.t 15)])])
 (.cond (.t 16)
 (.seq
 (.region false [4] [
 vo 17 (.mov (.t 5)),
 vo 4 (.asg (.t 17))])
 .ret)
 .skip))))
 (.region false [0, 1, 7, 8] [
 vo 18 (.bin false .add 3 (.t 8) (.c (.int .i64 1))),
 vo 8 (.mov (.t 18))]))))
def l142_0 : VC := .loop b142_0
/-- slices.IndexFunc[[]loop.example/g00539/impl.Session,loop.example/g00539/impl.Session] -/
def v142 : VFun := {
 code :=
 (.seq
 (.region false [0, 1] [
 vo 4 (.asg (.c (.int .i64 0)))])
 (.seq
 (.seq
 (.region false [0, 1, 7, 8] [
 vo 6 (.mov (.t 0)),
 vo 7 (.len false 74 (.t 6)),
 vo 8 (.mov (.c (.int .i64 0)))])
 (.block 0
 l142_0))
 (.seq
 (.region false [4] [
 vo 4 (.asg (.c (.int .i64 (-1))))])
 .ret)))
 modes := [.lend, .lend]
 rets := [⟨4, none⟩] }

/-- loop.example/g00539/laws.eqSession -/
def v143 : VFun := {
 code :=
 (.seq
 (.region false [2, 3] [
 vo 2 (.box 127 (.t 0)),
 vo 3 (.box 127 (.t 1)),
 vo 4 (.asg (.c (.bool false)))])
 (.seq
 (.seq
 (.region false [2, 3, 9] [
 vo 5 (.fa 127 0 0 1 (.t 2)),
 vo 6 (.load 9 false 1 (.t 5)),
 vo 7 (.fa 127 0 0 1 (.t 3)),
 vo 8 (.load 9 false 1 (.t 7)),
 vo 9 (.bin false .neq 9 (.t 6) (.t 8))])
 (.cond (.t 9)
 (.seq
 (.region false [4] [
 vo 4 (.asg (.c (.bool false)))])
 .ret)
 .skip))
 (.seq
 (.seq
 (.region false [2, 3, 14] [
 vo 10 (.fa 127 1 1 1 (.t 2)),
 vo 11 (.load 2 false 1 (.t 10)),
 vo 12 (.fa 127 1 1 1 (.t 3)),
 vo 13 (.load 2 false 1 (.t 12)),
 vo 14 (.bin false .neq 2 (.t 11) (.t 13))])
 (.cond (.t 14)
 (.seq
 (.region false [4] [
 vo 4 (.asg (.c (.bool false)))])
 .ret)
 .skip))
 (.seq
 (.seq
 (.region false [2, 3, 19] [
 vo 15 (.fa 127 2 2 1 (.t 2)),
 vo 16 (.load 9 false 1 (.t 15)),
 vo 17 (.fa 127 2 2 1 (.t 3)),
 vo 18 (.load 9 false 1 (.t 17)),
 vo 19 (.bin false .neq 9 (.t 16) (.t 18))])
 (.cond (.t 19)
 (.seq
 (.region false [4] [
 vo 4 (.asg (.c (.bool false)))])
 .ret)
 .skip))
 (.seq
 (.seq
 (.region false [24] [
 vo 20 (.fa 127 3 3 1 (.t 2)),
 vo 21 (.load 2 false 1 (.t 20)),
 vo 22 (.fa 127 3 3 1 (.t 3)),
 vo 23 (.load 2 false 1 (.t 22)),
 vo 24 (.bin false .neq 2 (.t 21) (.t 23))])
 (.cond (.t 24)
 (.seq
 (.region false [4] [
 vo 4 (.asg (.c (.bool false)))])
 .ret)
 .skip))
 (.seq
 (.region false [4] [
 vo 4 (.asg (.c (.bool true)))])
 .ret))))))
 modes := [.lend, .lend]
 rets := [⟨4, none⟩] }

/-- loop.example/g00539/laws.eqAct -/
def v146 : VFun := {
 code :=
 (.seq
 (.region false [2, 3] [
 vo 2 (.box 173 (.t 0)),
 vo 3 (.box 173 (.t 1)),
 vo 4 (.asg (.c (.bool false)))])
 (.seq
 (.seq
 (.region false [2, 3, 9] [
 vo 5 (.fa 173 0 0 1 (.t 2)),
 vo 6 (.load 2 false 1 (.t 5)),
 vo 7 (.fa 173 0 0 1 (.t 3)),
 vo 8 (.load 2 false 1 (.t 7)),
 vo 9 (.bin false .neq 2 (.t 6) (.t 8))])
 (.cond (.t 9)
 (.seq
 (.region false [4] [
 vo 4 (.asg (.c (.bool false)))])
 .ret)
 .skip))
 (.seq
 (.seq
 (.region false [2, 3, 14] [
 vo 10 (.fa 173 1 1 1 (.t 2)),
 vo 11 (.load 2 false 1 (.t 10)),
 vo 12 (.fa 173 1 1 1 (.t 3)),
 vo 13 (.load 2 false 1 (.t 12)),
 vo 14 (.bin false .neq 2 (.t 11) (.t 13))])
 (.cond (.t 14)
 (.seq
 (.region false [4] [
 vo 4 (.asg (.c (.bool false)))])
 .ret)
 .skip))
 (.seq
 (.seq
 (.region false [2, 3, 19] [
 vo 15 (.fa 173 2 2 1 (.t 2)),
 vo 16 (.load 9 false 1 (.t 15)),
 vo 17 (.fa 173 2 2 1 (.t 3)),
 vo 18 (.load 9 false 1 (.t 17)),
 vo 19 (.bin false .neq 9 (.t 16) (.t 18))])
 (.cond (.t 19)
 (.seq
 (.region false [4] [
 vo 4 (.asg (.c (.bool false)))])
 .ret)
 .skip))
 (.seq
 (.seq
 (.region false [2, 3, 24] [
 vo 20 (.fa 173 3 3 1 (.t 2)),
 vo 21 (.load 2 false 1 (.t 20)),
 vo 22 (.fa 173 3 3 1 (.t 3)),
 vo 23 (.load 2 false 1 (.t 22)),
 vo 24 (.bin false .neq 2 (.t 21) (.t 23))])
 (.cond (.t 24)
 (.seq
 (.region false [4] [
 vo 4 (.asg (.c (.bool false)))])
 .ret)
 .skip))
 (.seq
 (.seq
 (.region false [2, 3, 29] [
 vo 25 (.fa 173 4 4 1 (.t 2)),
 vo 26 (.load 2 false 1 (.t 25)),
 vo 27 (.fa 173 4 4 1 (.t 3)),
 vo 28 (.load 2 false 1 (.t 27)),
 vo 29 (.bin false .neq 2 (.t 26) (.t 28))])
 (.cond (.t 29)
 (.seq
 (.region false [4] [
 vo 4 (.asg (.c (.bool false)))])
 .ret)
 .skip))
 (.seq
 (.seq
 (.region false [2, 3, 34] [
 vo 30 (.fa 173 5 5 1 (.t 2)),
 vo 31 (.load 2 false 1 (.t 30)),
 vo 32 (.fa 173 5 5 1 (.t 3)),
 vo 33 (.load 2 false 1 (.t 32)),
 vo 34 (.bin false .neq 2 (.t 31) (.t 33))])
 (.cond (.t 34)
 (.seq
 (.region false [4] [
 vo 4 (.asg (.c (.bool false)))])
 .ret)
 .skip))
 (.seq
 (.seq
 (.region false [39] [
 vo 35 (.fa 173 6 6 1 (.t 2)),
 vo 36 (.load 2 false 1 (.t 35)),
 vo 37 (.fa 173 6 6 1 (.t 3)),
 vo 38 (.load 2 false 1 (.t 37)),
 vo 39 (.bin false .neq 2 (.t 36) (.t 38))])
 (.cond (.t 39)
 (.seq
 (.region false [4] [
 vo 4 (.asg (.c (.bool false)))])
 .ret)
 .skip))
 (.seq
 (.region false [4] [
 vo 4 (.asg (.c (.bool true)))])
 .ret)))))))))
 modes := [.lend, .lend]
 rets := [⟨4, none⟩] }

def b147_0 : VC :=
 (.seq
 (.seq
 (.region false [0, 1, 5, 9] [
 vo 6 (.mov (.t 5)),
 vo 7 (.mov (.t 0)),
 vo 8 (.len false 74 (.t 7)),
 vo 9 (.bin false .lss 3 (.t 6) (.t 8))])
 (.cond (.t 9)
 .skip
 (.exit 0)))
 (.seq
 (.block 1
 (.seq
 (.seq
 (.region true [0, 1, 5, 19] [
 vo 12 (.mov (.t 0)),
 ⟨some 13, .mov (.t 5), none, [0]⟩,
 vo 14 (.ia 74 127 4 (.t 12) (.t 13)),
 vo 15 (.fa 127 0 0 1 (.t 14)),
 vo 16 (.load 9 false 1 (.t 15)),
 ⟨some 17, .mov (.t 1), none, [0, 1, 2, 3, 4]⟩,
 ⟨some 18, .call 82 [(.t 17)], none, [0, 1, 2, 3, 4]⟩,
 vo 19 (.bin false .neq 9 (.t 16) (.t 18))])
 (.cond (.t 19)
 (.seq
 (.region false [4] [
 vo 4 (.asg (.c (.int .i64 (-1))))])
 .ret)
 .skip))
 (.seq
 (.region false [0, 1, 5] [
 vo 20 (.mov (.t 1)),
 vo 21 (.bin false .add 3 (.t 20) (.c (.int .i64 1))),
 vo 1 (.asg (.t 21))])
 (.seq
 (.seq
 (.region false [0, 1, 5, 28] [
 vo 22 (.mov (.t 0)),
 vo 23 (.mov (.t 5)),
 vo 24 (.ia 74 127 4 (.t 22) (.t 23)),
 vo 25 (.fa 127 1 1 1 (.t 24)),
 vo 26 (.load 2 false 1 (.t 25)),
 vo 27 (.mov (.t 1)),
 vo 28 (.bin false .neq 2 (.t 26) (.t 27))])
 (.cond (.t 28)
 (.seq
 (.region false [4] [
 vo 4 (.asg (.c (.int .i64 (-1))))])
 .ret)
 .skip))
 (.seq
 (.region false [0, 1, 5] [
 vo 29 (.mov (.t 1)),
 vo 30 (.bin false .add 3 (.t 29) (.c (.int .i64 1))),
 vo 1 (.asg (.t 30))])
 (.seq
 (.seq
 (.region true [0, 1, 5, 38] [
 vo 31 (.mov (.t 0)),
 ⟨some 32, .mov (.t 5), none, [0]⟩,
 vo 33 (.ia 74 127 4 (.t 31) (.t 32)),
 vo 34 (.fa 127 2 2 1 (.t 33)),
 vo 35 (.load 9 false 1 (.t 34)),
 ⟨some 36, .mov (.t 1), none, [0, 1, 2, 3, 4]⟩,
 ⟨some 37, .call 82 [(.t 36)], none, [0, 1, 2, 3, 4]⟩,
 vo 38 (.bin false .neq 9 (.t 35) (.t 37))])
 (.cond (.t 38)
 (.seq
 (.region false [4] [
 vo 4 (.asg (.c (.int .i64 (-1))))])
 .ret)
 .skip))
 (.seq
 (.region false [0, 1, 5] [
 vo 39 (.mov (.t 1)),
 vo 40 (.bin false .add 3 (.t 39) (.c (.int .i64 1))),
 vo 1 (.asg (.t 40))])
 (.seq
 (.seq
 (.region false [0, 1, 5, 47] [
 vo 41 (.mov (.t 0)),
 vo 42 (.mov (.t 5)),
 vo 43 (.ia 74 127 4 (.t 41) (.t 42)),
 vo 44 (.fa 127 3 3 1 (.t 43)),
 vo 45 (.load 2 false 1 (.t 44)),
 vo 46 (.mov (.t 1)),
 vo 47 (.bin false .neq 2 (.t 45) (.t 46))])
 (.cond (.t 47)
 (.seq
 (.region false [4] [
 vo 4 (.asg (.c (.int .i64 (-1))))])
 .ret)
 .skip))
 (.region false [0, 1, 5] [
 vo 48 (.mov (.t 1)),
 vo 49 (.bin false .add 3 (.t 48) (.c (.int .i64 1))),
 vo 1 (.asg (.t 49))])))))))))
 (.region false [0, 1, 5] [
 vo 10 (.mov (.t 5)),
 vo 11 (.bin false .add 3 (.t 10) (.c (.int .i64 1))),
 vo 5 (.asg (.t 11))])))
def l147_0 : VC := .loop b147_0
/-- loop.example/g00539/laws.heldSessionS -/
def v147 : VFun := {
 code :=
 (.seq
 (.region false [0, 1] [
 vo 4 (.asg (.c (.int .i64 0)))])
 (.seq
 (.seq
 (.region false [0, 1, 5] [
 vo 5 (.asg (.c (.int .i64 0)))])
 (.block 0
 l147_0))
 (.seq
 (.region false [4] [
 vo 50 (.mov (.t 1)),
 vo 4 (.asg (.t 50))])
 .ret)))
 modes := [.lend, .lend]
 rets := [⟨4, none⟩] }

/-- loop.example/g00539/spec.l9Letter -/
def v148 : VFun := {
 code :=
 (.seq
 (.region false [0] [
 vo 2 (.asg (.c (.bool false)))])
 (.seq
 (.region false [2] [
 vo 3 (.mov (.t 0)),
 vo 4 (.bin false .geq 5 (.t 3) (.c (.int .u8 97))),
 vo 5 (.mov (.t 4)),
 ⟨some 6, .mov (.t 0), some (5, true), []⟩,
 ⟨some 7, .bin false .leq 5 (.t 6) (.c (.int .u8 122)), some (5, true), []⟩,
 vo 8 (.pick (.t 5) (.t 7) (.c (.bool false))),
 vo 9 (.mov (.t 8)),
 ⟨some 10, .mov (.t 0), some (9, false), []⟩,
 ⟨some 11, .bin false .geq 5 (.t 10) (.c (.int .u8 65)), some (9, false), []⟩,
 ⟨some 12, .mov (.t 11), some (9, false), []⟩,
 ⟨some 13, .mov (.t 0), some (12, true), []⟩,
 ⟨some 14, .bin false .leq 5 (.t 13) (.c (.int .u8 90)), some (12, true), []⟩,
 ⟨some 15, .pick (.t 12) (.t 14) (.c (.bool false)), some (9, false), []⟩,
 vo 16 (.pick (.t 9) (.c (.bool true)) (.t 15)),
 vo 17 (.mov (.t 16)),
 ⟨some 18, .mov (.t 0), some (17, false), []⟩,
 ⟨some 19, .bin false .geq 5 (.t 18) (.c (.int .u8 48)), some (17, false), []⟩,
 ⟨some 20, .mov (.t 19), some (17, false), []⟩,
 ⟨some 21, .mov (.t 0), some (20, true), []⟩,
 ⟨some 22, .bin false .leq 5 (.t 21) (.c (.int .u8 57)), some (20, true), []⟩,
 ⟨some 23, .pick (.t 20) (.t 22) (.c (.bool false)), some (17, false), []⟩,
 vo 24 (.pick (.t 17) (.c (.bool true)) (.t 23)),
 vo 2 (.asg (.t 24))])
 .ret))
 modes := [.lend]
 rets := [⟨2, none⟩] }

/-- loop.example/g00539/impl.argOk -/
def v149 : VFun := {
 code :=
 (.seq
 (.region false [0] [
 vo 2 (.asg (.c (.bool false)))])
 (.seq
 (.region false [2] [
 vo 3 (.mov (.t 0)),
 vo 4 (.len true 9 (.t 3)),
 vo 5 (.bin false .leq 3 (.t 4) (.c (.int .i64 12))),
 vo 6 (.mov (.t 5)),
 ⟨some 7, .mov (.t 0), some (6, true), []⟩,
 ⟨some 8, .call 156 [(.t 7), (.c (.string (⟨#[97, 98, 99, 100, 101, 102, 103, 104, 105, 106, 107, 108, 109, 110, 111, 112, 113, 114, 115, 116, 117, 118, 119, 120, 121, 122, 65, 66, 67, 68, 69, 70, 71, 72, 73, 74, 75, 76, 77, 78, 79, 80, 81, 82, 83, 84, 85, 86, 87, 88, 89, 90, 48, 49, 50, 51, 52, 53, 54, 55, 56, 57]⟩ : ByteArray)))], some (6, true), []⟩,
 ⟨some 9, .bin false .eql 9 (.t 8) (.c (.string (⟨#[]⟩ : ByteArray))), some (6, true), []⟩,
 vo 10 (.pick (.t 6) (.t 9) (.c (.bool false))),
 vo 2 (.asg (.t 10))])
 .ret))
 modes := [.lend]
 rets := [⟨2, none⟩] }

def b154_0 : VC :=
 (.seq
 (.seq
 (.region false [0, 3, 7] [
 vo 4 (.mov (.t 3)),
 vo 5 (.mov (.t 0)),
 vo 6 (.len true 9 (.t 5)),
 vo 7 (.bin false .lss 3 (.t 4) (.t 6))])
 (.cond (.t 7)
 .skip
 (.exit 0)))
 (.seq
 (.block 1
 (.seq
 (.region false [0, 3, 13] [
 vo 10 (.mov (.t 0)),
 vo 11 (.mov (.t 3)),
 vo 12 (.idx 9 (.t 10) (.t 11)),
 vo 13 (.bin false .eql 5 (.t 12) (.c (.int .u8 10)))])
 (.cond (.t 13)
 (.seq
 (.region false [2] [
 vo 2 (.asg (.c (.bool false)))])
 .ret)
 .skip)))
 (.region false [0, 3] [
 vo 8 (.mov (.t 3)),
 vo 9 (.bin false .add 3 (.t 8) (.c (.int .i64 1))),
 vo 3 (.asg (.t 9))])))
def l154_0 : VC := .loop b154_0
/-- loop.example/g00539/spec.l10Rest -/
def v154 : VFun := {
 code :=
 (.seq
 (.region false [0] [
 vo 2 (.asg (.c (.bool false)))])
 (.seq
 (.seq
 (.region false [0, 3] [
 vo 3 (.asg (.c (.int .i64 0)))])
 (.block 0
 l154_0))
 (.seq
 (.region false [2] [
 vo 14 (.mov (.t 0)),
 vo 15 (.len true 9 (.t 14)),
 vo 16 (.bin false .leq 3 (.t 15) (.c (.int .i64 161))),
 vo 2 (.asg (.t 16))])
 .ret)))
 modes := [.lend]
 rets := [⟨2, none⟩] }

def tab : List (Nat × VFun) := [(9, v9), (44, v44), (46, v46), (47, v47), (48, v48), (52, v52), (55, v55), (56, v56), (57, v57), (58, v58), (59, v59), (82, v82), (89, v89), (90, v90), (91, v91), (92, v92), (93, v93), (94, v94), (95, v95), (96, v96), (98, v98), (99, v99), (100, v100), (101, v101), (102, v102), (103, v103), (104, v104), (105, v105), (106, v106), (107, v107), (108, v108), (113, v113), (114, v114), (135, v135), (136, v136), (137, v137), (139, v139), (140, v140), (141, v141), (142, v142), (143, v143), (146, v146), (147, v147), (148, v148), (149, v149), (154, v154)]
def F (f : FuncId) : Option VFun := getA none (tab.map fun x => (x.1, some x.2)) f
theorem tab_ok : tab.all (fun x => matchFun Tryd.prog x.1 x.2) = true := by kernel_rfl
theorem F_mem {f : FuncId} {fn : VFun} : ∀ {l : List (Nat × VFun)}, getA none (l.map fun x => (x.1, some x.2)) f = some fn → (f, fn) ∈ l
  | [], h => by simp [getA] at h
  | (k, v) :: l, h => by
    simp only [List.map_cons, getA] at h
    split at h
    · rename_i e
      injection h with h
      subst e; subst h
      exact List.mem_cons_self ..
    · exact List.mem_cons_of_mem _ (F_mem h)
theorem F_ok (f : FuncId) (fn : VFun) (h : F f = some fn) : matchFun Tryd.prog f fn = true := List.all_eq_true.1 tab_ok _ (F_mem h)
end Go.Proofs.YtdnopbpdiineiaaDoor.OpenSession
