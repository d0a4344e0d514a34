/- V's text of the functions that this law reaches. -/
import Derived.Test.YtihjlmgakpgkeaaDoorVCode
import Derived.Test.YtihjlmgakpgkeaaDoorRows
import Derived.KernelRfl
namespace Go.Proofs.YtihjlmgakpgkeaaDoor.Pays
open Go Go.Proofs.YtihjlmgakpgkeaaDoor.V
set_option maxRecDepth 20000
def vo (d:Nat) (x:VOp):VO:=⟨some d,x,none,[]⟩
def vn (x:VOp):VO:=⟨none,x,none,[]⟩
def mv (d x:Nat):VO:=vo d (.mov (.t x))
def ld (d t x:Nat):VO:=vo d (.load t false 1 (.t x))
def sg (d x:Nat):VO:=vo d (.asg (.t x))
def og (d:Nat) (x:VOp) (g:Nat) (b:Bool):VO:=⟨some d,x,some (g,b),[]⟩
def ci (x:Int):VX:=.c (.int .i64 x)
def rg (k:List Nat) (o:List VO):VC:=.region false k o

/-- loop.example/g00539/laws.FnPays -/
def v3 : VFun := {
 code:=
 (.seq
 (rg [0] [
 vo 2 (.asg (.c (.bool false)))])
 (.seq
 (.seq
 (rg [0, 15] [
 mv 14 0,
 vo 15 (.call 6 [(.t 14)])])
 (.cond (.t 15)
 (.seq
 (rg [2] [
 vo 2 (.asg (.c (.bool true)))])
 .ret)
 .skip))
 (.seq
 (rg [0, 3, 4, 5] [
 mv 17 0,
 vo 18 (.call 7 [(.t 17)]),
 mv 16 18,
 vo 19 (.ext (.t 16) 0),
 vo 20 (.ext (.t 16) 1),
 vo 21 (.ext (.t 16) 2),
 vo 3 (.alloc 27 [(.val (.int .i64 0)),(.val (.int .i64 0)),(.nl 2),(.nl 5),(.nl 2),(.val (.int .i64 0)),(.val (.int .i64 0)),(.val (.int .i64 0))]),
 vn (.store 27 8 (.t 3) (.t 19)),
 sg 4 20,
 sg 5 21])
 (.seq
 (rg [0, 3, 4, 5, 6] [
 vo 22 (.load 27 true 8 (.t 3)),
 mv 23 4,
 mv 24 5,
 vo 25 (.call 8 [(.t 22),(.t 23),(.t 24)]),
 vo 6 (.alloc 31 [(.val (.int .i64 0)),(.val (.int .i64 0)),(.val (.int .i64 0)),(.val (.int .i64 0)),(.nl 2),(.nl 5),(.nl 2),(.val (.int .i64 0)),(.val (.int .i64 0)),(.val (.int .i64 0))]),
 vn (.store 31 10 (.t 6) (.t 25))])
 (.seq
 (rg [0, 3, 4, 5, 6, 7, 8] [
 mv 27 0,
 vo 28 (.call 9 [(.t 27)]),
 mv 26 28,
 vo 29 (.ext (.t 26) 0),
 vo 30 (.ext (.t 26) 1),
 vo 7 (.alloc 27 [(.val (.int .i64 0)),(.val (.int .i64 0)),(.nl 2),(.nl 5),(.nl 2),(.val (.int .i64 0)),(.val (.int .i64 0)),(.val (.int .i64 0))]),
 vo 8 (.alloc 34 [(.val (.string (⟨#[]⟩:ByteArray))),(.val (.int .i64 0))]),
 vn (.store 27 8 (.t 7) (.t 29)),
 vn (.store 34 2 (.t 8) (.t 30))])
 (.seq
 (rg [0, 3, 4, 5, 6, 7, 8, 9] [
 vo 31 (.load 27 true 8 (.t 7)),
 vo 32 (.load 34 true 2 (.t 8)),
 vo 33 (.call 10 [(.t 31),(.t 32)]),
 vo 9 (.alloc 31 [(.val (.int .i64 0)),(.val (.int .i64 0)),(.val (.int .i64 0)),(.val (.int .i64 0)),(.nl 2),(.nl 5),(.nl 2),(.val (.int .i64 0)),(.val (.int .i64 0)),(.val (.int .i64 0))]),
 vn (.store 31 10 (.t 9) (.t 33))])
 (.seq
 (rg [3, 4, 5, 6, 7, 8, 9, 10, 11] [
 mv 35 0,
 vo 36 (.call 11 [(.t 35)]),
 mv 34 36,
 vo 37 (.ext (.t 34) 0),
 vo 38 (.ext (.t 34) 1),
 vo 10 (.alloc 27 [(.val (.int .i64 0)),(.val (.int .i64 0)),(.nl 2),(.nl 5),(.nl 2),(.val (.int .i64 0)),(.val (.int .i64 0)),(.val (.int .i64 0))]),
 vn (.store 27 8 (.t 10) (.t 37)),
 sg 11 38])
 (.seq
 (.seq
 (.region true [3, 4, 5, 6, 107] [
 vo 39 (.fa 31 0 0 1 (.t 9)),
 ld 40 2 39,
 ⟨some 41,.load 27 true 8 (.t 7),none,[0,1]⟩,
 ⟨some 42,.load 34 true 2 (.t 8),none,[0,1,2]⟩,
 ⟨some 43,.call 12 [(.t 41),(.t 42)],none,[0,1]⟩,
 ⟨some 44,.fld 31 0 0 1 false (.t 43),none,[0,1]⟩,
 vo 45 (.bin false .neq 2 (.t 40) (.t 44)),
 mv 46 45,
 og 47 (.fa 31 0 0 1 (.t 9)) 46 false,
 og 48 (.load 2 false 1 (.t 47)) 46 false,
 og 49 (.bin false .eql 2 (.t 48) (ci 0)) 46 false,
 og 50 (.mov (.t 49)) 46 false,
 og 51 (.fa 31 2 2 8 (.t 9)) 50 true,
 og 52 (.load 27 true 8 (.t 51)) 50 true,
 og 53 (.call 13 [(.t 52)]) 50 true,
 og 54 (.bin false .neq 2 (.t 53) (ci 0)) 50 true,
 og 55 (.mov (.t 54)) 50 true,
 og 56 (.fa 31 2 2 8 (.t 9)) 55 false,
 og 57 (.load 27 true 8 (.t 56)) 55 false,
 og 58 (.call 14 [(.t 57)]) 55 false,
 ⟨some 59,.load 27 true 8 (.t 7),some (55,false),[17,18,19]⟩,
 og 60 (.call 14 [(.t 59)]) 55 false,
 og 61 (.bin false .neq 2 (.t 58) (.t 60)) 55 false,
 og 62 (.pick (.t 55) (.c (.bool true)) (.t 61)) 50 true,
 og 63 (.mov (.t 62)) 50 true,
 og 64 (.fa 31 2 2 8 (.t 9)) 63 false,
 og 65 (.fa 27 2 2 1 (.t 64)) 63 false,
 og 66 (.load 24 false 1 (.t 65)) 63 false,
 og 67 (.len false 24 (.t 66)) 63 false,
 og 68 (.bin false .eql 3 (.t 67) (ci 0)) 63 false,
 og 69 (.pick (.t 63) (.c (.bool true)) (.t 68)) 50 true,
 og 70 (.mov (.t 69)) 50 true,
 og 71 (.fa 31 2 2 8 (.t 9)) 70 false,
 og 72 (.fa 27 2 2 1 (.t 71)) 70 false,
 og 73 (.load 24 false 1 (.t 72)) 70 false,
 ⟨some 74,.fa 31 2 2 8 (.t 9),some (70,false),[32,33,34]⟩,
 ⟨some 75,.fa 27 2 2 1 (.t 74),some (70,false),[32,33,34]⟩,
 ⟨some 76,.load 24 false 1 (.t 75),some (70,false),[32,33,34]⟩,
 ⟨some 77,.len false 24 (.t 76),some (70,false),[32,33,34]⟩,
 ⟨some 78,.bin false .sub 3 (.t 77) (ci 1),some (70,false),[32,33,34]⟩,
 og 79 (.ia 24 34 2 (.t 73) (.t 78)) 70 false,
 og 80 (.load 34 true 2 (.t 79)) 70 false,
 ⟨some 81,.load 34 true 2 (.t 8),some (70,false),[32,33,34,35,36,37,38,39,40,41]⟩,
 og 82 (.eqs true 34 [2,1] (.t 80) (.t 81)) 70 false,
 og 83 (.pick (.t 70) (.c (.bool true)) (.t 82)) 50 true,
 og 84 (.pick (.t 50) (.t 83) (.c (.bool false))) 46 false,
 vo 85 (.pick (.t 46) (.c (.bool true)) (.t 84)),
 mv 86 85,
 og 87 (.load 27 true 8 (.t 10)) 86 false,
 ⟨some 88,.mov (.t 11),some (86,false),[48]⟩,
 og 89 (.call 15 [(.t 87),(.t 88)]) 86 false,
 og 90 (.fld 42 0 0 1 false (.t 89)) 86 false,
 ⟨some 91,.load 27 true 8 (.t 10),some (86,false),[48,49,50,51]⟩,
 ⟨some 92,.mov (.t 11),some (86,false),[48,49,50,51,52]⟩,
 ⟨some 93,.call 16 [(.t 91),(.t 92)],some (86,false),[51]⟩,
 ⟨some 94,.fld 42 0 0 1 false (.t 93),some (86,false),[51]⟩,
 og 95 (.bin false .neq 2 (.t 90) (.t 94)) 86 false,
 vo 96 (.pick (.t 86) (.c (.bool true)) (.t 95)),
 mv 97 96,
 og 98 (.load 27 true 8 (.t 10)) 97 false,
 ⟨some 99,.mov (.t 11),some (97,false),[59]⟩,
 og 100 (.call 15 [(.t 98),(.t 99)]) 97 false,
 og 101 (.fld 42 1 1 1 false (.t 100)) 97 false,
 ⟨some 102,.load 27 true 8 (.t 10),some (97,false),[59,60,61,62]⟩,
 ⟨some 103,.mov (.t 11),some (97,false),[59,60,61,62,63]⟩,
 ⟨some 104,.call 16 [(.t 102),(.t 103)],some (97,false),[62]⟩,
 ⟨some 105,.fld 42 1 1 1 false (.t 104),some (97,false),[62]⟩,
 og 106 (.bin false .neq 2 (.t 101) (.t 105)) 97 false,
 vo 107 (.pick (.t 97) (.c (.bool true)) (.t 106))])
 (.cond (.t 107)
 (.seq
 (rg [2] [
 vo 2 (.asg (.c (.bool false)))])
 .ret)
 .skip))
 (.seq
 (.seq
 (rg [3, 4, 5, 6, 110] [
 vo 108 (.fa 31 0 0 1 (.t 6)),
 ld 109 2 108,
 vo 110 (.bin false .neq 2 (.t 109) (ci 0))])
 (.cond (.t 110)
 (.seq
 (.region true [2] [
 vo 111 (.load 27 true 8 (.t 3)),
 ⟨some 112,.mov (.t 4),none,[0]⟩,
 ⟨some 113,.mov (.t 5),none,[0,1]⟩,
 vo 114 (.call 17 [(.t 111),(.t 112),(.t 113)]),
 vo 115 (.fld 31 0 0 1 false (.t 114)),
 ⟨some 116,.fa 31 0 0 1 (.t 6),none,[0,1,2,3,4]⟩,
 ⟨some 117,.load 2 false 1 (.t 116),none,[0,1,2,3,4]⟩,
 vo 118 (.bin false .eql 2 (.t 115) (.t 117)),
 sg 2 118])
 .ret)
 .skip))
 (.seq
 (rg [3, 4, 5, 6, 12] [
 vo 119 (.load 27 true 8 (.t 3)),
 mv 120 4,
 vo 121 (.call 15 [(.t 119),(.t 120)]),
 vo 12 (.alloc 42 [(.val (.int .i64 0)),(.val (.int .i64 0))]),
 vn (.store 42 2 (.t 12) (.t 121))])
 (.seq
 (rg [3, 5, 6, 12, 13] [
 vo 122 (.fa 31 2 2 8 (.t 6)),
 vo 123 (.load 27 true 8 (.t 122)),
 mv 124 4,
 vo 125 (.call 15 [(.t 123),(.t 124)]),
 vo 13 (.alloc 42 [(.val (.int .i64 0)),(.val (.int .i64 0))]),
 vn (.store 42 2 (.t 13) (.t 125))])
 (.seq
 (.region true [2] [
 vo 126 (.fa 31 2 2 8 (.t 6)),
 vo 127 (.load 27 true 8 (.t 126)),
 vo 128 (.call 13 [(.t 127)]),
 vo 129 (.bin false .eql 2 (.t 128) (ci 0)),
 mv 130 129,
 og 131 (.mov (.t 5)) 130 true,
 og 132 (.bin false .geq 2 (.t 131) (ci 1)) 130 true,
 vo 133 (.pick (.t 130) (.t 132) (.c (.bool false))),
 mv 134 133,
 og 135 (.mov (.t 5)) 134 true,
 ⟨some 136,.fa 42 1 1 1 (.t 12),some (134,true),[9]⟩,
 ⟨some 137,.load 2 false 1 (.t 136),some (134,true),[9]⟩,
 og 138 (.bin false .leq 2 (.t 135) (.t 137)) 134 true,
 vo 139 (.pick (.t 134) (.t 138) (.c (.bool false))),
 mv 140 139,
 og 141 (.fa 42 1 1 1 (.t 13)) 140 true,
 og 142 (.load 2 false 1 (.t 141)) 140 true,
 ⟨some 143,.fa 42 1 1 1 (.t 12),some (140,true),[15,16]⟩,
 ⟨some 144,.load 2 false 1 (.t 143),some (140,true),[15,16]⟩,
 ⟨some 145,.mov (.t 5),some (140,true),[15,16,17,18]⟩,
 ⟨some 146,.bin false .sub 2 (.t 144) (.t 145),some (140,true),[15,16]⟩,
 og 147 (.bin false .eql 2 (.t 142) (.t 146)) 140 true,
 vo 148 (.pick (.t 140) (.t 147) (.c (.bool false))),
 mv 149 148,
 og 150 (.fa 31 2 2 8 (.t 6)) 149 true,
 og 151 (.fa 27 5 5 1 (.t 150)) 149 true,
 og 152 (.load 2 false 1 (.t 151)) 149 true,
 ⟨some 153,.fa 27 5 5 1 (.t 3),some (149,true),[24,25,26]⟩,
 ⟨some 154,.load 2 false 1 (.t 153),some (149,true),[24,25,26]⟩,
 ⟨some 155,.mov (.t 5),some (149,true),[24,25,26,27,28]⟩,
 ⟨some 156,.bin false .add 2 (.t 154) (.t 155),some (149,true),[24,25,26]⟩,
 og 157 (.bin false .eql 2 (.t 152) (.t 156)) 149 true,
 vo 158 (.pick (.t 149) (.t 157) (.c (.bool false))),
 mv 159 158,
 og 160 (.fa 31 2 2 8 (.t 6)) 159 true,
 og 161 (.load 27 true 8 (.t 160)) 159 true,
 og 162 (.call 14 [(.t 161)]) 159 true,
 ⟨some 163,.load 27 true 8 (.t 3),some (159,true),[34,35,36]⟩,
 og 164 (.call 14 [(.t 163)]) 159 true,
 ⟨some 165,.mov (.t 5),some (159,true),[34,35,36,37,38]⟩,
 og 166 (.bin false .sub 2 (.t 164) (.t 165)) 159 true,
 og 167 (.bin false .eql 2 (.t 162) (.t 166)) 159 true,
 vo 168 (.pick (.t 159) (.t 167) (.c (.bool false))),
 mv 169 168,
 og 170 (.fa 31 2 2 8 (.t 6)) 169 true,
 og 171 (.fa 27 6 6 1 (.t 170)) 169 true,
 og 172 (.load 2 false 1 (.t 171)) 169 true,
 ⟨some 173,.fa 27 6 6 1 (.t 3),some (169,true),[44,45,46]⟩,
 ⟨some 174,.load 2 false 1 (.t 173),some (169,true),[44,45,46]⟩,
 og 175 (.bin false .eql 2 (.t 172) (.t 174)) 169 true,
 vo 176 (.pick (.t 169) (.t 175) (.c (.bool false))),
 sg 2 176])
 .ret))))))))))))
 modes:=[.lend]
 rets:=[⟨2,none⟩]}

/-- loop.example/g00539/laws.lwBig -/
def v6 : VFun := {
 code:=
 (.seq
 (rg [0] [
 vo 2 (.asg (.c (.bool false)))])
 (.seq
 (rg [2] [
 mv 3 0,
 vo 4 (.len false 22 (.t 3)),
 vo 5 (.bin false .gtr 3 (.t 4) (ci 1048576)),
 sg 2 5])
 .ret))
 modes:=[.lend]
 rets:=[⟨2,none⟩]}

/-- loop.example/g00539/spec.DrawPayWorker -/
def v7 : VFun := {
 code:=
 (.seq
 (rg [0, 2] [
 vo 2 (.alloc 27 [(.val (.int .i64 0)),(.val (.int .i64 0)),(.nl 2),(.nl 5),(.nl 2),(.val (.int .i64 0)),(.val (.int .i64 0)),(.val (.int .i64 0))]),
 vo 3 (.asg (.c (.string (⟨#[]⟩:ByteArray)))),
 vo 4 (.asg (ci 0))])
 (.seq
 (rg [2, 5, 7] [
 mv 6 0,
 vo 7 (.call 38 [(.t 6)]),
 sg 5 7])
 (.seq
 (rg [2, 3, 4] [
 mv 8 5,
 vo 9 (.call 39 [(.t 8)]),
 mv 10 5,
 vo 11 (.call 40 [(.t 10)]),
 mv 12 5,
 vo 13 (.lit 132 2 1 4 [(.val (.int .i64 0))] [(0,(ci 1)),(1,(ci 5)),(2,(ci 0)),(3,(ci 1000000))]),
 vo 14 (.call 41 [(.t 12),(.t 13)]),
 vn (.store 27 8 (.t 2) (.t 9)),
 sg 3 11,
 sg 4 14])
 .ret)))
 modes:=[.lend]
 rets:=[⟨2,some (true,8)⟩,⟨3,none⟩,⟨4,none⟩]}

/-- loop.example/g00539/impl.PayWorker -/
def v8 : VFun := {
 code:=
 (.seq
 (rg [3, 4, 5, 6] [
 vo 3 (.box 27 (.t 0)),
 vo 4 (.box 9 (.t 1)),
 vo 5 (.box 2 (.t 2)),
 vo 6 (.alloc 31 [(.val (.int .i64 0)),(.val (.int .i64 0)),(.val (.int .i64 0)),(.val (.int .i64 0)),(.nl 2),(.nl 5),(.nl 2),(.val (.int .i64 0)),(.val (.int .i64 0)),(.val (.int .i64 0))])])
 (.seq
 (rg [6] [
 vo 7 (.load 27 true 8 (.t 3)),
 vo 8 (.fn 43 [] [(.t 4),(.t 5)]),
 vo 9 (.call 42 [(.t 7),(.t 8)]),
 vn (.store 31 10 (.t 6) (.t 9))])
 .ret))
 modes:=[.lend,.lend,.lend]
 rets:=[⟨6,some (true,10)⟩]}

/-- loop.example/g00539/spec.DrawCreditShare -/
def v9 : VFun := {
 code:=
 (.seq
 (rg [0, 2, 3] [
 vo 2 (.alloc 27 [(.val (.int .i64 0)),(.val (.int .i64 0)),(.nl 2),(.nl 5),(.nl 2),(.val (.int .i64 0)),(.val (.int .i64 0)),(.val (.int .i64 0))]),
 vo 3 (.alloc 34 [(.val (.string (⟨#[]⟩:ByteArray))),(.val (.int .i64 0))])])
 (.seq
 (rg [2, 3, 4, 6] [
 mv 5 0,
 vo 6 (.call 38 [(.t 5)]),
 sg 4 6])
 (.seq
 (.region true [2, 3] [
 mv 7 4,
 vo 8 (.call 39 [(.t 7)]),
 ⟨some 9,.lit 87 9 1 3 [(.val (.string (⟨#[]⟩:ByteArray)))] [(0,(.c (.string (⟨#[98,111,98]⟩:ByteArray)))),(1,(.c (.string (⟨#[97,110,110]⟩:ByteArray)))),(2,(.c (.string (⟨#[]⟩:ByteArray))))],none,[0,1]⟩,
 ⟨some 10,.mov (.t 4),none,[0,1,2]⟩,
 ⟨some 11,.call 48 [(.t 10),(ci 3)],none,[2]⟩,
 vo 12 (.ia 87 9 1 (.t 9) (.t 11)),
 ld 13 9 12,
 ⟨some 14,.mov (.t 4),none,[0,1,2,3,4,5,6]⟩,
 ⟨some 15,.lit 132 2 1 3 [(.val (.int .i64 0))] [(0,(ci 1)),(1,(ci 5)),(2,(ci 0))],none,[0,1,2,3,4,5,6,7]⟩,
 ⟨some 16,.call 41 [(.t 14),(.t 15)],none,[2,5,6]⟩,
 vo 17 (.build 34 [(.val (.string (⟨#[]⟩:ByteArray))),(.val (.int .i64 0))] [(0,0,1,(.t 13)),(1,1,1,(.t 16))]),
 ⟨none,.store 27 8 (.t 2) (.t 8),none,[2,5,6,10]⟩,
 vn (.store 34 2 (.t 3) (.t 17))])
 .ret)))
 modes:=[.lend]
 rets:=[⟨2,some (true,8)⟩,⟨3,some (true,2)⟩]}

/-- loop.example/g00539/impl.CreditShare -/
def v10 : VFun := {
 code:=
 (.seq
 (rg [2, 3, 4] [
 vo 2 (.box 27 (.t 0)),
 vo 3 (.box 34 (.t 1)),
 vo 4 (.alloc 31 [(.val (.int .i64 0)),(.val (.int .i64 0)),(.val (.int .i64 0)),(.val (.int .i64 0)),(.nl 2),(.nl 5),(.nl 2),(.val (.int .i64 0)),(.val (.int .i64 0)),(.val (.int .i64 0))])])
 (.seq
 (rg [4] [
 vo 5 (.load 27 true 8 (.t 2)),
 vo 6 (.fn 49 [] [(.t 3)]),
 vo 7 (.call 42 [(.t 5),(.t 6)]),
 vn (.store 31 10 (.t 4) (.t 7))])
 .ret))
 modes:=[.lend,.lend]
 rets:=[⟨4,some (true,10)⟩]}

/-- loop.example/g00539/spec.DrawDueOf -/
def v11 : VFun := {
 code:=
 (.seq
 (rg [0, 2] [
 vo 2 (.alloc 27 [(.val (.int .i64 0)),(.val (.int .i64 0)),(.nl 2),(.nl 5),(.nl 2),(.val (.int .i64 0)),(.val (.int .i64 0)),(.val (.int .i64 0))]),
 vo 3 (.asg (.c (.string (⟨#[]⟩:ByteArray))))])
 (.seq
 (rg [2, 4, 6] [
 mv 5 0,
 vo 6 (.call 38 [(.t 5)]),
 sg 4 6])
 (.seq
 (rg [2, 3] [
 mv 7 4,
 vo 8 (.call 39 [(.t 7)]),
 mv 9 4,
 vo 10 (.call 40 [(.t 9)]),
 vn (.store 27 8 (.t 2) (.t 8)),
 sg 3 10])
 .ret)))
 modes:=[.lend]
 rets:=[⟨2,some (true,8)⟩,⟨3,none⟩]}

/-- loop.example/g00539/spec.CreditShare -/
def v12 : VFun := {
 code:=
 (.seq
 (rg [2, 3, 4] [
 vo 2 (.box 27 (.t 0)),
 vo 3 (.box 34 (.t 1)),
 vo 4 (.alloc 31 [(.val (.int .i64 0)),(.val (.int .i64 0)),(.val (.int .i64 0)),(.val (.int .i64 0)),(.nl 2),(.nl 5),(.nl 2),(.val (.int .i64 0)),(.val (.int .i64 0)),(.val (.int .i64 0))])])
 (.seq
 (.seq
 (rg [2, 3, 4, 5] [
 vo 6 (.call 51 [(.t 2)]),
 sg 5 6])
 (.seq
 (rg [2, 3, 4, 5, 8] [
 mv 7 5,
 vo 8 (.bin false .neq 2 (.t 7) (ci 0))])
 (.cond (.t 8)
 (.seq
 (rg [4] [
 mv 9 5,
 vo 10 (.call 52 [(.t 9)]),
 vn (.store 31 10 (.t 4) (.t 10))])
 .ret)
 .skip)))
 (.seq
 (rg [4] [
 vo 11 (.load 27 true 8 (.t 2)),
 vo 12 (.load 34 true 2 (.t 3)),
 vo 13 (.call 53 [(.t 11),(.t 12)]),
 vn (.store 31 10 (.t 4) (.t 13))])
 .ret)))
 modes:=[.lend,.lend]
 rets:=[⟨4,some (true,10)⟩]}

def b13_0:VC:=
 (.seq
 (rg [1, 56, 57, 58, 59] [
 vo 59 (.bin false .lss 3 (.t 58) (.t 57))])
 (.seq
 (.cond (.t 59)
 .skip
 (.exit 0))
 (.seq
 (.block 1
 (.seq
 (rg [1, 4, 5, 56, 57, 58] [
 mv 60 58,
 vo 61 (.ia 25 96 5 (.t 56) (.t 58)),
 vo 62 (.load 96 true 5 (.t 61)),
 vo 5 (.alloc 96 [(.val (.int .i64 0)),(.val (.int .i64 0)),(.val (.int .i64 0)),(.nl 2),(.val (.int .i64 0))]),
 sg 4 60,
 vn (.store 96 5 (.t 5) (.t 62))])
 (.seq
 (.region true [1, 6, 56, 57, 58] [
 vo 63 (.load 96 true 5 (.t 5)),
 ⟨some 64,.fa 27 3 3 1 (.t 1),none,[0]⟩,
 ⟨some 65,.load 25 false 1 (.t 64),none,[0]⟩,
 ⟨some 66,.mov (.t 4),none,[0,1,2]⟩,
 ⟨some 67,.cut 25 (some 96) 5 (.t 65) none (some (.t 66)),none,[0]⟩,
 vo 68 (.call 56 [(.t 63),(.t 67)]),
 sg 6 68])
 (.seq
 (rg [1, 6, 56, 57, 58, 70] [
 mv 69 6,
 vo 70 (.bin false .neq 2 (.t 69) (ci 0))])
 (.cond (.t 70)
 (.seq
 (rg [2] [
 mv 71 6,
 sg 2 71])
 .ret)
 .skip)))))
 (rg [1, 56, 57, 58] [
 vo 72 (.bin false .add 3 (.t 58) (ci 1)),
 mv 58 72]))))
def l13_0:VC:=.loop b13_0
/-- loop.example/g00539/impl.LedgerFault -/
def v13 : VFun := {
 code:=
 (.seq
 (rg [1] [
 vo 1 (.box 27 (.t 0)),
 vo 2 (.asg (ci 0))])
 (.seq
 (.seq
 (rg [1, 30] [
 vo 7 (.fa 27 0 0 1 (.t 1)),
 ld 8 2 7,
 vo 9 (.fa 27 1 1 1 (.t 1)),
 ld 10 2 9,
 vo 11 (.call 54 [(.t 8),(.t 10)]),
 vo 12 (.un .not (.t 11)),
 mv 13 12,
 og 14 (.fa 27 5 5 1 (.t 1)) 13 false,
 og 15 (.load 2 false 1 (.t 14)) 13 false,
 og 16 (.call 46 [(.t 15)]) 13 false,
 og 17 (.un .not (.t 16)) 13 false,
 vo 18 (.pick (.t 13) (.c (.bool true)) (.t 17)),
 mv 19 18,
 og 20 (.fa 27 6 6 1 (.t 1)) 19 false,
 og 21 (.load 2 false 1 (.t 20)) 19 false,
 og 22 (.call 46 [(.t 21)]) 19 false,
 og 23 (.un .not (.t 22)) 19 false,
 vo 24 (.pick (.t 19) (.c (.bool true)) (.t 23)),
 mv 25 24,
 og 26 (.fa 27 7 7 1 (.t 1)) 25 false,
 og 27 (.load 2 false 1 (.t 26)) 25 false,
 og 28 (.call 46 [(.t 27)]) 25 false,
 og 29 (.un .not (.t 28)) 25 false,
 vo 30 (.pick (.t 25) (.c (.bool true)) (.t 29))])
 (.cond (.t 30)
 (.seq
 (rg [2] [
 vo 2 (.asg (ci 3))])
 .ret)
 .skip))
 (.seq
 (.seq
 (rg [1, 3] [
 vo 31 (.fa 27 2 2 1 (.t 1)),
 ld 32 24 31,
 vo 33 (.call 55 [(.t 32)]),
 sg 3 33])
 (.seq
 (rg [1, 3, 35] [
 mv 34 3,
 vo 35 (.bin false .neq 2 (.t 34) (ci 0))])
 (.cond (.t 35)
 (.seq
 (rg [2] [
 mv 36 3,
 sg 2 36])
 .ret)
 .skip)))
 (.seq
 (.seq
 (rg [1, 54] [
 vo 37 (.fa 27 2 2 1 (.t 1)),
 ld 38 24 37,
 vo 39 (.len false 24 (.t 38)),
 vo 40 (.fa 27 0 0 1 (.t 1)),
 ld 41 2 40,
 vo 42 (.bin false .gtr 2 (.t 39) (.t 41)),
 mv 43 42,
 og 44 (.fa 27 3 3 1 (.t 1)) 43 false,
 og 45 (.load 25 false 1 (.t 44)) 43 false,
 og 46 (.len false 25 (.t 45)) 43 false,
 og 47 (.bin false .gtr 3 (.t 46) (ci 6)) 43 false,
 vo 48 (.pick (.t 43) (.c (.bool true)) (.t 47)),
 mv 49 48,
 og 50 (.fa 27 4 4 1 (.t 1)) 49 false,
 og 51 (.load 24 false 1 (.t 50)) 49 false,
 og 52 (.len false 24 (.t 51)) 49 false,
 og 53 (.bin false .gtr 3 (.t 52) (ci 8)) 49 false,
 vo 54 (.pick (.t 49) (.c (.bool true)) (.t 53))])
 (.cond (.t 54)
 (.seq
 (rg [2] [
 vo 2 (.asg (ci 2))])
 .ret)
 .skip))
 (.seq
 (.seq
 (rg [1, 56, 57, 58] [
 vo 55 (.fa 27 3 3 1 (.t 1)),
 ld 56 25 55,
 vo 57 (.len false 25 (.t 56)),
 vo 58 (.mov (ci 0))])
 (.block 0
 l13_0))
 (.seq
 (.block 2
 (.seq
 (rg [1, 73] [
 vo 74 (.fa 27 4 4 1 (.t 1)),
 ld 75 24 74,
 vo 76 (.call 57 [(.t 75),(ci 8)]),
 vo 77 (.un .not (.t 76)),
 sg 73 77])
 (.cond (.t 73)
 (.seq
 (rg [2] [
 vo 2 (.asg (ci 1))])
 .ret)
 (.seq
 (.region true [78] [
 vo 79 (.fa 27 4 4 1 (.t 1)),
 ld 80 24 79,
 vo 81 (.call 58 [(.t 80)]),
 ⟨some 82,.fa 27 6 6 1 (.t 1),none,[0,1,2]⟩,
 ⟨some 83,.load 2 false 1 (.t 82),none,[0,1,2]⟩,
 vo 84 (.bin false .add 2 (.t 81) (.t 83)),
 ⟨some 85,.fa 27 5 5 1 (.t 1),none,[0,1,2,3,4,5]⟩,
 ⟨some 86,.load 2 false 1 (.t 85),none,[0,1,2,3,4,5]⟩,
 vo 87 (.bin false .add 2 (.t 84) (.t 86)),
 ⟨some 88,.fa 27 3 3 1 (.t 1),none,[0,1,2,3,4,5,6,7,8]⟩,
 ⟨some 89,.load 25 false 1 (.t 88),none,[0,1,2,3,4,5,6,7,8]⟩,
 ⟨some 90,.call 59 [(.t 89),(ci 2)],none,[3,4,5,6,7,8]⟩,
 ⟨some 91,.fa 27 7 7 1 (.t 1),none,[0,1,2,3,4,5,6,7,8,9,10,11]⟩,
 ⟨some 92,.load 2 false 1 (.t 91),none,[0,1,2,3,4,5,6,7,8,9,10,11]⟩,
 ⟨some 93,.bin false .add 2 (.t 90) (.t 92),none,[3,4,5,6,7,8]⟩,
 vo 94 (.bin false .neq 2 (.t 87) (.t 93)),
 mv 95 94,
 og 96 (.fa 27 3 3 1 (.t 1)) 95 false,
 og 97 (.load 25 false 1 (.t 96)) 95 false,
 og 98 (.call 59 [(.t 97),(ci 0)]) 95 false,
 og 99 (.call 46 [(.t 98)]) 95 false,
 og 100 (.un .not (.t 99)) 95 false,
 vo 101 (.pick (.t 95) (.c (.bool true)) (.t 100)),
 sg 78 101])
 (.cond (.t 78)
 (.seq
 (rg [2] [
 vo 2 (.asg (ci 7))])
 .ret)
 .skip)))))
 (.seq
 (rg [2] [
 vo 2 (.asg (ci 0))])
 .ret)))))))
 modes:=[.lend]
 rets:=[⟨2,none⟩]}

def b14_0:VC:=
 (.seq
 (.seq
 (rg [1, 3, 4, 9] [
 mv 5 4,
 vo 6 (.fa 27 4 4 1 (.t 1)),
 ld 7 24 6,
 vo 8 (.len false 24 (.t 7)),
 vo 9 (.bin false .lss 3 (.t 5) (.t 8))])
 (.cond (.t 9)
 .skip
 (.exit 0)))
 (.seq
 (.block 1
 (rg [1, 3, 4] [
 mv 12 3,
 vo 13 (.fa 27 4 4 1 (.t 1)),
 ld 14 24 13,
 mv 15 4,
 vo 16 (.ia 24 34 2 (.t 14) (.t 15)),
 vo 17 (.fa 34 1 1 1 (.t 16)),
 ld 18 2 17,
 vo 19 (.bin false .add 2 (.t 12) (.t 18)),
 sg 3 19]))
 (rg [1, 3, 4] [
 mv 10 4,
 vo 11 (.bin false .add 3 (.t 10) (ci 1)),
 sg 4 11])))
def l14_0:VC:=.loop b14_0
/-- loop.example/g00539/laws.lwDues -/
def v14 : VFun := {
 code:=
 (.seq
 (rg [1] [
 vo 1 (.box 27 (.t 0)),
 vo 2 (.asg (ci 0))])
 (.seq
 (rg [1, 3] [
 vo 3 (.asg (ci 0))])
 (.seq
 (.seq
 (rg [1, 3, 4] [
 vo 4 (.asg (ci 0))])
 (.block 0
 l14_0))
 (.seq
 (rg [2] [
 mv 20 3,
 sg 2 20])
 .ret))))
 modes:=[.lend]
 rets:=[⟨2,none⟩]}

/-- loop.example/g00539/impl.DueOf -/
def v15 : VFun := {
 code:=
 (.seq
 (rg [1, 2, 4] [
 vo 2 (.box 27 (.t 0)),
 vo 4 (.alloc 42 [(.val (.int .i64 0)),(.val (.int .i64 0))])])
 (.seq
 (.seq
 (rg [1, 2, 4, 5] [
 vo 6 (.load 27 true 8 (.t 2)),
 vo 7 (.call 13 [(.t 6)]),
 sg 5 7])
 (.seq
 (rg [1, 2, 4, 5, 9] [
 mv 8 5,
 vo 9 (.bin false .neq 2 (.t 8) (ci 0))])
 (.cond (.t 9)
 (.seq
 (rg [4] [
 mv 10 5,
 vo 11 (.build 42 [(.val (.int .i64 0)),(.val (.int .i64 0))] [(0,0,1,(.t 10))]),
 vn (.store 42 2 (.t 4) (.t 11))])
 .ret)
 .skip)))
 (.seq
 (rg [4] [
 vo 12 (.fa 27 4 4 1 (.t 2)),
 ld 13 24 12,
 mv 14 1,
 vo 15 (.call 44 [(.t 13),(.t 14)]),
 vo 16 (.build 42 [(.val (.int .i64 0)),(.val (.int .i64 0))] [(0,0,1,(ci 0)),(1,1,1,(.t 15))]),
 vn (.store 42 2 (.t 4) (.t 16))])
 .ret)))
 modes:=[.lend,.lend]
 rets:=[⟨4,some (true,2)⟩]}

/-- loop.example/g00539/spec.DueOf -/
def v16 : VFun := {
 code:=
 (.seq
 (rg [1, 2, 4] [
 vo 2 (.box 27 (.t 0)),
 vo 4 (.alloc 42 [(.val (.int .i64 0)),(.val (.int .i64 0))])])
 (.seq
 (.seq
 (rg [1, 2, 4, 5] [
 vo 7 (.call 51 [(.t 2)]),
 sg 5 7])
 (.seq
 (rg [1, 2, 4, 5, 9] [
 mv 8 5,
 vo 9 (.bin false .neq 2 (.t 8) (ci 0))])
 (.cond (.t 9)
 (.seq
 (rg [4] [
 mv 10 5,
 vo 11 (.build 42 [(.val (.int .i64 0)),(.val (.int .i64 0))] [(0,0,1,(.t 10))]),
 vn (.store 42 2 (.t 4) (.t 11))])
 .ret)
 .skip)))
 (.seq
 (rg [2, 4, 6] [
 vo 12 (.fa 27 4 4 1 (.t 2)),
 ld 13 24 12,
 mv 14 1,
 vo 15 (.call 60 [(.t 13),(.t 14)]),
 sg 6 15])
 (.seq
 (.seq
 (rg [2, 4, 6, 17] [
 mv 16 6,
 vo 17 (.bin false .lss 3 (.t 16) (ci 0))])
 (.cond (.t 17)
 (.seq
 (rg [4] [
 vo 18 (.build 42 [(.val (.int .i64 0)),(.val (.int .i64 0))] []),
 vn (.store 42 2 (.t 4) (.t 18))])
 .ret)
 .skip))
 (.seq
 (rg [4] [
 vo 19 (.fa 27 4 4 1 (.t 2)),
 ld 20 24 19,
 mv 21 6,
 vo 22 (.ia 24 34 2 (.t 20) (.t 21)),
 vo 23 (.fa 34 1 1 1 (.t 22)),
 ld 24 2 23,
 vo 25 (.build 42 [(.val (.int .i64 0)),(.val (.int .i64 0))] [(1,1,1,(.t 24))]),
 vn (.store 42 2 (.t 4) (.t 25))])
 .ret)))))
 modes:=[.lend,.lend]
 rets:=[⟨4,some (true,2)⟩]}

/-- loop.example/g00539/spec.PayWorker -/
def v17 : VFun := {
 code:=
 (.seq
 (rg [1, 2, 3, 6] [
 vo 3 (.box 27 (.t 0)),
 vo 6 (.alloc 31 [(.val (.int .i64 0)),(.val (.int .i64 0)),(.val (.int .i64 0)),(.val (.int .i64 0)),(.nl 2),(.nl 5),(.nl 2),(.val (.int .i64 0)),(.val (.int .i64 0)),(.val (.int .i64 0))])])
 (.seq
 (.seq
 (rg [1, 2, 3, 6, 7] [
 vo 8 (.call 51 [(.t 3)]),
 sg 7 8])
 (.seq
 (rg [1, 2, 3, 6, 7, 10] [
 mv 9 7,
 vo 10 (.bin false .neq 2 (.t 9) (ci 0))])
 (.cond (.t 10)
 (.seq
 (rg [6] [
 mv 11 7,
 vo 12 (.call 52 [(.t 11)]),
 vn (.store 31 10 (.t 6) (.t 12))])
 .ret)
 .skip)))
 (.seq
 (rg [6] [
 vo 13 (.load 27 true 8 (.t 3)),
 mv 14 1,
 mv 15 2,
 vo 16 (.call 61 [(.t 13),(.t 14),(.t 15)]),
 vn (.store 31 10 (.t 6) (.t 16))])
 .ret)))
 modes:=[.lend,.lend,.lend]
 rets:=[⟨6,some (true,10)⟩]}

/-- loop.example/g00539/spec.l1Source -/
def v38 : VFun := {
 code:=
 (.seq
 (rg [0] [
 vo 2 (.asg (.c (.pointer none)))])
 (.seq
 (rg [2, 5] [
 mv 3 0,
 vo 4 (.build 130 [(.nl 1),(.val (.int .i64 0))] [(0,0,1,(.t 3))]),
 vo 5 (.box 130 (.t 4)),
 sg 2 5])
 .ret))
 modes:=[.lend]
 rets:=[⟨2,none⟩]}

/-- loop.example/g00539/spec.l14Bent -/
def v39 : VFun := {
 code:=
 (.seq
 (rg [0, 2] [
 vo 2 (.alloc 27 [(.val (.int .i64 0)),(.val (.int .i64 0)),(.nl 2),(.nl 5),(.nl 2),(.val (.int .i64 0)),(.val (.int .i64 0)),(.val (.int .i64 0))])])
 (.seq
 (rg [0, 2, 3] [
 mv 4 0,
 vo 5 (.call 89 [(.t 4)]),
 vo 3 (.alloc 27 [(.val (.int .i64 0)),(.val (.int .i64 0)),(.nl 2),(.nl 5),(.nl 2),(.val (.int .i64 0)),(.val (.int .i64 0)),(.val (.int .i64 0))]),
 vn (.store 27 8 (.t 3) (.t 5))])
 (.seq
 (.seq
 (rg [0, 2, 3, 7] [
 mv 6 0,
 vo 7 (.call 48 [(.t 6),(ci 14)])])
 (.block 0
 (.seq
 (rg [0, 2, 3, 7, 8] [
 vo 9 (.bin false .eql 2 (.t 7) (ci 0)),
 sg 8 9])
 (.cond (.t 8)
 (rg [0, 2, 3] [
 mv 10 0,
 vo 11 (.lit 132 2 1 3 [(.val (.int .i64 0))] [(0,(ci 0)),(1,(ci 1)),(2,(ci 13))]),
 vo 12 (.call 41 [(.t 10),(.t 11)]),
 vo 13 (.fa 27 0 0 1 (.t 3)),
 vn (.store 2 1 (.t 13) (.t 12))])
 (.seq
 (rg [0, 2, 3, 7, 14] [
 vo 15 (.bin false .eql 2 (.t 7) (ci 1)),
 sg 14 15])
 (.cond (.t 14)
 (rg [0, 2, 3] [
 mv 16 0,
 vo 17 (.lit 132 2 1 3 [(.val (.int .i64 0))] [(0,(ci ((-1)))),(1,(ci 3)),(2,(ci 1000001))]),
 vo 18 (.call 41 [(.t 16),(.t 17)]),
 vo 19 (.fa 27 6 6 1 (.t 3)),
 vn (.store 2 1 (.t 19) (.t 18))])
 (.seq
 (rg [0, 2, 3, 7, 20] [
 vo 21 (.bin false .eql 2 (.t 7) (ci 2)),
 sg 20 21])
 (.cond (.t 20)
 (rg [0, 2, 3] [
 mv 22 0,
 vo 23 (.call 90 [(.t 22)]),
 vo 24 (.fa 27 2 2 1 (.t 3)),
 vn (.store 24 1 (.t 24) (.t 23))])
 (.seq
 (rg [0, 2, 3, 7, 25] [
 vo 26 (.bin false .eql 2 (.t 7) (ci 3)),
 sg 25 26])
 (.cond (.t 25)
 (.region true [0, 2, 3] [
 vo 27 (.fa 27 4 4 1 (.t 3)),
 ld 28 24 27,
 ⟨some 29,.mov (.t 0),none,[0,1]⟩,
 ⟨some 30,.call 40 [(.t 29)],none,[0,1]⟩,
 ⟨some 31,.mov (.t 0),none,[0,1,2,3]⟩,
 ⟨some 32,.lit 132 2 1 2 [(.val (.int .i64 0))] [(0,(ci 0)),(1,(ci 5))],none,[0,1,2,3,4]⟩,
 ⟨some 33,.call 41 [(.t 31),(.t 32)],none,[0,1]⟩,
 ⟨some 34,.build 34 [(.val (.string (⟨#[]⟩:ByteArray))),(.val (.int .i64 0))] [(0,0,1,(.t 30)),(1,1,1,(.t 33))],none,[0,1]⟩,
 ⟨some 35,.lit 24 34 2 1 [(.val (.string (⟨#[]⟩:ByteArray))),(.val (.int .i64 0))] [(0,(.t 34))],none,[0,1]⟩,
 vo 36 (.app 24 34 2 24 (.t 28) (.t 35)),
 vo 37 (.fa 27 4 4 1 (.t 3)),
 vn (.store 24 1 (.t 37) (.t 36))])
 (.seq
 (rg [0, 2, 3, 38] [
 vo 39 (.bin false .eql 2 (.t 7) (ci 4)),
 sg 38 39])
 (.cond (.t 38)
 (.region true [0, 2, 3] [
 vo 40 (.fa 27 3 3 1 (.t 3)),
 ld 41 25 40,
 ⟨some 42,.mov (.t 0),none,[0,1]⟩,
 ⟨some 43,.call 48 [(.t 42),(ci 5)],none,[0,1]⟩,
 ⟨some 44,.mov (.t 0),none,[0,1,2,3]⟩,
 ⟨some 45,.lit 132 2 1 3 [(.val (.int .i64 0))] [(0,(ci 0)),(1,(ci 1)),(2,(ci 2))],none,[0,1,2,3,4]⟩,
 ⟨some 46,.call 41 [(.t 44),(.t 45)],none,[0,1]⟩,
 ⟨some 47,.mov (.t 0),none,[0,1,2,3,4,5,6]⟩,
 ⟨some 48,.lit 132 2 1 2 [(.val (.int .i64 0))] [(0,(ci 0)),(1,(ci 5))],none,[0,1,2,3,4,5,6,7]⟩,
 ⟨some 49,.call 41 [(.t 47),(.t 48)],none,[0,1]⟩,
 ⟨some 50,.build 96 [(.val (.int .i64 0)),(.val (.int .i64 0)),(.val (.int .i64 0)),(.nl 2),(.val (.int .i64 0))] [(0,0,1,(.t 43)),(4,4,1,(.t 46)),(1,1,1,(.t 49))],none,[0,1]⟩,
 ⟨some 51,.lit 25 96 5 1 [(.val (.int .i64 0)),(.val (.int .i64 0)),(.val (.int .i64 0)),(.nl 2),(.val (.int .i64 0))] [(0,(.t 50))],none,[0,1]⟩,
 vo 52 (.app 25 96 5 56 (.t 41) (.t 51)),
 vo 53 (.fa 27 3 3 1 (.t 3)),
 vn (.store 25 1 (.t 53) (.t 52))])
 .skip))))))))))))
 (.seq
 (rg [0, 2] [
 vo 54 (.load 27 true 8 (.t 3)),
 vn (.store 27 8 (.t 2) (.t 54))])
 .ret))))
 modes:=[.io]
 rets:=[⟨2,some (true,8)⟩]}

/-- loop.example/g00539/spec.l13Worker -/
def v40 : VFun := {
 code:=
 (.seq
 (rg [0] [
 vo 2 (.asg (.c (.string (⟨#[]⟩:ByteArray))))])
 (.seq
 (rg [0, 2] [
 vo 3 (.lit 87 9 1 4 [(.val (.string (⟨#[]⟩:ByteArray)))] [(0,(.c (.string (⟨#[98,111,98]⟩:ByteArray)))),(1,(.c (.string (⟨#[97,110,110]⟩:ByteArray)))),(2,(.c (.string (⟨#[101,118,101]⟩:ByteArray)))),(3,(.c (.string (⟨#[120,49]⟩:ByteArray))))]),
 mv 4 0,
 vo 5 (.call 48 [(.t 4),(ci 4)]),
 vo 6 (.ia 87 9 1 (.t 3) (.t 5)),
 ld 7 9 6,
 sg 2 7])
 .ret))
 modes:=[.io]
 rets:=[⟨2,none⟩]}

/-- loop.example/g00539/spec.l1Pick -/
def v41 : VFun := {
 code:=
 (.seq
 (rg [0, 1] [
 vo 4 (.asg (ci 0))])
 (.seq
 (rg [0, 4] [
 mv 5 1,
 mv 6 0,
 mv 7 1,
 vo 8 (.len false 132 (.t 7)),
 vo 9 (.call 48 [(.t 6),(.t 8)]),
 vo 10 (.ia 132 2 1 (.t 5) (.t 9)),
 ld 11 2 10,
 sg 4 11])
 .ret))
 modes:=[.io,.lend]
 rets:=[⟨4,none⟩]}

/-- loop.example/g00539/impl.changed -/
def v42 : VFun := {
 code:=
 (.seq
 (rg [1, 2, 4] [
 vo 2 (.box 27 (.t 0)),
 vo 4 (.alloc 31 [(.val (.int .i64 0)),(.val (.int .i64 0)),(.val (.int .i64 0)),(.val (.int .i64 0)),(.nl 2),(.nl 5),(.nl 2),(.val (.int .i64 0)),(.val (.int .i64 0)),(.val (.int .i64 0))])])
 (.seq
 (.seq
 (rg [1, 2, 4, 5] [
 vo 8 (.load 27 true 8 (.t 2)),
 vo 9 (.call 13 [(.t 8)]),
 sg 5 9])
 (.seq
 (rg [1, 2, 4, 5, 11] [
 mv 10 5,
 vo 11 (.bin false .neq 2 (.t 10) (ci 0))])
 (.cond (.t 11)
 (.seq
 (rg [4] [
 mv 12 5,
 vo 13 (.build 31 [(.val (.int .i64 0)),(.val (.int .i64 0)),(.val (.int .i64 0)),(.val (.int .i64 0)),(.nl 2),(.nl 5),(.nl 2),(.val (.int .i64 0)),(.val (.int .i64 0)),(.val (.int .i64 0))] [(0,0,1,(.t 12))]),
 vn (.store 31 10 (.t 4) (.t 13))])
 .ret)
 .skip)))
 (.seq
 (rg [1, 4, 6] [
 vo 14 (.load 27 true 8 (.t 2)),
 vo 15 (.call 91 [(.t 14)]),
 vo 6 (.alloc 27 [(.val (.int .i64 0)),(.val (.int .i64 0)),(.nl 2),(.nl 5),(.nl 2),(.val (.int .i64 0)),(.val (.int .i64 0)),(.val (.int .i64 0))]),
 vn (.store 27 8 (.t 6) (.t 15))])
 (.seq
 (.seq
 (rg [4, 6, 7] [
 mv 16 1,
 vo 17 (.callv (.t 16) [(.t 6)]),
 sg 7 17])
 (.seq
 (rg [4, 6, 7, 19] [
 mv 18 7,
 vo 19 (.bin false .neq 2 (.t 18) (ci 0))])
 (.cond (.t 19)
 (.seq
 (rg [4] [
 mv 20 7,
 vo 21 (.build 31 [(.val (.int .i64 0)),(.val (.int .i64 0)),(.val (.int .i64 0)),(.val (.int .i64 0)),(.nl 2),(.nl 5),(.nl 2),(.val (.int .i64 0)),(.val (.int .i64 0)),(.val (.int .i64 0))] [(0,0,1,(.t 20))]),
 vn (.store 31 10 (.t 4) (.t 21))])
 .ret)
 .skip)))
 (.seq
 (rg [4] [
 vo 22 (.load 27 true 8 (.t 6)),
 vo 23 (.build 31 [(.val (.int .i64 0)),(.val (.int .i64 0)),(.val (.int .i64 0)),(.val (.int .i64 0)),(.nl 2),(.nl 5),(.nl 2),(.val (.int .i64 0)),(.val (.int .i64 0)),(.val (.int .i64 0))] [(2,2,8,(.t 22))]),
 vn (.store 31 10 (.t 4) (.t 23))])
 .ret)))))
 modes:=[.lend,.lend]
 rets:=[⟨4,some (true,10)⟩]}

/-- loop.example/g00539/impl.PayWorker$1 -/
def v43 : VFun := {
 code:=
 (.seq
 (rg [0, 1, 2] [
 vo 4 (.asg (ci 0))])
 (.seq
 (.region true [0, 1, 2, 5] [
 mv 6 0,
 vo 7 (.nilc (.t 6)),
 vo 8 (.fa 27 4 4 1 (.t 7)),
 ld 9 24 8,
 ⟨some 10,.load 9 false 1 (.t 1),none,[0,1,2,3]⟩,
 vo 11 (.call 44 [(.t 9),(.t 10)]),
 sg 5 11])
 (.seq
 (.block 0
 (.seq
 (rg [0, 1, 2, 5, 12] [
 mv 13 5,
 vo 14 (.bin false .eql 2 (.t 13) (ci 0)),
 sg 12 14])
 (.cond (.t 12)
 (.seq
 (rg [0, 4] [
 vo 4 (.asg (ci 4))])
 .ret)
 (.seq
 (rg [0, 1, 2, 15] [
 ld 16 2 2,
 mv 17 5,
 vo 18 (.call 45 [(.t 16),(ci 1),(.t 17)]),
 vo 19 (.un .not (.t 18)),
 sg 15 19])
 (.cond (.t 15)
 (.seq
 (rg [0, 4] [
 vo 4 (.asg (ci 3))])
 .ret)
 (.seq
 (.region true [0, 1, 2, 20] [
 mv 21 0,
 vo 22 (.nilc (.t 21)),
 vo 23 (.fa 27 5 5 1 (.t 22)),
 ld 24 2 23,
 ⟨some 25,.load 2 false 1 (.t 2),none,[0,1,2,3]⟩,
 vo 26 (.bin false .add 2 (.t 24) (.t 25)),
 vo 27 (.call 46 [(.t 26)]),
 vo 28 (.un .not (.t 27)),
 sg 20 28])
 (.cond (.t 20)
 (.seq
 (rg [0, 4] [
 vo 4 (.asg (ci 7))])
 .ret)
 .skip)))))))
 (.seq
 (.region true [0, 2] [
 mv 29 0,
 vo 30 (.nilc (.t 29)),
 vo 31 (.fa 27 4 4 1 (.t 30)),
 ld 32 24 31,
 ⟨some 33,.mov (.t 0),none,[0,1,2,3]⟩,
 ⟨some 34,.nilc (.t 33),none,[0,1,2,3]⟩,
 ⟨some 35,.fa 27 4 4 1 (.t 34),none,[0,1,2,3]⟩,
 ⟨some 36,.load 24 false 1 (.t 35),none,[0,1,2,3]⟩,
 ⟨some 37,.load 9 false 1 (.t 1),none,[0,1,2,3,4,5,6,7]⟩,
 ⟨some 38,.call 47 [(.t 36),(.t 37)],none,[0,1,2,3]⟩,
 vo 39 (.ia 24 34 2 (.t 32) (.t 38)),
 vo 40 (.fa 34 1 1 1 (.t 39)),
 ld 41 2 40,
 ⟨some 42,.load 2 false 1 (.t 2),none,[0,1,2,3,4,5,6,7,8,9,10,11,12]⟩,
 vo 43 (.bin false .sub 2 (.t 41) (.t 42)),
 vo 44 (.ia 24 34 2 (.t 32) (.t 38)),
 vo 45 (.fa 34 1 1 1 (.t 44)),
 vn (.store 2 1 (.t 45) (.t 43))])
 (.seq
 (.region true [0] [
 mv 46 0,
 vo 47 (.nilc (.t 46)),
 vo 48 (.fa 27 5 5 1 (.t 47)),
 ld 49 2 48,
 ⟨some 50,.load 2 false 1 (.t 2),none,[0,1,2,3]⟩,
 vo 51 (.bin false .add 2 (.t 49) (.t 50)),
 vo 52 (.nilc (.t 46)),
 vo 53 (.fa 27 5 5 1 (.t 52)),
 vn (.store 2 1 (.t 53) (.t 51))])
 (.seq
 (rg [0, 4] [
 vo 4 (.asg (ci 0))])
 .ret))))))
 modes:=[.io,.lend,.lend]
 rets:=[⟨4,none⟩]}

def b44_0:VC:=
 (.seq
 (rg [1, 5, 8, 9, 10, 11] [
 vo 11 (.bin false .lss 3 (.t 10) (.t 9))])
 (.seq
 (.cond (.t 11)
 .skip
 (.exit 0))
 (.seq
 (.block 1
 (.seq
 (rg [1, 5, 7, 8, 9, 10] [
 vo 12 (.ia 24 34 2 (.t 8) (.t 10)),
 vo 13 (.load 34 true 2 (.t 12)),
 vo 7 (.alloc 34 [(.val (.string (⟨#[]⟩:ByteArray))),(.val (.int .i64 0))]),
 vn (.store 34 2 (.t 7) (.t 13))])
 (.seq
 (rg [1, 5, 7, 8, 9, 10, 17] [
 vo 14 (.fa 34 0 0 1 (.t 7)),
 ld 15 9 14,
 mv 16 1,
 vo 17 (.bin false .eql 9 (.t 15) (.t 16))])
 (.cond (.t 17)
 (rg [1, 5, 8, 9, 10] [
 mv 18 5,
 vo 19 (.fa 34 1 1 1 (.t 7)),
 ld 20 2 19,
 vo 21 (.bin false .add 2 (.t 18) (.t 20)),
 sg 5 21])
 .skip))))
 (rg [1, 5, 8, 9, 10] [
 vo 22 (.bin false .add 3 (.t 10) (ci 1)),
 mv 10 22]))))
def l44_0:VC:=.loop b44_0
/-- loop.example/g00539/impl.amountOf -/
def v44 : VFun := {
 code:=
 (.seq
 (rg [0, 1] [
 vo 4 (.asg (ci 0))])
 (.seq
 (rg [0, 1, 5] [
 vo 5 (.asg (ci 0))])
 (.seq
 (.seq
 (rg [1, 5, 8, 9, 10] [
 mv 8 0,
 vo 9 (.len false 24 (.t 8)),
 vo 10 (.mov (ci 0))])
 (.block 0
 l44_0))
 (.seq
 (rg [4] [
 mv 23 5,
 sg 4 23])
 .ret))))
 modes:=[.lend,.lend]
 rets:=[⟨4,none⟩]}

/-- loop.example/g00539/impl.in -/
def v45 : VFun := {
 code:=
 (.seq
 (rg [0, 1, 2] [
 vo 6 (.asg (.c (.bool false)))])
 (.seq
 (rg [6] [
 mv 7 0,
 mv 8 1,
 vo 9 (.bin false .geq 2 (.t 7) (.t 8)),
 mv 10 9,
 og 11 (.mov (.t 0)) 10 true,
 og 12 (.mov (.t 2)) 10 true,
 og 13 (.bin false .leq 2 (.t 11) (.t 12)) 10 true,
 vo 14 (.pick (.t 10) (.t 13) (.c (.bool false))),
 sg 6 14])
 .ret))
 modes:=[.lend,.lend,.lend]
 rets:=[⟨6,none⟩]}

/-- loop.example/g00539/impl.isAmount -/
def v46 : VFun := {
 code:=
 (.seq
 (rg [0] [
 vo 2 (.asg (.c (.bool false)))])
 (.seq
 (rg [2] [
 mv 3 0,
 vo 4 (.call 45 [(.t 3),(ci 0),(ci 1000000)]),
 sg 2 4])
 .ret))
 modes:=[.lend]
 rets:=[⟨2,none⟩]}

/-- loop.example/g00539/impl.weightAt -/
def v47 : VFun := {
 code:=
 (.seq
 (rg [0, 3] [
 vo 3 (.box 9 (.t 1)),
 vo 4 (.asg (ci 0))])
 (.seq
 (rg [4] [
 mv 5 0,
 vo 6 (.fn 93 [] [(.t 3)]),
 vo 7 (.call 92 [(.t 5),(.t 6)]),
 sg 4 7])
 .ret))
 modes:=[.lend,.lend]
 rets:=[⟨4,none⟩]}

/-- loop.example/g00539/spec.l1Next -/
def v48 : VFun := {
 code:=
 (.seq
 (rg [0, 1] [
 vo 4 (.asg (ci 0))])
 (.seq
 (rg [0, 1] [
 mv 8 0,
 mv 9 0,
 vo 10 (.nilc (.t 9)),
 vo 11 (.fa 130 1 1 1 (.t 10)),
 ld 12 2 11,
 vo 13 (.bin false .add 2 (.t 12) (ci 1)),
 vo 14 (.nilc (.t 8)),
 vo 15 (.fa 130 1 1 1 (.t 14)),
 vn (.store 2 1 (.t 15) (.t 13))])
 (.seq
 (.seq
 (rg [0, 1, 17] [
 mv 16 1,
 vo 17 (.bin false .lss 2 (.t 16) (ci 1))])
 (.cond (.t 17)
 (.seq
 (rg [0, 4] [
 vo 4 (.asg (ci 0))])
 .ret)
 .skip))
 (.seq
 (rg [0, 1, 5] [
 mv 18 0,
 vo 19 (.nilc (.t 18)),
 vo 20 (.fa 130 1 1 1 (.t 19)),
 ld 21 2 20,
 vo 22 (.bin false .sub 2 (.t 21) (ci 1)),
 sg 5 22])
 (.seq
 (rg [0, 1, 5, 6] [
 mv 23 0,
 vo 24 (.nilc (.t 23)),
 vo 25 (.fa 130 0 0 1 (.t 24)),
 ld 26 22 25,
 vo 27 (.len false 22 (.t 26)),
 sg 6 27])
 (.seq
 (.seq
 (rg [0, 1, 5, 6, 29] [
 mv 28 6,
 vo 29 (.bin false .eql 2 (.t 28) (ci 0))])
 (.cond (.t 29)
 (.seq
 (rg [0, 4] [
 mv 30 5,
 vo 31 (.bin false .mul 2 (.t 30) (ci 7)),
 mv 32 1,
 vo 33 (.bin false .rem 2 (.t 31) (.t 32)),
 sg 4 33])
 .ret)
 .skip))
 (.seq
 (.region true [0, 1, 5, 6, 7] [
 mv 34 0,
 vo 35 (.nilc (.t 34)),
 vo 36 (.fa 130 0 0 1 (.t 35)),
 ld 37 22 36,
 ⟨some 38,.mov (.t 5),none,[0,1,2,3]⟩,
 ⟨some 39,.mov (.t 6),none,[0,1,2,3,4]⟩,
 ⟨some 40,.bin false .rem 2 (.t 38) (.t 39),none,[0,1,2,3]⟩,
 vo 41 (.ia 22 5 1 (.t 37) (.t 40)),
 ld 42 5 41,
 vo 43 (.conv 5 2 .i64 (.t 42)),
 ⟨some 44,.mov (.t 5),none,[0,1,2,3,4,5,6,7,8,9]⟩,
 ⟨some 45,.mov (.t 6),none,[0,1,2,3,4,5,6,7,8,9,10]⟩,
 ⟨some 46,.bin false .quo 2 (.t 44) (.t 45),none,[0,1,2,3,4,5,6,7,8,9]⟩,
 ⟨some 47,.bin false .mul 2 (.t 46) (ci 37),none,[0,1,2,3,4,5,6,7,8,9]⟩,
 vo 48 (.bin false .add 2 (.t 43) (.t 47)),
 sg 7 48])
 (.seq
 (.seq
 (rg [0, 1, 5, 6, 7, 50] [
 mv 49 1,
 vo 50 (.bin false .gtr 2 (.t 49) (ci 200))])
 (.cond (.t 50)
 (.region true [0, 1, 7] [
 mv 51 7,
 vo 52 (.bin false .mul 2 (.t 51) (ci 251)),
 ⟨some 53,.mov (.t 0),none,[0,1]⟩,
 ⟨some 54,.nilc (.t 53),none,[0,1]⟩,
 ⟨some 55,.fa 130 0 0 1 (.t 54),none,[0,1]⟩,
 ⟨some 56,.load 22 false 1 (.t 55),none,[0,1]⟩,
 ⟨some 57,.mov (.t 5),none,[0,1,2,3,4,5]⟩,
 ⟨some 58,.bin false .add 2 (.t 57) (ci 1),none,[0,1,2,3,4,5]⟩,
 ⟨some 59,.mov (.t 6),none,[0,1,2,3,4,5,6,7]⟩,
 ⟨some 60,.bin false .rem 2 (.t 58) (.t 59),none,[0,1,2,3,4,5]⟩,
 ⟨some 61,.ia 22 5 1 (.t 56) (.t 60),none,[0,1]⟩,
 ⟨some 62,.load 5 false 1 (.t 61),none,[0,1]⟩,
 ⟨some 63,.conv 5 2 .i64 (.t 62),none,[0,1]⟩,
 ⟨some 64,.bin false .mul 2 (.t 63) (ci 13),none,[0,1]⟩,
 vo 65 (.bin false .add 2 (.t 52) (.t 64)),
 ⟨some 66,.mov (.t 5),none,[0,1,2,3,4,5,6,7,8,9,10,11,12,13,14]⟩,
 vo 67 (.bin false .add 2 (.t 65) (.t 66)),
 sg 7 67])
 .skip))
 (.seq
 (rg [0, 4] [
 mv 68 7,
 mv 69 1,
 vo 70 (.bin false .rem 2 (.t 68) (.t 69)),
 sg 4 70])
 .ret)))))))))
 modes:=[.io,.lend]
 rets:=[⟨4,none⟩]}

/-- loop.example/g00539/impl.CreditShare$1 -/
def v49 : VFun := {
 code:=
 (.seq
 (rg [0, 1] [
 vo 3 (.asg (ci 0))])
 (.seq
 (.region true [0, 4] [
 mv 5 0,
 vo 6 (.nilc (.t 5)),
 vo 7 (.fa 27 2 2 1 (.t 6)),
 ld 8 24 7,
 ⟨some 9,.load 34 true 2 (.t 1),none,[0,1,2,3]⟩,
 ⟨some 10,.mov (.t 0),none,[0,1,2,3,4]⟩,
 ⟨some 11,.nilc (.t 10),none,[0,1,2,3,4]⟩,
 ⟨some 12,.fa 27 0 0 1 (.t 11),none,[0,1,2,3,4]⟩,
 ⟨some 13,.load 2 false 1 (.t 12),none,[0,1,2,3,4]⟩,
 vo 14 (.call 50 [(.t 8),(.t 9),(.t 13)]),
 ⟨some 4,.alloc 90 [(.val (.int .i64 0)),(.nl 2)],none,[0,1,2,3,4,5,6,7,8,9]⟩,
 vn (.store 90 2 (.t 4) (.t 14))])
 (.seq
 (rg [0, 4] [
 mv 15 0,
 vo 16 (.fa 90 1 1 1 (.t 4)),
 ld 17 24 16,
 vo 18 (.nilc (.t 15)),
 vo 19 (.fa 27 2 2 1 (.t 18)),
 vn (.store 24 1 (.t 19) (.t 17))])
 (.seq
 (rg [0, 3] [
 vo 20 (.fa 90 0 0 1 (.t 4)),
 ld 21 2 20,
 sg 3 21])
 .ret))))
 modes:=[.io,.lend]
 rets:=[⟨3,none⟩]}

/-- loop.example/g00539/impl.PushWeight -/
def v50 : VFun := {
 code:=
 (.seq
 (rg [0, 2, 4, 6] [
 vo 4 (.box 34 (.t 1)),
 vo 6 (.alloc 90 [(.val (.int .i64 0)),(.nl 2)])])
 (.seq
 (.seq
 (rg [0, 2, 4, 6, 7] [
 mv 10 0,
 vo 11 (.call 55 [(.t 10)]),
 sg 7 11])
 (.seq
 (rg [0, 2, 4, 6, 7, 13] [
 mv 12 7,
 vo 13 (.bin false .neq 2 (.t 12) (ci 0))])
 (.cond (.t 13)
 (.seq
 (rg [6] [
 mv 14 7,
 vo 15 (.build 90 [(.val (.int .i64 0)),(.nl 2)] [(0,0,1,(.t 14))]),
 vn (.store 90 2 (.t 6) (.t 15))])
 .ret)
 .skip)))
 (.seq
 (.seq
 (rg [0, 2, 4, 6, 8] [
 vo 16 (.load 34 true 2 (.t 4)),
 vo 17 (.lit 24 34 2 1 [(.val (.string (⟨#[]⟩:ByteArray))),(.val (.int .i64 0))] [(0,(.t 16))]),
 vo 18 (.call 55 [(.t 17)]),
 sg 8 18])
 (.seq
 (rg [0, 2, 4, 6, 8, 20] [
 mv 19 8,
 vo 20 (.bin false .neq 2 (.t 19) (ci 0))])
 (.cond (.t 20)
 (.seq
 (rg [6] [
 mv 21 8,
 vo 22 (.build 90 [(.val (.int .i64 0)),(.nl 2)] [(0,0,1,(.t 21))]),
 vn (.store 90 2 (.t 6) (.t 22))])
 .ret)
 .skip)))
 (.seq
 (.seq
 (rg [0, 2, 4, 6, 25] [
 mv 23 2,
 vo 24 (.call 45 [(.t 23),(ci 1),(ci 12)]),
 vo 25 (.un .not (.t 24))])
 (.cond (.t 25)
 (.seq
 (rg [6] [
 vo 26 (.build 90 [(.val (.int .i64 0)),(.nl 2)] [(0,0,1,(ci 3))]),
 vn (.store 90 2 (.t 6) (.t 26))])
 .ret)
 .skip))
 (.seq
 (.region true [2, 6, 9, 31] [
 mv 27 0,
 vo 28 (.call 94 [(.t 27)]),
 ⟨some 29,.load 34 true 2 (.t 4),none,[0,1]⟩,
 ⟨some 30,.lit 24 34 2 1 [(.val (.string (⟨#[]⟩:ByteArray))),(.val (.int .i64 0))] [(0,(.t 29))],none,[0,1]⟩,
 vo 31 (.app 24 34 2 24 (.t 28) (.t 30)),
 sg 9 31])
 (.seq
 (rg [6] [
 mv 32 9,
 mv 33 9,
 vo 34 (.len false 24 (.t 33)),
 mv 35 2,
 vo 36 (.bin false .sub 3 (.t 34) (.t 35)),
 vo 37 (.mm true (.t 36) (ci 0)),
 vo 38 (.cut 24 (some 34) 2 (.t 32) (some (.t 37)) none),
 vo 39 (.call 94 [(.t 38)]),
 vo 40 (.build 90 [(.val (.int .i64 0)),(.nl 2)] [(0,0,1,(ci 0)),(1,1,1,(.t 39))]),
 vn (.store 90 2 (.t 6) (.t 40))])
 .ret))))))
 modes:=[.lend,.lend,.lend]
 rets:=[⟨6,some (true,2)⟩]}

def b51_0:VC:=
 (.seq
 (.seq
 (rg [0, 4, 49] [
 mv 43 4,
 mv 44 0,
 vo 45 (.nilc (.t 44)),
 vo 46 (.fa 27 3 3 1 (.t 45)),
 ld 47 25 46,
 vo 48 (.len false 25 (.t 47)),
 vo 49 (.bin false .lss 3 (.t 43) (.t 48))])
 (.cond (.t 49)
 .skip
 (.exit 0)))
 (.seq
 (.block 1
 (.seq
 (rg [0, 4, 5] [
 mv 52 0,
 vo 53 (.nilc (.t 52)),
 vo 54 (.fa 27 3 3 1 (.t 53)),
 ld 55 25 54,
 mv 56 4,
 vo 57 (.call 97 [(.t 55),(.t 56)]),
 sg 5 57])
 (.seq
 (rg [0, 4, 5, 59] [
 mv 58 5,
 vo 59 (.bin false .neq 2 (.t 58) (ci 0))])
 (.cond (.t 59)
 (.seq
 (rg [2] [
 mv 60 5,
 sg 2 60])
 .ret)
 .skip))))
 (rg [0, 4] [
 mv 50 4,
 vo 51 (.bin false .add 3 (.t 50) (ci 1)),
 sg 4 51])))
def l51_0:VC:=.loop b51_0
/-- loop.example/g00539/spec.l14Fault -/
def v51 : VFun := {
 code:=
 (.seq
 (rg [0] [
 vo 2 (.asg (ci 0))])
 (.seq
 (.seq
 (rg [0, 8] [
 mv 6 0,
 vo 7 (.call 95 [(.t 6)]),
 vo 8 (.un .not (.t 7))])
 (.cond (.t 8)
 (.seq
 (rg [2] [
 vo 2 (.asg (ci 3))])
 .ret)
 .skip))
 (.seq
 (.seq
 (rg [0, 3] [
 mv 9 0,
 vo 10 (.nilc (.t 9)),
 vo 11 (.fa 27 2 2 1 (.t 10)),
 ld 12 24 11,
 vo 13 (.call 96 [(.t 12)]),
 sg 3 13])
 (.seq
 (rg [0, 3, 15] [
 mv 14 3,
 vo 15 (.bin false .neq 2 (.t 14) (ci 0))])
 (.cond (.t 15)
 (.seq
 (rg [2] [
 mv 16 3,
 sg 2 16])
 .ret)
 .skip)))
 (.seq
 (.seq
 (.region true [0, 42] [
 mv 17 0,
 vo 18 (.nilc (.t 17)),
 vo 19 (.fa 27 2 2 1 (.t 18)),
 ld 20 24 19,
 vo 21 (.len false 24 (.t 20)),
 ⟨some 22,.mov (.t 0),none,[0,1,2,3,4]⟩,
 ⟨some 23,.nilc (.t 22),none,[0,1,2,3,4]⟩,
 ⟨some 24,.fa 27 0 0 1 (.t 23),none,[0,1,2,3,4]⟩,
 ⟨some 25,.load 2 false 1 (.t 24),none,[0,1,2,3,4]⟩,
 vo 26 (.bin false .gtr 2 (.t 21) (.t 25)),
 mv 27 26,
 og 28 (.mov (.t 0)) 27 false,
 og 29 (.nilc (.t 28)) 27 false,
 og 30 (.fa 27 3 3 1 (.t 29)) 27 false,
 og 31 (.load 25 false 1 (.t 30)) 27 false,
 og 32 (.len false 25 (.t 31)) 27 false,
 og 33 (.bin false .gtr 3 (.t 32) (ci 6)) 27 false,
 vo 34 (.pick (.t 27) (.c (.bool true)) (.t 33)),
 mv 35 34,
 og 36 (.mov (.t 0)) 35 false,
 og 37 (.nilc (.t 36)) 35 false,
 og 38 (.fa 27 4 4 1 (.t 37)) 35 false,
 og 39 (.load 24 false 1 (.t 38)) 35 false,
 og 40 (.len false 24 (.t 39)) 35 false,
 og 41 (.bin false .gtr 3 (.t 40) (ci 8)) 35 false,
 vo 42 (.pick (.t 35) (.c (.bool true)) (.t 41))])
 (.cond (.t 42)
 (.seq
 (rg [2] [
 vo 2 (.asg (ci 2))])
 .ret)
 .skip))
 (.seq
 (.seq
 (rg [0, 4] [
 vo 4 (.asg (ci 0))])
 (.block 0
 l51_0))
 (.seq
 (.seq
 (rg [0, 66] [
 mv 61 0,
 vo 62 (.nilc (.t 61)),
 vo 63 (.fa 27 4 4 1 (.t 62)),
 ld 64 24 63,
 vo 65 (.call 98 [(.t 64)]),
 vo 66 (.un .not (.t 65))])
 (.cond (.t 66)
 (.seq
 (rg [2] [
 vo 2 (.asg (ci 1))])
 .ret)
 .skip))
 (.seq
 (.seq
 (.region true [101] [
 mv 67 0,
 vo 68 (.nilc (.t 67)),
 vo 69 (.fa 27 4 4 1 (.t 68)),
 ld 70 24 69,
 vo 71 (.call 99 [(.t 70)]),
 ⟨some 72,.mov (.t 0),none,[0,1,2,3,4]⟩,
 ⟨some 73,.nilc (.t 72),none,[0,1,2,3,4]⟩,
 ⟨some 74,.fa 27 6 6 1 (.t 73),none,[0,1,2,3,4]⟩,
 ⟨some 75,.load 2 false 1 (.t 74),none,[0,1,2,3,4]⟩,
 vo 76 (.bin false .add 2 (.t 71) (.t 75)),
 ⟨some 77,.mov (.t 0),none,[0,1,2,3,4,5,6,7,8,9]⟩,
 ⟨some 78,.nilc (.t 77),none,[0,1,2,3,4,5,6,7,8,9]⟩,
 ⟨some 79,.fa 27 5 5 1 (.t 78),none,[0,1,2,3,4,5,6,7,8,9]⟩,
 ⟨some 80,.load 2 false 1 (.t 79),none,[0,1,2,3,4,5,6,7,8,9]⟩,
 vo 81 (.bin false .add 2 (.t 76) (.t 80)),
 ⟨some 82,.mov (.t 0),none,[0,1,2,3,4,5,6,7,8,9,10,11,12,13,14]⟩,
 ⟨some 83,.nilc (.t 82),none,[0,1,2,3,4,5,6,7,8,9,10,11,12,13,14]⟩,
 ⟨some 84,.fa 27 3 3 1 (.t 83),none,[0,1,2,3,4,5,6,7,8,9,10,11,12,13,14]⟩,
 ⟨some 85,.load 25 false 1 (.t 84),none,[0,1,2,3,4,5,6,7,8,9,10,11,12,13,14]⟩,
 ⟨some 86,.call 100 [(.t 85),(.c (.bool true))],none,[5,6,7,8,9,10,11,12,13,14]⟩,
 ⟨some 87,.mov (.t 0),none,[0,1,2,3,4,5,6,7,8,9,10,11,12,13,14,15,16,17,18,19]⟩,
 ⟨some 88,.nilc (.t 87),none,[0,1,2,3,4,5,6,7,8,9,10,11,12,13,14,15,16,17,18,19]⟩,
 ⟨some 89,.fa 27 7 7 1 (.t 88),none,[0,1,2,3,4,5,6,7,8,9,10,11,12,13,14,15,16,17,18,19]⟩,
 ⟨some 90,.load 2 false 1 (.t 89),none,[0,1,2,3,4,5,6,7,8,9,10,11,12,13,14,15,16,17,18,19]⟩,
 ⟨some 91,.bin false .add 2 (.t 86) (.t 90),none,[5,6,7,8,9,10,11,12,13,14]⟩,
 vo 92 (.bin false .neq 2 (.t 81) (.t 91)),
 mv 93 92,
 og 94 (.mov (.t 0)) 93 false,
 og 95 (.nilc (.t 94)) 93 false,
 og 96 (.fa 27 3 3 1 (.t 95)) 93 false,
 og 97 (.load 25 false 1 (.t 96)) 93 false,
 og 98 (.call 100 [(.t 97),(.c (.bool false))]) 93 false,
 og 99 (.call 101 [(.t 98)]) 93 false,
 og 100 (.un .not (.t 99)) 93 false,
 vo 101 (.pick (.t 93) (.c (.bool true)) (.t 100))])
 (.cond (.t 101)
 (.seq
 (rg [2] [
 vo 2 (.asg (ci 7))])
 .ret)
 .skip))
 (.seq
 (rg [2] [
 vo 2 (.asg (ci 0))])
 .ret))))))))
 modes:=[.lend]
 rets:=[⟨2,none⟩]}

/-- loop.example/g00539/spec.l14Bad -/
def v52 : VFun := {
 code:=
 (.seq
 (rg [0, 2] [
 vo 2 (.alloc 31 [(.val (.int .i64 0)),(.val (.int .i64 0)),(.val (.int .i64 0)),(.val (.int .i64 0)),(.nl 2),(.nl 5),(.nl 2),(.val (.int .i64 0)),(.val (.int .i64 0)),(.val (.int .i64 0))])])
 (.seq
 (rg [2] [
 mv 3 0,
 vo 4 (.build 31 [(.val (.int .i64 0)),(.val (.int .i64 0)),(.val (.int .i64 0)),(.val (.int .i64 0)),(.nl 2),(.nl 5),(.nl 2),(.val (.int .i64 0)),(.val (.int .i64 0)),(.val (.int .i64 0))] [(0,0,1,(.t 3))]),
 vn (.store 31 10 (.t 2) (.t 4))])
 .ret))
 modes:=[.lend]
 rets:=[⟨2,some (true,10)⟩]}

/-- loop.example/g00539/spec.l14Credit -/
def v53 : VFun := {
 code:=
 (.seq
 (rg [2, 3, 4] [
 vo 2 (.box 27 (.t 0)),
 vo 3 (.box 34 (.t 1)),
 vo 4 (.alloc 31 [(.val (.int .i64 0)),(.val (.int .i64 0)),(.val (.int .i64 0)),(.val (.int .i64 0)),(.nl 2),(.nl 5),(.nl 2),(.val (.int .i64 0)),(.val (.int .i64 0)),(.val (.int .i64 0))])])
 (.seq
 (.seq
 (rg [2, 3, 4, 5] [
 vo 7 (.call 102 [(.t 3)]),
 sg 5 7])
 (.seq
 (rg [2, 3, 4, 5, 9] [
 mv 8 5,
 vo 9 (.bin false .neq 2 (.t 8) (ci 0))])
 (.cond (.t 9)
 (.seq
 (rg [4] [
 mv 10 5,
 vo 11 (.call 52 [(.t 10)]),
 vn (.store 31 10 (.t 4) (.t 11))])
 .ret)
 .skip)))
 (.seq
 (rg [2, 3, 4, 6] [
 vo 12 (.load 27 true 8 (.t 2)),
 vo 13 (.call 103 [(.t 12)]),
 vo 6 (.alloc 27 [(.val (.int .i64 0)),(.val (.int .i64 0)),(.nl 2),(.nl 5),(.nl 2),(.val (.int .i64 0)),(.val (.int .i64 0)),(.val (.int .i64 0))]),
 vn (.store 27 8 (.t 6) (.t 13))])
 (.seq
 (rg [4, 6] [
 vo 14 (.fa 27 2 2 1 (.t 2)),
 ld 15 24 14,
 vo 16 (.load 34 true 2 (.t 3)),
 vo 17 (.fa 27 0 0 1 (.t 2)),
 ld 18 2 17,
 vo 19 (.call 104 [(.t 15),(.t 16),(.t 18)]),
 vo 20 (.fa 27 2 2 1 (.t 6)),
 vn (.store 24 1 (.t 20) (.t 19))])
 (.seq
 (rg [4] [
 vo 21 (.load 27 true 8 (.t 6)),
 vo 22 (.build 31 [(.val (.int .i64 0)),(.val (.int .i64 0)),(.val (.int .i64 0)),(.val (.int .i64 0)),(.nl 2),(.nl 5),(.nl 2),(.val (.int .i64 0)),(.val (.int .i64 0)),(.val (.int .i64 0))] [(2,2,8,(.t 21))]),
 vn (.store 31 10 (.t 4) (.t 22))])
 .ret)))))
 modes:=[.lend,.lend]
 rets:=[⟨4,some (true,10)⟩]}

/-- loop.example/g00539/impl.sizesOk -/
def v54 : VFun := {
 code:=
 (.seq
 (rg [0, 1] [
 vo 4 (.asg (.c (.bool false)))])
 (.seq
 (rg [4] [
 mv 5 0,
 vo 6 (.call 45 [(.t 5),(ci 1),(ci 12)]),
 mv 7 6,
 og 8 (.mov (.t 1)) 7 true,
 og 9 (.call 45 [(.t 8),(ci 0),(ci 1000)]) 7 true,
 vo 10 (.pick (.t 7) (.t 9) (.c (.bool false))),
 sg 4 10])
 .ret))
 modes:=[.lend,.lend]
 rets:=[⟨4,none⟩]}

def b55_0:VC:=
 (.seq
 (rg [8, 9, 10, 11] [
 vo 11 (.bin false .lss 3 (.t 10) (.t 9))])
 (.seq
 (.cond (.t 11)
 .skip
 (.exit 0))
 (.seq
 (.block 1
 (.seq
 (rg [4, 8, 9, 10] [
 vo 12 (.ia 24 34 2 (.t 8) (.t 10)),
 vo 13 (.load 34 true 2 (.t 12)),
 vo 4 (.alloc 34 [(.val (.string (⟨#[]⟩:ByteArray))),(.val (.int .i64 0))]),
 vn (.store 34 2 (.t 4) (.t 13))])
 (.block 2
 (.seq
 (rg [4, 8, 9, 10, 14] [
 vo 15 (.fa 34 0 0 1 (.t 4)),
 ld 16 9 15,
 vo 17 (.call 71 [(.t 16)]),
 vo 18 (.un .not (.t 17)),
 sg 14 18])
 (.cond (.t 14)
 (.seq
 (rg [2] [
 vo 2 (.asg (ci 5))])
 .ret)
 (.seq
 (rg [8, 9, 10, 19] [
 vo 20 (.fa 34 1 1 1 (.t 4)),
 ld 21 2 20,
 vo 22 (.call 45 [(.t 21),(ci 1),(ci 9999)]),
 vo 23 (.un .not (.t 22)),
 sg 19 23])
 (.cond (.t 19)
 (.seq
 (rg [2] [
 vo 2 (.asg (ci 3))])
 .ret)
 .skip)))))))
 (rg [8, 9, 10] [
 vo 24 (.bin false .add 3 (.t 10) (ci 1)),
 mv 10 24]))))
def l55_0:VC:=.loop b55_0
/-- loop.example/g00539/impl.WindowFault -/
def v55 : VFun := {
 code:=
 (.seq
 (rg [0] [
 vo 2 (.asg (ci 0))])
 (.seq
 (.seq
 (rg [0, 7] [
 mv 5 0,
 vo 6 (.len false 24 (.t 5)),
 vo 7 (.bin false .gtr 3 (.t 6) (ci 12))])
 (.cond (.t 7)
 (.seq
 (rg [2] [
 vo 2 (.asg (ci 2))])
 .ret)
 .skip))
 (.seq
 (.seq
 (rg [8, 9, 10] [
 mv 8 0,
 vo 9 (.len false 24 (.t 8)),
 vo 10 (.mov (ci 0))])
 (.block 0
 l55_0))
 (.seq
 (rg [2] [
 vo 2 (.asg (ci 0))])
 .ret))))
 modes:=[.lend]
 rets:=[⟨2,none⟩]}

/-- loop.example/g00539/impl.rewardFault -/
def v56 : VFun := {
 code:=
 (.seq
 (rg [1, 2] [
 vo 2 (.box 96 (.t 0)),
 vo 4 (.asg (ci 0))])
 (.seq
 (.block 0
 (.seq
 (rg [1, 2, 5] [
 vo 6 (.fa 96 0 0 1 (.t 2)),
 ld 7 2 6,
 vo 8 (.call 72 [(.t 7)]),
 vo 9 (.un .not (.t 8)),
 mv 10 9,
 og 11 (.fa 96 1 1 1 (.t 2)) 10 false,
 og 12 (.load 2 false 1 (.t 11)) 10 false,
 og 13 (.call 46 [(.t 12)]) 10 false,
 og 14 (.un .not (.t 13)) 10 false,
 vo 15 (.pick (.t 10) (.c (.bool true)) (.t 14)),
 mv 16 15,
 og 17 (.fa 96 2 2 1 (.t 2)) 16 false,
 og 18 (.load 2 false 1 (.t 17)) 16 false,
 og 19 (.call 46 [(.t 18)]) 16 false,
 og 20 (.un .not (.t 19)) 16 false,
 vo 21 (.pick (.t 16) (.c (.bool true)) (.t 20)),
 mv 22 21,
 og 23 (.fa 96 4 4 1 (.t 2)) 22 false,
 og 24 (.load 2 false 1 (.t 23)) 22 false,
 og 25 (.call 45 [(.t 24),(ci 1),(ci 3)]) 22 false,
 og 26 (.un .not (.t 25)) 22 false,
 vo 27 (.pick (.t 22) (.c (.bool true)) (.t 26)),
 sg 5 27])
 (.cond (.t 5)
 (.seq
 (rg [4] [
 vo 4 (.asg (ci 3))])
 .ret)
 (.seq
 (.region true [1, 2, 28] [
 vo 29 (.fa 96 3 3 1 (.t 2)),
 ld 30 24 29,
 vo 31 (.call 57 [(.t 30),(ci 12)]),
 vo 32 (.un .not (.t 31)),
 mv 33 32,
 og 34 (.fa 96 3 3 1 (.t 2)) 33 false,
 og 35 (.load 24 false 1 (.t 34)) 33 false,
 og 36 (.call 58 [(.t 35)]) 33 false,
 ⟨some 37,.fa 96 2 2 1 (.t 2),some (33,false),[5,6,7]⟩,
 ⟨some 38,.load 2 false 1 (.t 37),some (33,false),[5,6,7]⟩,
 og 39 (.bin false .add 2 (.t 36) (.t 38)) 33 false,
 ⟨some 40,.fa 96 1 1 1 (.t 2),some (33,false),[5,6,7,8,9,10]⟩,
 ⟨some 41,.load 2 false 1 (.t 40),some (33,false),[5,6,7,8,9,10]⟩,
 og 42 (.bin false .neq 2 (.t 39) (.t 41)) 33 false,
 vo 43 (.pick (.t 33) (.c (.bool true)) (.t 42)),
 sg 28 43])
 (.cond (.t 28)
 (.seq
 (rg [4] [
 vo 4 (.asg (ci 1))])
 .ret)
 (.seq
 (rg [44] [
 mv 45 1,
 vo 46 (.fa 96 0 0 1 (.t 2)),
 ld 47 2 46,
 vo 48 (.call 82 [(.t 45),(.t 47)]),
 vo 49 (.bin false .geq 3 (.t 48) (ci 0)),
 sg 44 49])
 (.cond (.t 44)
 (.seq
 (rg [4] [
 vo 4 (.asg (ci 6))])
 .ret)
 .skip)))))))
 (.seq
 (rg [4] [
 vo 4 (.asg (ci 0))])
 .ret)))
 modes:=[.lend,.lend]
 rets:=[⟨4,none⟩]}

def b57_0:VC:=
 (.seq
 (rg [0, 1, 7, 8, 9, 10] [
 vo 10 (.bin false .lss 3 (.t 9) (.t 8))])
 (.seq
 (.cond (.t 10)
 .skip
 (.exit 0))
 (.seq
 (.block 1
 (.seq
 (rg [0, 1, 5, 6, 7, 8, 9] [
 mv 11 9,
 vo 12 (.ia 24 34 2 (.t 7) (.t 9)),
 vo 13 (.load 34 true 2 (.t 12)),
 vo 6 (.alloc 34 [(.val (.string (⟨#[]⟩:ByteArray))),(.val (.int .i64 0))]),
 sg 5 11,
 vn (.store 34 2 (.t 6) (.t 13))])
 (.seq
 (.region true [0, 1, 7, 8, 9, 32] [
 vo 14 (.fa 34 0 0 1 (.t 6)),
 ld 15 9 14,
 vo 16 (.call 71 [(.t 15)]),
 vo 17 (.un .not (.t 16)),
 mv 18 17,
 og 19 (.fa 34 1 1 1 (.t 6)) 18 false,
 og 20 (.load 2 false 1 (.t 19)) 18 false,
 og 21 (.call 46 [(.t 20)]) 18 false,
 og 22 (.un .not (.t 21)) 18 false,
 vo 23 (.pick (.t 18) (.c (.bool true)) (.t 22)),
 mv 24 23,
 og 25 (.mov (.t 0)) 24 false,
 ⟨some 26,.mov (.t 5),some (24,false),[11]⟩,
 og 27 (.cut 24 (some 34) 2 (.t 25) none (some (.t 26))) 24 false,
 ⟨some 28,.fa 34 0 0 1 (.t 6),some (24,false),[11,12,13]⟩,
 ⟨some 29,.load 9 false 1 (.t 28),some (24,false),[11,12,13]⟩,
 og 30 (.call 47 [(.t 27),(.t 29)]) 24 false,
 og 31 (.bin false .geq 3 (.t 30) (ci 0)) 24 false,
 vo 32 (.pick (.t 24) (.c (.bool true)) (.t 31))])
 (.cond (.t 32)
 (.seq
 (rg [4] [
 vo 4 (.asg (.c (.bool false)))])
 .ret)
 .skip))))
 (rg [0, 1, 7, 8, 9] [
 vo 33 (.bin false .add 3 (.t 9) (ci 1)),
 mv 9 33]))))
def l57_0:VC:=.loop b57_0
/-- loop.example/g00539/impl.owedOk -/
def v57 : VFun := {
 code:=
 (.seq
 (rg [0, 1] [
 vo 4 (.asg (.c (.bool false)))])
 (.seq
 (.seq
 (rg [0, 1, 7, 8, 9] [
 mv 7 0,
 vo 8 (.len false 24 (.t 7)),
 vo 9 (.mov (ci 0))])
 (.block 0
 l57_0))
 (.seq
 (rg [4] [
 mv 34 0,
 vo 35 (.len false 24 (.t 34)),
 mv 36 1,
 vo 37 (.bin false .leq 3 (.t 35) (.t 36)),
 sg 4 37])
 .ret)))
 modes:=[.lend,.lend]
 rets:=[⟨4,none⟩]}

def b58_0:VC:=
 (.seq
 (rg [3, 6, 7, 8, 9] [
 vo 9 (.bin false .lss 3 (.t 8) (.t 7))])
 (.seq
 (.cond (.t 9)
 .skip
 (.exit 0))
 (.seq
 (.block 1
 (.seq
 (rg [3, 5, 6, 7, 8] [
 vo 10 (.ia 24 34 2 (.t 6) (.t 8)),
 vo 11 (.load 34 true 2 (.t 10)),
 vo 5 (.alloc 34 [(.val (.string (⟨#[]⟩:ByteArray))),(.val (.int .i64 0))]),
 vn (.store 34 2 (.t 5) (.t 11))])
 (rg [3, 6, 7, 8] [
 mv 12 3,
 vo 13 (.fa 34 1 1 1 (.t 5)),
 ld 14 2 13,
 vo 15 (.bin false .add 2 (.t 12) (.t 14)),
 sg 3 15])))
 (rg [3, 6, 7, 8] [
 vo 16 (.bin false .add 3 (.t 8) (ci 1)),
 mv 8 16]))))
def l58_0:VC:=.loop b58_0
/-- loop.example/g00539/impl.amounts -/
def v58 : VFun := {
 code:=
 (.seq
 (rg [0] [
 vo 2 (.asg (ci 0))])
 (.seq
 (rg [0, 3] [
 vo 3 (.asg (ci 0))])
 (.seq
 (.seq
 (rg [3, 6, 7, 8] [
 mv 6 0,
 vo 7 (.len false 24 (.t 6)),
 vo 8 (.mov (ci 0))])
 (.block 0
 l58_0))
 (.seq
 (rg [2] [
 mv 17 3,
 sg 2 17])
 .ret))))
 modes:=[.lend]
 rets:=[⟨2,none⟩]}

def b59_0:VC:=
 (.seq
 (rg [1, 5, 8, 9, 10, 11] [
 vo 11 (.bin false .lss 3 (.t 10) (.t 9))])
 (.seq
 (.cond (.t 11)
 .skip
 (.exit 0))
 (.seq
 (.block 1
 (.seq
 (rg [1, 5, 7, 8, 9, 10] [
 vo 12 (.ia 25 96 5 (.t 8) (.t 10)),
 vo 13 (.load 96 true 5 (.t 12)),
 vo 7 (.alloc 96 [(.val (.int .i64 0)),(.val (.int .i64 0)),(.val (.int .i64 0)),(.nl 2),(.val (.int .i64 0))]),
 vn (.store 96 5 (.t 7) (.t 13))])
 (.seq
 (rg [1, 5, 7, 8, 9, 10, 21] [
 mv 14 1,
 vo 15 (.bin false .eql 2 (.t 14) (ci 0)),
 mv 16 15,
 og 17 (.fa 96 4 4 1 (.t 7)) 16 false,
 og 18 (.load 2 false 1 (.t 17)) 16 false,
 og 19 (.mov (.t 1)) 16 false,
 og 20 (.bin false .eql 2 (.t 18) (.t 19)) 16 false,
 vo 21 (.pick (.t 16) (.c (.bool true)) (.t 20))])
 (.cond (.t 21)
 (rg [1, 5, 8, 9, 10] [
 mv 22 5,
 vo 23 (.fa 96 1 1 1 (.t 7)),
 ld 24 2 23,
 vo 25 (.bin false .add 2 (.t 22) (.t 24)),
 sg 5 25])
 .skip))))
 (rg [1, 5, 8, 9, 10] [
 vo 26 (.bin false .add 3 (.t 10) (ci 1)),
 mv 10 26]))))
def l59_0:VC:=.loop b59_0
/-- loop.example/g00539/impl.totals -/
def v59 : VFun := {
 code:=
 (.seq
 (rg [0, 1] [
 vo 4 (.asg (ci 0))])
 (.seq
 (rg [0, 1, 5] [
 vo 5 (.asg (ci 0))])
 (.seq
 (.seq
 (rg [1, 5, 8, 9, 10] [
 mv 8 0,
 vo 9 (.len false 25 (.t 8)),
 vo 10 (.mov (ci 0))])
 (.block 0
 l59_0))
 (.seq
 (rg [4] [
 mv 27 5,
 sg 4 27])
 .ret))))
 modes:=[.lend,.lend]
 rets:=[⟨4,none⟩]}

def b60_0:VC:=
 (.seq
 (.seq
 (rg [0, 1, 5, 9] [
 mv 6 5,
 mv 7 0,
 vo 8 (.len false 24 (.t 7)),
 vo 9 (.bin false .lss 3 (.t 6) (.t 8))])
 (.cond (.t 9)
 .skip
 (.exit 0)))
 (.seq
 (.block 1
 (.seq
 (rg [0, 1, 5, 18] [
 mv 12 0,
 mv 13 5,
 vo 14 (.ia 24 34 2 (.t 12) (.t 13)),
 vo 15 (.fa 34 0 0 1 (.t 14)),
 ld 16 9 15,
 mv 17 1,
 vo 18 (.bin false .eql 9 (.t 16) (.t 17))])
 (.cond (.t 18)
 (.seq
 (rg [4] [
 mv 19 5,
 sg 4 19])
 .ret)
 .skip)))
 (rg [0, 1, 5] [
 mv 10 5,
 vo 11 (.bin false .add 3 (.t 10) (ci 1)),
 sg 5 11])))
def l60_0:VC:=.loop b60_0
/-- loop.example/g00539/spec.l13At -/
def v60 : VFun := {
 code:=
 (.seq
 (rg [0, 1] [
 vo 4 (.asg (ci 0))])
 (.seq
 (.seq
 (rg [0, 1, 5] [
 vo 5 (.asg (ci 0))])
 (.block 0
 l60_0))
 (.seq
 (rg [4] [
 vo 4 (.asg (ci ((-1))))])
 .ret)))
 modes:=[.lend,.lend]
 rets:=[⟨4,none⟩]}

/-- loop.example/g00539/spec.l14Pay -/
def v61 : VFun := {
 code:=
 (.seq
 (rg [1, 2, 3, 6] [
 vo 3 (.box 27 (.t 0)),
 vo 6 (.alloc 31 [(.val (.int .i64 0)),(.val (.int .i64 0)),(.val (.int .i64 0)),(.val (.int .i64 0)),(.nl 2),(.nl 5),(.nl 2),(.val (.int .i64 0)),(.val (.int .i64 0)),(.val (.int .i64 0))])])
 (.seq
 (rg [2, 3, 6, 7] [
 vo 9 (.fa 27 4 4 1 (.t 3)),
 ld 10 24 9,
 mv 11 1,
 vo 12 (.call 60 [(.t 10),(.t 11)]),
 sg 7 12])
 (.seq
 (.seq
 (rg [2, 3, 6, 7, 23] [
 mv 13 7,
 vo 14 (.bin false .lss 3 (.t 13) (ci 0)),
 mv 15 14,
 og 16 (.fa 27 4 4 1 (.t 3)) 15 false,
 og 17 (.load 24 false 1 (.t 16)) 15 false,
 og 18 (.mov (.t 7)) 15 false,
 og 19 (.ia 24 34 2 (.t 17) (.t 18)) 15 false,
 og 20 (.fa 34 1 1 1 (.t 19)) 15 false,
 og 21 (.load 2 false 1 (.t 20)) 15 false,
 og 22 (.bin false .eql 2 (.t 21) (ci 0)) 15 false,
 vo 23 (.pick (.t 15) (.c (.bool true)) (.t 22))])
 (.cond (.t 23)
 (.seq
 (rg [6] [
 vo 24 (.call 52 [(ci 4)]),
 vn (.store 31 10 (.t 6) (.t 24))])
 .ret)
 .skip))
 (.seq
 (.seq
 (rg [2, 3, 6, 7, 33] [
 mv 25 2,
 vo 26 (.fa 27 4 4 1 (.t 3)),
 ld 27 24 26,
 mv 28 7,
 vo 29 (.ia 24 34 2 (.t 27) (.t 28)),
 vo 30 (.fa 34 1 1 1 (.t 29)),
 ld 31 2 30,
 vo 32 (.call 105 [(.t 25),(ci 1),(.t 31)]),
 vo 33 (.un .not (.t 32))])
 (.cond (.t 33)
 (.seq
 (rg [6] [
 vo 34 (.call 52 [(ci 3)]),
 vn (.store 31 10 (.t 6) (.t 34))])
 .ret)
 .skip))
 (.seq
 (.seq
 (rg [2, 3, 6, 7, 40] [
 vo 35 (.fa 27 5 5 1 (.t 3)),
 ld 36 2 35,
 mv 37 2,
 vo 38 (.bin false .add 2 (.t 36) (.t 37)),
 vo 39 (.call 101 [(.t 38)]),
 vo 40 (.un .not (.t 39))])
 (.cond (.t 40)
 (.seq
 (rg [6] [
 vo 41 (.call 52 [(ci 7)]),
 vn (.store 31 10 (.t 6) (.t 41))])
 .ret)
 .skip))
 (.seq
 (rg [2, 3, 6, 7, 8] [
 vo 42 (.load 27 true 8 (.t 3)),
 vo 43 (.call 103 [(.t 42)]),
 vo 8 (.alloc 27 [(.val (.int .i64 0)),(.val (.int .i64 0)),(.nl 2),(.nl 5),(.nl 2),(.val (.int .i64 0)),(.val (.int .i64 0)),(.val (.int .i64 0))]),
 vn (.store 27 8 (.t 8) (.t 43))])
 (.seq
 (.region true [2, 3, 6, 8] [
 vo 44 (.fa 27 4 4 1 (.t 8)),
 ld 45 24 44,
 ⟨some 46,.mov (.t 7),none,[0,1]⟩,
 ⟨some 47,.fa 27 4 4 1 (.t 3),none,[0,1,2]⟩,
 ⟨some 48,.load 24 false 1 (.t 47),none,[0,1,2]⟩,
 ⟨some 49,.mov (.t 7),none,[0,1,2,3,4]⟩,
 ⟨some 50,.ia 24 34 2 (.t 48) (.t 49),none,[0,1,2]⟩,
 ⟨some 51,.fa 34 1 1 1 (.t 50),none,[0,1,2]⟩,
 ⟨some 52,.load 2 false 1 (.t 51),none,[0,1,2]⟩,
 ⟨some 53,.mov (.t 2),none,[0,1,2,3,4,5,6,7,8]⟩,
 ⟨some 54,.bin false .sub 2 (.t 52) (.t 53),none,[0,1,2]⟩,
 vo 55 (.ia 24 34 2 (.t 45) (.t 46)),
 vo 56 (.fa 34 1 1 1 (.t 55)),
 vn (.store 2 1 (.t 56) (.t 54))])
 (.seq
 (rg [6, 8] [
 vo 57 (.fa 27 5 5 1 (.t 3)),
 ld 58 2 57,
 mv 59 2,
 vo 60 (.bin false .add 2 (.t 58) (.t 59)),
 vo 61 (.fa 27 5 5 1 (.t 8)),
 vn (.store 2 1 (.t 61) (.t 60))])
 (.seq
 (rg [6] [
 vo 62 (.load 27 true 8 (.t 8)),
 vo 63 (.build 31 [(.val (.int .i64 0)),(.val (.int .i64 0)),(.val (.int .i64 0)),(.val (.int .i64 0)),(.nl 2),(.nl 5),(.nl 2),(.val (.int .i64 0)),(.val (.int .i64 0)),(.val (.int .i64 0))] [(2,2,8,(.t 62))]),
 vn (.store 31 10 (.t 6) (.t 63))])
 .ret)))))))))
 modes:=[.lend,.lend,.lend]
 rets:=[⟨6,some (true,10)⟩]}

/-- loop.example/g00539/impl.workerOk -/
def v71 : VFun := {
 code:=
 (.seq
 (rg [0] [
 vo 2 (.asg (.c (.bool false)))])
 (.seq
 (rg [2] [
 mv 3 0,
 vo 4 (.bin false .neq 9 (.t 3) (.c (.string (⟨#[]⟩:ByteArray)))),
 mv 5 4,
 og 6 (.mov (.t 0)) 5 true,
 og 7 (.call 119 [(.t 6)]) 5 true,
 vo 8 (.pick (.t 5) (.t 7) (.c (.bool false))),
 sg 2 8])
 .ret))
 modes:=[.lend]
 rets:=[⟨2,none⟩]}

/-- loop.example/g00539/impl.isSum -/
def v72 : VFun := {
 code:=
 (.seq
 (rg [0] [
 vo 2 (.asg (.c (.bool false)))])
 (.seq
 (rg [2] [
 mv 3 0,
 vo 4 (.call 45 [(.t 3),(ci 0),(ci 2147483646)]),
 sg 2 4])
 .ret))
 modes:=[.lend]
 rets:=[⟨2,none⟩]}

/-- loop.example/g00539/spec.l14Ripen -/
def v78 : VFun := {
 code:=
 (.seq
 (rg [1, 2, 4] [
 vo 2 (.box 27 (.t 0)),
 vo 4 (.alloc 31 [(.val (.int .i64 0)),(.val (.int .i64 0)),(.val (.int .i64 0)),(.val (.int .i64 0)),(.nl 2),(.nl 5),(.nl 2),(.val (.int .i64 0)),(.val (.int .i64 0)),(.val (.int .i64 0))])])
 (.seq
 (rg [2, 4, 5] [
 vo 10 (.fa 27 3 3 1 (.t 2)),
 ld 11 25 10,
 mv 12 1,
 vo 13 (.call 124 [(.t 11),(.t 12)]),
 sg 5 13])
 (.seq
 (.seq
 (rg [2, 4, 5, 15] [
 mv 14 5,
 vo 15 (.bin false .lss 3 (.t 14) (ci 0))])
 (.cond (.t 15)
 (.seq
 (rg [4] [
 vo 16 (.call 52 [(ci 4)]),
 vn (.store 31 10 (.t 4) (.t 16))])
 .ret)
 .skip))
 (.seq
 (rg [2, 4, 5, 6] [
 vo 17 (.fa 27 3 3 1 (.t 2)),
 ld 18 25 17,
 mv 19 5,
 vo 20 (.ia 25 96 5 (.t 18) (.t 19)),
 sg 6 20])
 (.seq
 (.seq
 (rg [2, 4, 5, 6, 25] [
 mv 21 6,
 vo 22 (.nilc (.t 21)),
 vo 23 (.fa 96 4 4 1 (.t 22)),
 ld 24 2 23,
 vo 25 (.bin false .neq 2 (.t 24) (ci 1))])
 (.cond (.t 25)
 (.seq
 (rg [4] [
 vo 26 (.call 52 [(ci 9)]),
 vn (.store 31 10 (.t 4) (.t 26))])
 .ret)
 .skip))
 (.seq
 (.region true [2, 4, 5, 6, 7, 8, 34] [
 vo 28 (.fa 27 4 4 1 (.t 2)),
 ld 29 24 28,
 ⟨some 30,.mov (.t 6),none,[0,1]⟩,
 ⟨some 31,.nilc (.t 30),none,[0,1]⟩,
 ⟨some 32,.fa 96 3 3 1 (.t 31),none,[0,1]⟩,
 ⟨some 33,.load 24 false 1 (.t 32),none,[0,1]⟩,
 vo 34 (.call 125 [(.t 29),(.t 33)]),
 mv 27 34,
 vo 35 (.ext (.t 27) 0),
 ⟨some 36,.ext (.t 27) 1,none,[8]⟩,
 ⟨some 7,.asg (.t 35),none,[9]⟩,
 sg 8 36])
 (.seq
 (.seq
 (rg [2, 4, 5, 6, 7, 8, 34, 38] [
 mv 37 8,
 vo 38 (.bin false .neq 2 (.t 37) (ci 0))])
 (.cond (.t 38)
 (.seq
 (rg [4] [
 mv 39 8,
 vo 40 (.call 52 [(.t 39)]),
 vn (.store 31 10 (.t 4) (.t 40))])
 .ret)
 .skip))
 (.seq
 (.seq
 (.region true [2, 4, 5, 6, 7, 34, 49] [
 vo 41 (.fa 27 6 6 1 (.t 2)),
 ld 42 2 41,
 ⟨some 43,.mov (.t 6),none,[0,1]⟩,
 ⟨some 44,.nilc (.t 43),none,[0,1]⟩,
 ⟨some 45,.fa 96 2 2 1 (.t 44),none,[0,1]⟩,
 ⟨some 46,.load 2 false 1 (.t 45),none,[0,1]⟩,
 vo 47 (.bin false .add 2 (.t 42) (.t 46)),
 vo 48 (.call 101 [(.t 47)]),
 vo 49 (.un .not (.t 48))])
 (.cond (.t 49)
 (.seq
 (rg [4] [
 vo 50 (.call 52 [(ci 7)]),
 vn (.store 31 10 (.t 4) (.t 50))])
 .ret)
 .skip))
 (.seq
 (rg [2, 4, 5, 6, 7, 9, 34] [
 vo 51 (.load 27 true 8 (.t 2)),
 vo 52 (.call 103 [(.t 51)]),
 vo 9 (.alloc 27 [(.val (.int .i64 0)),(.val (.int .i64 0)),(.nl 2),(.nl 5),(.nl 2),(.val (.int .i64 0)),(.val (.int .i64 0)),(.val (.int .i64 0))]),
 vn (.store 27 8 (.t 9) (.t 52))])
 (.seq
 (rg [2, 4, 6, 7, 9, 34] [
 vo 53 (.fa 27 3 3 1 (.t 9)),
 ld 54 25 53,
 mv 55 5,
 vo 56 (.ia 25 96 5 (.t 54) (.t 55)),
 vo 57 (.fa 96 4 4 1 (.t 56)),
 vn (.store 2 1 (.t 57) (ci 2))])
 (.seq
 (.region true [4, 7, 9, 34] [
 vo 58 (.fa 27 6 6 1 (.t 2)),
 ld 59 2 58,
 ⟨some 60,.mov (.t 6),none,[0,1]⟩,
 ⟨some 61,.nilc (.t 60),none,[0,1]⟩,
 ⟨some 62,.fa 96 2 2 1 (.t 61),none,[0,1]⟩,
 ⟨some 63,.load 2 false 1 (.t 62),none,[0,1]⟩,
 vo 64 (.bin false .add 2 (.t 59) (.t 63)),
 vo 65 (.fa 27 6 6 1 (.t 9)),
 vn (.store 2 1 (.t 65) (.t 64))])
 (.seq
 (rg [4, 9] [
 mv 66 7,
 vo 67 (.fa 27 4 4 1 (.t 9)),
 vn (.store 24 1 (.t 67) (.t 66))])
 (.seq
 (rg [4] [
 vo 68 (.load 27 true 8 (.t 9)),
 vo 69 (.build 31 [(.val (.int .i64 0)),(.val (.int .i64 0)),(.val (.int .i64 0)),(.val (.int .i64 0)),(.nl 2),(.nl 5),(.nl 2),(.val (.int .i64 0)),(.val (.int .i64 0)),(.val (.int .i64 0))] [(2,2,8,(.t 68))]),
 vn (.store 31 10 (.t 4) (.t 69))])
 .ret)))))))))))))
 modes:=[.lend,.lend]
 rets:=[⟨4,some (true,10)⟩]}

/-- loop.example/g00539/impl.rewardAt -/
def v82 : VFun := {
 code:=
 (.seq
 (rg [0, 3] [
 vo 3 (.box 2 (.t 1)),
 vo 4 (.asg (ci 0))])
 (.seq
 (rg [4] [
 mv 5 0,
 vo 6 (.fn 129 [] [(.t 3)]),
 vo 7 (.call 128 [(.t 5),(.t 6)]),
 sg 4 7])
 .ret))
 modes:=[.lend,.lend]
 rets:=[⟨4,none⟩]}

def b89_0:VC:=
 (.seq
 (.seq
 (rg [0, 2, 3, 4, 15] [
 mv 14 4,
 vo 15 (.bin false .gtr 2 (.t 14) (ci 0))])
 (.cond (.t 15)
 .skip
 (.exit 0)))
 (.seq
 (.block 1
 (rg [0, 2, 3, 4] [
 mv 18 0,
 vo 19 (.load 27 true 8 (.t 3)),
 vo 20 (.call 135 [(.t 18),(.t 19)]),
 vn (.store 27 8 (.t 3) (.t 20))]))
 (rg [0, 2, 3, 4] [
 mv 16 4,
 vo 17 (.bin false .sub 2 (.t 16) (ci 1)),
 sg 4 17])))
def l89_0:VC:=.loop b89_0
/-- loop.example/g00539/spec.l14Draw -/
def v89 : VFun := {
 code:=
 (.seq
 (rg [0, 2] [
 vo 2 (.alloc 27 [(.val (.int .i64 0)),(.val (.int .i64 0)),(.nl 2),(.nl 5),(.nl 2),(.val (.int .i64 0)),(.val (.int .i64 0)),(.val (.int .i64 0))])])
 (.seq
 (rg [0, 2, 3] [
 mv 5 0,
 vo 6 (.lit 132 2 1 3 [(.val (.int .i64 0))] [(0,(ci 1)),(1,(ci 4)),(2,(ci 12))]),
 vo 7 (.call 41 [(.t 5),(.t 6)]),
 mv 8 0,
 vo 9 (.lit 132 2 1 4 [(.val (.int .i64 0))] [(0,(ci 0)),(1,(ci 10)),(2,(ci 333)),(3,(ci 1000))]),
 vo 10 (.call 41 [(.t 8),(.t 9)]),
 vo 11 (.build 27 [(.val (.int .i64 0)),(.val (.int .i64 0)),(.nl 2),(.nl 5),(.nl 2),(.val (.int .i64 0)),(.val (.int .i64 0)),(.val (.int .i64 0))] [(0,0,1,(.t 7)),(1,1,1,(.t 10))]),
 vo 3 (.alloc 27 [(.val (.int .i64 0)),(.val (.int .i64 0)),(.nl 2),(.nl 5),(.nl 2),(.val (.int .i64 0)),(.val (.int .i64 0)),(.val (.int .i64 0))]),
 vn (.store 27 8 (.t 3) (.t 11))])
 (.seq
 (.seq
 (rg [0, 2, 3, 4] [
 mv 12 0,
 vo 13 (.call 48 [(.t 12),(ci 20)]),
 sg 4 13])
 (.block 0
 l89_0))
 (.seq
 (rg [0, 2] [
 vo 21 (.load 27 true 8 (.t 3)),
 vn (.store 27 8 (.t 2) (.t 21))])
 .ret))))
 modes:=[.io]
 rets:=[⟨2,some (true,8)⟩]}

/-- loop.example/g00539/spec.l13Bent -/
def v90 : VFun := {
 code:=
 (.seq
 (rg [0] [
 vo 2 (.asg (.n 2))])
 (.seq
 (rg [0, 3, 5, 21, 24] [
 mv 4 0,
 vo 5 (.call 136 [(.t 4)]),
 sg 3 5])
 (.seq
 (.seq
 (rg [0, 3, 5, 7, 21, 24] [
 mv 6 0,
 vo 7 (.call 48 [(.t 6),(ci 12)])])
 (.block 0
 (.seq
 (rg [0, 3, 5, 7, 8, 21, 24] [
 vo 9 (.bin false .eql 2 (.t 7) (ci 0)),
 sg 8 9])
 (.cond (.t 8)
 (.region true [0, 3, 5, 21, 24] [
 mv 10 3,
 ⟨some 11,.lit 87 9 1 3 [(.val (.string (⟨#[]⟩:ByteArray)))] [(0,(.c (.string (⟨#[]⟩:ByteArray)))),(1,(.c (.string (⟨#[97,32,98]⟩:ByteArray)))),(2,(.c (.string (⟨#[111,107]⟩:ByteArray))))],none,[0]⟩,
 ⟨some 12,.mov (.t 0),none,[0,1]⟩,
 ⟨some 13,.call 48 [(.t 12),(ci 3)],none,[0,1]⟩,
 ⟨some 14,.ia 87 9 1 (.t 11) (.t 13),none,[0]⟩,
 ⟨some 15,.load 9 false 1 (.t 14),none,[0]⟩,
 ⟨some 16,.mov (.t 0),none,[0,1,2,3,4,5]⟩,
 ⟨some 17,.lit 132 2 1 3 [(.val (.int .i64 0))] [(0,(ci 0)),(1,(ci 1)),(2,(ci 10000))],none,[0,1,2,3,4,5,6]⟩,
 ⟨some 18,.call 41 [(.t 16),(.t 17)],none,[0,1,4,5]⟩,
 ⟨some 19,.build 34 [(.val (.string (⟨#[]⟩:ByteArray))),(.val (.int .i64 0))] [(0,0,1,(.t 15)),(1,1,1,(.t 18))],none,[0]⟩,
 ⟨some 20,.lit 24 34 2 1 [(.val (.string (⟨#[]⟩:ByteArray))),(.val (.int .i64 0))] [(0,(.t 19))],none,[0]⟩,
 vo 21 (.app 24 34 2 24 (.t 10) (.t 20)),
 sg 3 21])
 (.seq
 (rg [0, 3, 5, 21, 22, 24] [
 vo 23 (.bin false .eql 2 (.t 7) (ci 1)),
 sg 22 23])
 (.cond (.t 22)
 (rg [0, 3, 5, 21, 24] [
 vo 24 (.mk 24 34 2 24 [(.val (.string (⟨#[]⟩:ByteArray))),(.val (.int .i64 0))] (ci 13) (ci 13)),
 sg 3 24])
 .skip))))))
 (.seq
 (rg [0, 2, 3, 5, 21, 24] [
 mv 25 3,
 sg 2 25])
 .ret))))
 modes:=[.io]
 rets:=[⟨2,none⟩]}

def b91_0:VC:=
 (.seq
 (rg [1, 2, 3, 14, 16, 17, 18, 19, 29] [
 vo 19 (.bin false .lss 3 (.t 18) (.t 17))])
 (.seq
 (.cond (.t 19)
 .skip
 (.exit 0))
 (.seq
 (.block 1
 (.seq
 (rg [1, 2, 3, 5, 14, 16, 17, 18, 29] [
 vo 20 (.ia 25 96 5 (.t 16) (.t 18)),
 vo 21 (.load 96 true 5 (.t 20)),
 vo 5 (.alloc 96 [(.val (.int .i64 0)),(.val (.int .i64 0)),(.val (.int .i64 0)),(.nl 2),(.val (.int .i64 0))]),
 vn (.store 96 5 (.t 5) (.t 21))])
 (.seq
 (rg [1, 2, 3, 5, 14, 16, 17, 18, 29] [
 vo 22 (.fa 96 3 3 1 (.t 5)),
 ld 23 24 22,
 vo 24 (.call 94 [(.t 23)]),
 vo 25 (.fa 96 3 3 1 (.t 5)),
 vn (.store 24 1 (.t 25) (.t 24))])
 (rg [1, 2, 3, 14, 16, 17, 18, 29] [
 mv 26 3,
 vo 27 (.load 96 true 5 (.t 5)),
 vo 28 (.lit 25 96 5 1 [(.val (.int .i64 0)),(.val (.int .i64 0)),(.val (.int .i64 0)),(.nl 2),(.val (.int .i64 0))] [(0,(.t 27))]),
 vo 29 (.app 25 96 5 56 (.t 26) (.t 28)),
 sg 3 29]))))
 (rg [1, 2, 3, 14, 16, 17, 18, 29] [
 vo 30 (.bin false .add 3 (.t 18) (ci 1)),
 mv 18 30]))))
def l91_0:VC:=.loop b91_0
/-- loop.example/g00539/impl.cloneLedger -/
def v91 : VFun := {
 code:=
 (.seq
 (rg [1, 2] [
 vo 1 (.box 27 (.t 0)),
 vo 2 (.alloc 27 [(.val (.int .i64 0)),(.val (.int .i64 0)),(.nl 2),(.nl 5),(.nl 2),(.val (.int .i64 0)),(.val (.int .i64 0)),(.val (.int .i64 0))])])
 (.seq
 (.region true [1, 2] [
 vo 6 (.fa 27 2 2 1 (.t 1)),
 ld 7 24 6,
 vo 8 (.call 94 [(.t 7)]),
 ⟨some 9,.fa 27 4 4 1 (.t 1),none,[0,1,2]⟩,
 ⟨some 10,.load 24 false 1 (.t 9),none,[0,1,2]⟩,
 vo 11 (.call 94 [(.t 10)]),
 ⟨some 12,.fa 27 2 2 1 (.t 1),none,[5]⟩,
 vn (.store 24 1 (.t 12) (.t 8)),
 vo 13 (.fa 27 4 4 1 (.t 1)),
 vn (.store 24 1 (.t 13) (.t 11))])
 (.seq
 (rg [1, 2, 3, 14, 29] [
 vo 14 (.lit 25 96 5 0 [(.val (.int .i64 0)),(.val (.int .i64 0)),(.val (.int .i64 0)),(.nl 2),(.val (.int .i64 0))] []),
 sg 3 14])
 (.seq
 (.seq
 (rg [1, 2, 3, 14, 16, 17, 18, 29] [
 vo 15 (.fa 27 3 3 1 (.t 1)),
 ld 16 25 15,
 vo 17 (.len false 25 (.t 16)),
 vo 18 (.mov (ci 0))])
 (.block 0
 l91_0))
 (.seq
 (rg [1, 2] [
 mv 31 3,
 vo 32 (.fa 27 3 3 1 (.t 1)),
 vn (.store 25 1 (.t 32) (.t 31))])
 (.seq
 (rg [2] [
 vo 33 (.load 27 true 8 (.t 1)),
 vn (.store 27 8 (.t 2) (.t 33))])
 .ret))))))
 modes:=[.lend]
 rets:=[⟨2,some (true,8)⟩]}

def b92_0:VC:=
 (.seq
 (rg [0, 1, 7, 8, 9] [
 vo 9 (.bin false .lss 3 (.t 8) (.t 7))])
 (.seq
 (.cond (.t 9)
 .skip
 (.exit 0))
 (.seq
 (.block 1
 (.seq
 (rg [0, 1, 5, 7, 8] [
 mv 10 8,
 sg 5 10])
 (.seq
 (rg [0, 1, 5, 7, 8, 16] [
 mv 11 1,
 mv 12 0,
 mv 13 5,
 vo 14 (.ia 24 34 2 (.t 12) (.t 13)),
 vo 15 (.load 34 true 2 (.t 14)),
 vo 16 (.callv (.t 11) [(.t 15)])])
 (.cond (.t 16)
 (.seq
 (rg [4] [
 mv 17 5,
 sg 4 17])
 .ret)
 .skip))))
 (rg [0, 1, 7, 8] [
 vo 18 (.bin false .add 3 (.t 8) (ci 1)),
 mv 8 18]))))
def l92_0:VC:=.loop b92_0
/-- slices.IndexFunc[[]loop.example/g00539/impl.Weight,loop.example/g00539/impl.Weight] -/
def v92 : VFun := {
 code:=
 (.seq
 (rg [0, 1] [
 vo 4 (.asg (ci 0))])
 (.seq
 (.seq
 (rg [0, 1, 7, 8] [
 mv 6 0,
 vo 7 (.len false 24 (.t 6)),
 vo 8 (.mov (ci 0))])
 (.block 0
 l92_0))
 (.seq
 (rg [4] [
 vo 4 (.asg (ci ((-1))))])
 .ret)))
 modes:=[.lend,.lend]
 rets:=[⟨4,none⟩]}

/-- loop.example/g00539/impl.weightAt$1 -/
def v93 : VFun := {
 code:=
 (.seq
 (rg [1, 2] [
 vo 2 (.box 34 (.t 0)),
 vo 3 (.asg (.c (.bool false)))])
 (.seq
 (rg [3] [
 vo 4 (.fa 34 0 0 1 (.t 2)),
 ld 5 9 4,
 ld 6 9 1,
 vo 7 (.bin false .eql 9 (.t 5) (.t 6)),
 sg 3 7])
 .ret))
 modes:=[.lend,.lend]
 rets:=[⟨3,none⟩]}

/-- loop.example/g00539/spec.l14Ranges -/
def v95 : VFun := {
 code:=
 (.seq
 (rg [0] [
 vo 2 (.asg (.c (.bool false)))])
 (.seq
 (rg [2] [
 mv 3 0,
 vo 4 (.nilc (.t 3)),
 vo 5 (.fa 27 0 0 1 (.t 4)),
 ld 6 2 5,
 vo 7 (.call 105 [(.t 6),(ci 1),(ci 12)]),
 mv 8 7,
 og 9 (.mov (.t 0)) 8 true,
 og 10 (.nilc (.t 9)) 8 true,
 og 11 (.fa 27 1 1 1 (.t 10)) 8 true,
 og 12 (.load 2 false 1 (.t 11)) 8 true,
 og 13 (.call 105 [(.t 12),(ci 0),(ci 1000)]) 8 true,
 vo 14 (.pick (.t 8) (.t 13) (.c (.bool false))),
 mv 15 14,
 og 16 (.mov (.t 0)) 15 true,
 og 17 (.nilc (.t 16)) 15 true,
 og 18 (.fa 27 5 5 1 (.t 17)) 15 true,
 og 19 (.load 2 false 1 (.t 18)) 15 true,
 og 20 (.call 101 [(.t 19)]) 15 true,
 vo 21 (.pick (.t 15) (.t 20) (.c (.bool false))),
 mv 22 21,
 og 23 (.mov (.t 0)) 22 true,
 og 24 (.nilc (.t 23)) 22 true,
 og 25 (.fa 27 6 6 1 (.t 24)) 22 true,
 og 26 (.load 2 false 1 (.t 25)) 22 true,
 og 27 (.call 101 [(.t 26)]) 22 true,
 vo 28 (.pick (.t 22) (.t 27) (.c (.bool false))),
 mv 29 28,
 og 30 (.mov (.t 0)) 29 true,
 og 31 (.nilc (.t 30)) 29 true,
 og 32 (.fa 27 7 7 1 (.t 31)) 29 true,
 og 33 (.load 2 false 1 (.t 32)) 29 true,
 og 34 (.call 101 [(.t 33)]) 29 true,
 vo 35 (.pick (.t 29) (.t 34) (.c (.bool false))),
 sg 2 35])
 .ret))
 modes:=[.lend]
 rets:=[⟨2,none⟩]}

def b96_0:VC:=
 (.seq
 (.seq
 (rg [0, 3, 11] [
 mv 8 3,
 mv 9 0,
 vo 10 (.len false 24 (.t 9)),
 vo 11 (.bin false .lss 3 (.t 8) (.t 10))])
 (.cond (.t 11)
 .skip
 (.exit 0)))
 (.seq
 (.block 1
 (.seq
 (rg [0, 3, 4] [
 mv 14 0,
 mv 15 3,
 vo 16 (.ia 24 34 2 (.t 14) (.t 15)),
 vo 17 (.call 102 [(.t 16)]),
 sg 4 17])
 (.seq
 (rg [0, 3, 4, 19] [
 mv 18 4,
 vo 19 (.bin false .neq 2 (.t 18) (ci 0))])
 (.cond (.t 19)
 (.seq
 (rg [2] [
 mv 20 4,
 sg 2 20])
 .ret)
 .skip))))
 (rg [0, 3] [
 mv 12 3,
 vo 13 (.bin false .add 3 (.t 12) (ci 1)),
 sg 3 13])))
def l96_0:VC:=.loop b96_0
/-- loop.example/g00539/spec.l13Fault -/
def v96 : VFun := {
 code:=
 (.seq
 (rg [0] [
 vo 2 (.asg (ci 0))])
 (.seq
 (.seq
 (rg [0, 7] [
 mv 5 0,
 vo 6 (.len false 24 (.t 5)),
 vo 7 (.bin false .gtr 3 (.t 6) (ci 12))])
 (.cond (.t 7)
 (.seq
 (rg [2] [
 vo 2 (.asg (ci 2))])
 .ret)
 .skip))
 (.seq
 (.seq
 (rg [0, 3] [
 vo 3 (.asg (ci 0))])
 (.block 0
 l96_0))
 (.seq
 (rg [2] [
 vo 2 (.asg (ci 0))])
 .ret))))
 modes:=[.lend]
 rets:=[⟨2,none⟩]}

/-- loop.example/g00539/spec.l14Reward -/
def v97 : VFun := {
 code:=
 (.seq
 (rg [0, 1] [
 vo 4 (.asg (ci 0))])
 (.seq
 (rg [0, 1, 5] [
 mv 6 0,
 mv 7 1,
 vo 8 (.ia 25 96 5 (.t 6) (.t 7)),
 sg 5 8])
 (.seq
 (.seq
 (rg [0, 1, 5, 38] [
 mv 9 5,
 vo 10 (.nilc (.t 9)),
 vo 11 (.fa 96 0 0 1 (.t 10)),
 ld 12 2 11,
 vo 13 (.call 116 [(.t 12)]),
 vo 14 (.un .not (.t 13)),
 mv 15 14,
 og 16 (.mov (.t 5)) 15 false,
 og 17 (.nilc (.t 16)) 15 false,
 og 18 (.fa 96 1 1 1 (.t 17)) 15 false,
 og 19 (.load 2 false 1 (.t 18)) 15 false,
 og 20 (.call 101 [(.t 19)]) 15 false,
 og 21 (.un .not (.t 20)) 15 false,
 vo 22 (.pick (.t 15) (.c (.bool true)) (.t 21)),
 mv 23 22,
 og 24 (.mov (.t 5)) 23 false,
 og 25 (.nilc (.t 24)) 23 false,
 og 26 (.fa 96 2 2 1 (.t 25)) 23 false,
 og 27 (.load 2 false 1 (.t 26)) 23 false,
 og 28 (.call 101 [(.t 27)]) 23 false,
 og 29 (.un .not (.t 28)) 23 false,
 vo 30 (.pick (.t 23) (.c (.bool true)) (.t 29)),
 mv 31 30,
 og 32 (.mov (.t 5)) 31 false,
 og 33 (.nilc (.t 32)) 31 false,
 og 34 (.fa 96 4 4 1 (.t 33)) 31 false,
 og 35 (.load 2 false 1 (.t 34)) 31 false,
 og 36 (.call 105 [(.t 35),(ci 1),(ci 3)]) 31 false,
 og 37 (.un .not (.t 36)) 31 false,
 vo 38 (.pick (.t 31) (.c (.bool true)) (.t 37))])
 (.cond (.t 38)
 (.seq
 (rg [4] [
 vo 4 (.asg (ci 3))])
 .ret)
 .skip))
 (.seq
 (.seq
 (.region true [0, 1, 5, 69] [
 mv 39 5,
 vo 40 (.nilc (.t 39)),
 vo 41 (.fa 96 3 3 1 (.t 40)),
 ld 42 24 41,
 vo 43 (.len false 24 (.t 42)),
 vo 44 (.bin false .gtr 3 (.t 43) (ci 12)),
 mv 45 44,
 og 46 (.mov (.t 5)) 45 false,
 og 47 (.nilc (.t 46)) 45 false,
 og 48 (.fa 96 3 3 1 (.t 47)) 45 false,
 og 49 (.load 24 false 1 (.t 48)) 45 false,
 og 50 (.call 98 [(.t 49)]) 45 false,
 og 51 (.un .not (.t 50)) 45 false,
 vo 52 (.pick (.t 45) (.c (.bool true)) (.t 51)),
 mv 53 52,
 og 54 (.mov (.t 5)) 53 false,
 og 55 (.nilc (.t 54)) 53 false,
 og 56 (.fa 96 3 3 1 (.t 55)) 53 false,
 og 57 (.load 24 false 1 (.t 56)) 53 false,
 og 58 (.call 99 [(.t 57)]) 53 false,
 ⟨some 59,.mov (.t 5),some (53,false),[15,16,17,18,19]⟩,
 ⟨some 60,.nilc (.t 59),some (53,false),[15,16,17,18,19]⟩,
 ⟨some 61,.fa 96 2 2 1 (.t 60),some (53,false),[15,16,17,18,19]⟩,
 ⟨some 62,.load 2 false 1 (.t 61),some (53,false),[15,16,17,18,19]⟩,
 og 63 (.bin false .add 2 (.t 58) (.t 62)) 53 false,
 ⟨some 64,.mov (.t 5),some (53,false),[15,16,17,18,19,20,21,22,23,24]⟩,
 ⟨some 65,.nilc (.t 64),some (53,false),[15,16,17,18,19,20,21,22,23,24]⟩,
 ⟨some 66,.fa 96 1 1 1 (.t 65),some (53,false),[15,16,17,18,19,20,21,22,23,24]⟩,
 ⟨some 67,.load 2 false 1 (.t 66),some (53,false),[15,16,17,18,19,20,21,22,23,24]⟩,
 og 68 (.bin false .neq 2 (.t 63) (.t 67)) 53 false,
 vo 69 (.pick (.t 53) (.c (.bool true)) (.t 68))])
 (.cond (.t 69)
 (.seq
 (rg [4] [
 vo 4 (.asg (ci 1))])
 .ret)
 .skip))
 (.seq
 (.seq
 (.region true [78] [
 mv 70 0,
 ⟨some 71,.mov (.t 1),none,[0]⟩,
 vo 72 (.cut 25 (some 96) 5 (.t 70) none (some (.t 71))),
 ⟨some 73,.mov (.t 5),none,[0,1,2]⟩,
 ⟨some 74,.nilc (.t 73),none,[0,1,2]⟩,
 ⟨some 75,.fa 96 0 0 1 (.t 74),none,[0,1,2]⟩,
 ⟨some 76,.load 2 false 1 (.t 75),none,[0,1,2]⟩,
 vo 77 (.call 124 [(.t 72),(.t 76)]),
 vo 78 (.bin false .geq 3 (.t 77) (ci 0))])
 (.cond (.t 78)
 (.seq
 (rg [4] [
 vo 4 (.asg (ci 6))])
 .ret)
 .skip))
 (.seq
 (rg [4] [
 vo 4 (.asg (ci 0))])
 .ret))))))
 modes:=[.lend,.lend]
 rets:=[⟨4,none⟩]}

def b98_0:VC:=
 (.seq
 (.seq
 (rg [0, 3, 7] [
 mv 4 3,
 mv 5 0,
 vo 6 (.len false 24 (.t 5)),
 vo 7 (.bin false .lss 3 (.t 4) (.t 6))])
 (.cond (.t 7)
 .skip
 (.exit 0)))
 (.seq
 (.block 1
 (.seq
 (rg [0, 3, 44] [
 mv 10 0,
 mv 11 3,
 vo 12 (.ia 24 34 2 (.t 10) (.t 11)),
 vo 13 (.fa 34 0 0 1 (.t 12)),
 ld 14 9 13,
 vo 15 (.bin false .eql 9 (.t 14) (.c (.string (⟨#[]⟩:ByteArray)))),
 mv 16 15,
 og 17 (.mov (.t 0)) 16 false,
 og 18 (.mov (.t 3)) 16 false,
 og 19 (.ia 24 34 2 (.t 17) (.t 18)) 16 false,
 og 20 (.fa 34 0 0 1 (.t 19)) 16 false,
 og 21 (.load 9 false 1 (.t 20)) 16 false,
 og 22 (.call 115 [(.t 21)]) 16 false,
 og 23 (.un .not (.t 22)) 16 false,
 vo 24 (.pick (.t 16) (.c (.bool true)) (.t 23)),
 mv 25 24,
 og 26 (.mov (.t 0)) 25 false,
 og 27 (.mov (.t 3)) 25 false,
 og 28 (.ia 24 34 2 (.t 26) (.t 27)) 25 false,
 og 29 (.fa 34 1 1 1 (.t 28)) 25 false,
 og 30 (.load 2 false 1 (.t 29)) 25 false,
 og 31 (.call 101 [(.t 30)]) 25 false,
 og 32 (.un .not (.t 31)) 25 false,
 vo 33 (.pick (.t 25) (.c (.bool true)) (.t 32)),
 mv 34 33,
 og 35 (.mov (.t 0)) 34 false,
 og 36 (.mov (.t 0)) 34 false,
 og 37 (.mov (.t 3)) 34 false,
 og 38 (.ia 24 34 2 (.t 36) (.t 37)) 34 false,
 og 39 (.fa 34 0 0 1 (.t 38)) 34 false,
 og 40 (.load 9 false 1 (.t 39)) 34 false,
 og 41 (.call 60 [(.t 35),(.t 40)]) 34 false,
 og 42 (.mov (.t 3)) 34 false,
 og 43 (.bin false .neq 3 (.t 41) (.t 42)) 34 false,
 vo 44 (.pick (.t 34) (.c (.bool true)) (.t 43))])
 (.cond (.t 44)
 (.seq
 (rg [2] [
 vo 2 (.asg (.c (.bool false)))])
 .ret)
 .skip)))
 (rg [0, 3] [
 mv 8 3,
 vo 9 (.bin false .add 3 (.t 8) (ci 1)),
 sg 3 9])))
def l98_0:VC:=.loop b98_0
/-- loop.example/g00539/spec.l14Parts -/
def v98 : VFun := {
 code:=
 (.seq
 (rg [0] [
 vo 2 (.asg (.c (.bool false)))])
 (.seq
 (.seq
 (rg [0, 3] [
 vo 3 (.asg (ci 0))])
 (.block 0
 l98_0))
 (.seq
 (rg [2] [
 vo 2 (.asg (.c (.bool true)))])
 .ret)))
 modes:=[.lend]
 rets:=[⟨2,none⟩]}

def b99_0:VC:=
 (.seq
 (.seq
 (rg [0, 3, 4, 8] [
 mv 5 4,
 mv 6 0,
 vo 7 (.len false 24 (.t 6)),
 vo 8 (.bin false .lss 3 (.t 5) (.t 7))])
 (.cond (.t 8)
 .skip
 (.exit 0)))
 (.seq
 (.block 1
 (rg [0, 3, 4] [
 mv 11 3,
 mv 12 0,
 mv 13 4,
 vo 14 (.ia 24 34 2 (.t 12) (.t 13)),
 vo 15 (.fa 34 1 1 1 (.t 14)),
 ld 16 2 15,
 vo 17 (.bin false .add 2 (.t 11) (.t 16)),
 sg 3 17]))
 (rg [0, 3, 4] [
 mv 9 4,
 vo 10 (.bin false .add 3 (.t 9) (ci 1)),
 sg 4 10])))
def l99_0:VC:=.loop b99_0
/-- loop.example/g00539/spec.l13Total -/
def v99 : VFun := {
 code:=
 (.seq
 (rg [0] [
 vo 2 (.asg (ci 0))])
 (.seq
 (rg [0, 3] [
 vo 3 (.asg (ci 0))])
 (.seq
 (.seq
 (rg [0, 3, 4] [
 vo 4 (.asg (ci 0))])
 (.block 0
 l99_0))
 (.seq
 (rg [2] [
 mv 18 3,
 sg 2 18])
 .ret))))
 modes:=[.lend]
 rets:=[⟨2,none⟩]}

def b100_0:VC:=
 (.seq
 (.seq
 (rg [0, 1, 5, 6, 10] [
 mv 7 6,
 mv 8 0,
 vo 9 (.len false 25 (.t 8)),
 vo 10 (.bin false .lss 3 (.t 7) (.t 9))])
 (.cond (.t 10)
 .skip
 (.exit 0)))
 (.seq
 (.block 1
 (.seq
 (rg [0, 1, 5, 6, 22] [
 mv 13 1,
 vo 14 (.un .not (.t 13)),
 mv 15 14,
 og 16 (.mov (.t 0)) 15 false,
 og 17 (.mov (.t 6)) 15 false,
 og 18 (.ia 25 96 5 (.t 16) (.t 17)) 15 false,
 og 19 (.fa 96 4 4 1 (.t 18)) 15 false,
 og 20 (.load 2 false 1 (.t 19)) 15 false,
 og 21 (.bin false .eql 2 (.t 20) (ci 2)) 15 false,
 vo 22 (.pick (.t 15) (.c (.bool true)) (.t 21))])
 (.cond (.t 22)
 (rg [0, 1, 5, 6] [
 mv 23 5,
 mv 24 0,
 mv 25 6,
 vo 26 (.ia 25 96 5 (.t 24) (.t 25)),
 vo 27 (.fa 96 1 1 1 (.t 26)),
 ld 28 2 27,
 vo 29 (.bin false .add 2 (.t 23) (.t 28)),
 sg 5 29])
 .skip)))
 (rg [0, 1, 5, 6] [
 mv 11 6,
 vo 12 (.bin false .add 3 (.t 11) (ci 1)),
 sg 6 12])))
def l100_0:VC:=.loop b100_0
/-- loop.example/g00539/spec.l14Totals -/
def v100 : VFun := {
 code:=
 (.seq
 (rg [0, 1] [
 vo 4 (.asg (ci 0))])
 (.seq
 (rg [0, 1, 5] [
 vo 5 (.asg (ci 0))])
 (.seq
 (.seq
 (rg [0, 1, 5, 6] [
 vo 6 (.asg (ci 0))])
 (.block 0
 l100_0))
 (.seq
 (rg [4] [
 mv 30 5,
 sg 4 30])
 .ret))))
 modes:=[.lend,.lend]
 rets:=[⟨4,none⟩]}

/-- loop.example/g00539/spec.l1Amount -/
def v101 : VFun := {
 code:=
 (.seq
 (rg [0] [
 vo 2 (.asg (.c (.bool false)))])
 (.seq
 (rg [2] [
 mv 3 0,
 vo 4 (.call 105 [(.t 3),(ci 0),(ci 1000000)]),
 sg 2 4])
 .ret))
 modes:=[.lend]
 rets:=[⟨2,none⟩]}

/-- loop.example/g00539/spec.l13One -/
def v102 : VFun := {
 code:=
 (.seq
 (rg [0] [
 vo 2 (.asg (ci 0))])
 (.seq
 (.seq
 (rg [0, 15] [
 mv 3 0,
 vo 4 (.nilc (.t 3)),
 vo 5 (.fa 34 0 0 1 (.t 4)),
 ld 6 9 5,
 vo 7 (.bin false .eql 9 (.t 6) (.c (.string (⟨#[]⟩:ByteArray)))),
 mv 8 7,
 og 9 (.mov (.t 0)) 8 false,
 og 10 (.nilc (.t 9)) 8 false,
 og 11 (.fa 34 0 0 1 (.t 10)) 8 false,
 og 12 (.load 9 false 1 (.t 11)) 8 false,
 og 13 (.call 115 [(.t 12)]) 8 false,
 og 14 (.un .not (.t 13)) 8 false,
 vo 15 (.pick (.t 8) (.c (.bool true)) (.t 14))])
 (.cond (.t 15)
 (.seq
 (rg [2] [
 vo 2 (.asg (ci 5))])
 .ret)
 .skip))
 (.seq
 (.seq
 (rg [21] [
 mv 16 0,
 vo 17 (.nilc (.t 16)),
 vo 18 (.fa 34 1 1 1 (.t 17)),
 ld 19 2 18,
 vo 20 (.call 105 [(.t 19),(ci 1),(ci 9999)]),
 vo 21 (.un .not (.t 20))])
 (.cond (.t 21)
 (.seq
 (rg [2] [
 vo 2 (.asg (ci 3))])
 .ret)
 .skip))
 (.seq
 (rg [2] [
 vo 2 (.asg (ci 0))])
 .ret))))
 modes:=[.lend]
 rets:=[⟨2,none⟩]}

def b103_0:VC:=
 (.seq
 (.seq
 (rg [1, 2, 3, 4, 20] [
 mv 16 4,
 vo 17 (.fa 27 3 3 1 (.t 1)),
 ld 18 25 17,
 vo 19 (.len false 25 (.t 18)),
 vo 20 (.bin false .lss 3 (.t 16) (.t 19))])
 (.cond (.t 20)
 .skip
 (.exit 0)))
 (.seq
 (.block 1
 (.seq
 (rg [1, 2, 3, 4, 5] [
 vo 23 (.fa 27 3 3 1 (.t 1)),
 ld 24 25 23,
 mv 25 4,
 vo 26 (.ia 25 96 5 (.t 24) (.t 25)),
 vo 27 (.load 96 true 5 (.t 26)),
 vo 5 (.alloc 96 [(.val (.int .i64 0)),(.val (.int .i64 0)),(.val (.int .i64 0)),(.nl 2),(.val (.int .i64 0))]),
 vn (.store 96 5 (.t 5) (.t 27))])
 (.seq
 (rg [1, 2, 3, 4, 5] [
 vo 28 (.fa 96 3 3 1 (.t 5)),
 ld 29 24 28,
 vo 30 (.call 137 [(.t 29)]),
 vo 31 (.fa 96 3 3 1 (.t 5)),
 vn (.store 24 1 (.t 31) (.t 30))])
 (rg [1, 2, 3, 4] [
 vo 32 (.fa 27 3 3 1 (.t 3)),
 ld 33 25 32,
 vo 34 (.load 96 true 5 (.t 5)),
 vo 35 (.lit 25 96 5 1 [(.val (.int .i64 0)),(.val (.int .i64 0)),(.val (.int .i64 0)),(.nl 2),(.val (.int .i64 0))] [(0,(.t 34))]),
 vo 36 (.app 25 96 5 56 (.t 33) (.t 35)),
 vo 37 (.fa 27 3 3 1 (.t 3)),
 vn (.store 25 1 (.t 37) (.t 36))]))))
 (rg [1, 2, 3, 4] [
 mv 21 4,
 vo 22 (.bin false .add 3 (.t 21) (ci 1)),
 sg 4 22])))
def l103_0:VC:=.loop b103_0
/-- loop.example/g00539/spec.l14Copy -/
def v103 : VFun := {
 code:=
 (.seq
 (rg [1, 2] [
 vo 1 (.box 27 (.t 0)),
 vo 2 (.alloc 27 [(.val (.int .i64 0)),(.val (.int .i64 0)),(.nl 2),(.nl 5),(.nl 2),(.val (.int .i64 0)),(.val (.int .i64 0)),(.val (.int .i64 0))])])
 (.seq
 (rg [1, 2, 3] [
 vo 6 (.load 27 true 8 (.t 1)),
 vo 3 (.alloc 27 [(.val (.int .i64 0)),(.val (.int .i64 0)),(.nl 2),(.nl 5),(.nl 2),(.val (.int .i64 0)),(.val (.int .i64 0)),(.val (.int .i64 0))]),
 vn (.store 27 8 (.t 3) (.t 6))])
 (.seq
 (rg [1, 2, 3] [
 vo 7 (.fa 27 2 2 1 (.t 1)),
 ld 8 24 7,
 vo 9 (.call 137 [(.t 8)]),
 vo 10 (.fa 27 2 2 1 (.t 3)),
 vn (.store 24 1 (.t 10) (.t 9))])
 (.seq
 (rg [1, 2, 3] [
 vo 11 (.fa 27 4 4 1 (.t 1)),
 ld 12 24 11,
 vo 13 (.call 137 [(.t 12)]),
 vo 14 (.fa 27 4 4 1 (.t 3)),
 vn (.store 24 1 (.t 14) (.t 13))])
 (.seq
 (rg [1, 2, 3] [
 vo 15 (.fa 27 3 3 1 (.t 3)),
 vn (.store 25 1 (.t 15) (.n 5))])
 (.seq
 (.seq
 (rg [1, 2, 3, 4] [
 vo 4 (.asg (ci 0))])
 (.block 0
 l103_0))
 (.seq
 (rg [2] [
 vo 38 (.load 27 true 8 (.t 3)),
 vn (.store 27 8 (.t 2) (.t 38))])
 .ret)))))))
 modes:=[.lend]
 rets:=[⟨2,some (true,8)⟩]}

def b104_0:VC:=
 (.seq
 (.seq
 (rg [2, 7, 13, 17] [
 mv 14 7,
 vo 15 (.len false 24 (.t 14)),
 mv 16 2,
 vo 17 (.bin false .gtr 2 (.t 15) (.t 16))])
 (.cond (.t 17)
 .skip
 (.exit 0)))
 (.block 1
 (rg [2, 7, 13] [
 mv 18 7,
 vo 19 (.cut 24 (some 34) 2 (.t 18) (some (ci 1)) none),
 sg 7 19])))
def l104_0:VC:=.loop b104_0
/-- loop.example/g00539/spec.l13Push -/
def v104 : VFun := {
 code:=
 (.seq
 (rg [0, 2, 4] [
 vo 4 (.box 34 (.t 1)),
 vo 6 (.asg (.n 2))])
 (.seq
 (.region true [2, 7, 13] [
 vo 8 (.lit 24 34 2 0 [(.val (.string (⟨#[]⟩:ByteArray))),(.val (.int .i64 0))] []),
 ⟨some 9,.mov (.t 0),none,[0]⟩,
 vo 10 (.app 24 34 2 24 (.t 8) (.t 9)),
 ⟨some 11,.load 34 true 2 (.t 4),none,[0,1,2]⟩,
 ⟨some 12,.lit 24 34 2 1 [(.val (.string (⟨#[]⟩:ByteArray))),(.val (.int .i64 0))] [(0,(.t 11))],none,[0,1,2]⟩,
 vo 13 (.app 24 34 2 24 (.t 10) (.t 12)),
 sg 7 13])
 (.seq
 (.block 0
 l104_0)
 (.seq
 (rg [6, 22] [
 vo 20 (.lit 24 34 2 0 [(.val (.string (⟨#[]⟩:ByteArray))),(.val (.int .i64 0))] []),
 mv 21 7,
 vo 22 (.app 24 34 2 24 (.t 20) (.t 21)),
 sg 6 22])
 .ret))))
 modes:=[.lend,.lend,.lend]
 rets:=[⟨6,none⟩]}

/-- loop.example/g00539/spec.l1In -/
def v105 : VFun := {
 code:=
 (.seq
 (rg [0, 1, 2] [
 vo 6 (.asg (.c (.bool false)))])
 (.seq
 (rg [6] [
 mv 7 0,
 mv 8 1,
 vo 9 (.bin false .geq 2 (.t 7) (.t 8)),
 mv 10 9,
 og 11 (.mov (.t 0)) 10 true,
 og 12 (.mov (.t 2)) 10 true,
 og 13 (.bin false .leq 2 (.t 11) (.t 12)) 10 true,
 vo 14 (.pick (.t 10) (.t 13) (.c (.bool false))),
 sg 6 14])
 .ret))
 modes:=[.lend,.lend,.lend]
 rets:=[⟨6,none⟩]}

def b115_0:VC:=
 (.seq
 (.seq
 (rg [0, 3, 7] [
 mv 4 3,
 mv 5 0,
 vo 6 (.len true 9 (.t 5)),
 vo 7 (.bin false .lss 3 (.t 4) (.t 6))])
 (.cond (.t 7)
 .skip
 (.exit 0)))
 (.seq
 (.block 1
 (.seq
 (rg [0, 3, 14] [
 mv 10 0,
 mv 11 3,
 vo 12 (.idx 9 (.t 10) (.t 11)),
 vo 13 (.call 140 [(.t 12)]),
 vo 14 (.un .not (.t 13))])
 (.cond (.t 14)
 (.seq
 (rg [2] [
 vo 2 (.asg (.c (.bool false)))])
 .ret)
 .skip)))
 (rg [0, 3] [
 mv 8 3,
 vo 9 (.bin false .add 3 (.t 8) (ci 1)),
 sg 3 9])))
def l115_0:VC:=.loop b115_0
/-- loop.example/g00539/spec.l9Arg -/
def v115 : VFun := {
 code:=
 (.seq
 (rg [0] [
 vo 2 (.asg (.c (.bool false)))])
 (.seq
 (.seq
 (rg [0, 3] [
 vo 3 (.asg (ci 0))])
 (.block 0
 l115_0))
 (.seq
 (rg [2] [
 mv 15 0,
 vo 16 (.len true 9 (.t 15)),
 vo 17 (.bin false .leq 3 (.t 16) (ci 12)),
 sg 2 17])
 .ret)))
 modes:=[.lend]
 rets:=[⟨2,none⟩]}

/-- loop.example/g00539/spec.l4Sum -/
def v116 : VFun := {
 code:=
 (.seq
 (rg [0] [
 vo 2 (.asg (.c (.bool false)))])
 (.seq
 (rg [2] [
 mv 3 0,
 vo 4 (.call 105 [(.t 3),(ci 0),(ci 2147483646)]),
 sg 2 4])
 .ret))
 modes:=[.lend]
 rets:=[⟨2,none⟩]}

/-- loop.example/g00539/impl.argOk -/
def v119 : VFun := {
 code:=
 (.seq
 (rg [0] [
 vo 2 (.asg (.c (.bool false)))])
 (.seq
 (rg [2] [
 mv 3 0,
 vo 4 (.len true 9 (.t 3)),
 vo 5 (.bin false .leq 3 (.t 4) (ci 12)),
 mv 6 5,
 og 7 (.mov (.t 0)) 6 true,
 og 8 (.call 141 [(.t 7),(.c (.string (⟨#[97,98,99,100,101,102,103,104,105,106,107,108,109,110,111,112,113,114,115,116,117,118,119,120,121,122,65,66,67,68,69,70,71,72,73,74,75,76,77,78,79,80,81,82,83,84,85,86,87,88,89,90,48,49,50,51,52,53,54,55,56,57]⟩:ByteArray)))]) 6 true,
 og 9 (.bin false .eql 9 (.t 8) (.c (.string (⟨#[]⟩:ByteArray)))) 6 true,
 vo 10 (.pick (.t 6) (.t 9) (.c (.bool false))),
 sg 2 10])
 .ret))
 modes:=[.lend]
 rets:=[⟨2,none⟩]}

def b124_0:VC:=
 (.seq
 (.seq
 (rg [0, 1, 5, 9] [
 mv 6 5,
 mv 7 0,
 vo 8 (.len false 25 (.t 7)),
 vo 9 (.bin false .lss 3 (.t 6) (.t 8))])
 (.cond (.t 9)
 .skip
 (.exit 0)))
 (.seq
 (.block 1
 (.seq
 (rg [0, 1, 5, 18] [
 mv 12 0,
 mv 13 5,
 vo 14 (.ia 25 96 5 (.t 12) (.t 13)),
 vo 15 (.fa 96 0 0 1 (.t 14)),
 ld 16 2 15,
 mv 17 1,
 vo 18 (.bin false .eql 2 (.t 16) (.t 17))])
 (.cond (.t 18)
 (.seq
 (rg [4] [
 mv 19 5,
 sg 4 19])
 .ret)
 .skip)))
 (rg [0, 1, 5] [
 mv 10 5,
 vo 11 (.bin false .add 3 (.t 10) (ci 1)),
 sg 5 11])))
def l124_0:VC:=.loop b124_0
/-- loop.example/g00539/spec.l14Find -/
def v124 : VFun := {
 code:=
 (.seq
 (rg [0, 1] [
 vo 4 (.asg (ci 0))])
 (.seq
 (.seq
 (rg [0, 1, 5] [
 vo 5 (.asg (ci 0))])
 (.block 0
 l124_0))
 (.seq
 (rg [4] [
 vo 4 (.asg (ci ((-1))))])
 .ret)))
 modes:=[.lend,.lend]
 rets:=[⟨4,none⟩]}

def b125_1:VC:=
 (.seq
 (.seq
 (rg [6, 9, 11, 48, 55] [
 mv 52 9,
 mv 53 6,
 vo 54 (.len false 24 (.t 53)),
 vo 55 (.bin false .lss 3 (.t 52) (.t 54))])
 (.cond (.t 55)
 .skip
 (.exit 2)))
 (.seq
 (.block 3
 (.seq
 (rg [6, 9, 11, 48, 64] [
 mv 58 6,
 mv 59 9,
 vo 60 (.ia 24 34 2 (.t 58) (.t 59)),
 vo 61 (.fa 34 1 1 1 (.t 60)),
 ld 62 2 61,
 vo 63 (.call 101 [(.t 62)]),
 vo 64 (.un .not (.t 63))])
 (.cond (.t 64)
 (.seq
 (rg [4, 5, 6, 11, 48] [
 vo 4 (.asg (.n 2)),
 vo 5 (.asg (ci 7))])
 .ret)
 .skip)))
 (rg [6, 9, 11, 48] [
 mv 56 9,
 vo 57 (.bin false .add 3 (.t 56) (ci 1)),
 sg 9 57])))
def l125_1:VC:=.loop b125_1
def b125_0:VC:=
 (.seq
 (.seq
 (rg [1, 6, 7, 11, 15, 48] [
 mv 12 7,
 mv 13 1,
 vo 14 (.len false 24 (.t 13)),
 vo 15 (.bin false .lss 3 (.t 12) (.t 14))])
 (.cond (.t 15)
 .skip
 (.exit 0)))
 (.seq
 (.block 1
 (.seq
 (rg [1, 6, 7, 8, 11, 48] [
 mv 18 6,
 mv 19 1,
 mv 20 7,
 vo 21 (.ia 24 34 2 (.t 19) (.t 20)),
 vo 22 (.fa 34 0 0 1 (.t 21)),
 ld 23 9 22,
 vo 24 (.call 60 [(.t 18),(.t 23)]),
 sg 8 24])
 (.seq
 (rg [1, 6, 7, 8, 11, 26, 48] [
 mv 25 8,
 vo 26 (.bin false .geq 3 (.t 25) (ci 0))])
 (.cond (.t 26)
 (.region true [1, 6, 7, 11, 48] [
 mv 27 6,
 ⟨some 28,.mov (.t 8),none,[0]⟩,
 ⟨some 29,.mov (.t 6),none,[0,1]⟩,
 ⟨some 30,.mov (.t 8),none,[0,1,2]⟩,
 ⟨some 31,.ia 24 34 2 (.t 29) (.t 30),none,[0,1]⟩,
 ⟨some 32,.fa 34 1 1 1 (.t 31),none,[0,1]⟩,
 ⟨some 33,.load 2 false 1 (.t 32),none,[0,1]⟩,
 ⟨some 34,.mov (.t 1),none,[0,1,2,3,4,5,6]⟩,
 ⟨some 35,.mov (.t 7),none,[0,1,2,3,4,5,6,7]⟩,
 ⟨some 36,.ia 24 34 2 (.t 34) (.t 35),none,[0,1,2,3,4,5,6]⟩,
 ⟨some 37,.fa 34 1 1 1 (.t 36),none,[0,1,2,3,4,5,6]⟩,
 ⟨some 38,.load 2 false 1 (.t 37),none,[0,1,2,3,4,5,6]⟩,
 ⟨some 39,.bin false .add 2 (.t 33) (.t 38),none,[0,1]⟩,
 vo 40 (.ia 24 34 2 (.t 27) (.t 28)),
 vo 41 (.fa 34 1 1 1 (.t 40)),
 vn (.store 2 1 (.t 41) (.t 39))])
 (rg [1, 6, 7, 11, 48] [
 mv 42 6,
 mv 43 1,
 mv 44 7,
 vo 45 (.ia 24 34 2 (.t 43) (.t 44)),
 vo 46 (.load 34 true 2 (.t 45)),
 vo 47 (.lit 24 34 2 1 [(.val (.string (⟨#[]⟩:ByteArray))),(.val (.int .i64 0))] [(0,(.t 46))]),
 vo 48 (.app 24 34 2 24 (.t 42) (.t 47)),
 sg 6 48])))))
 (rg [1, 6, 7, 11, 48] [
 mv 16 7,
 vo 17 (.bin false .add 3 (.t 16) (ci 1)),
 sg 7 17])))
def l125_0:VC:=.loop b125_0
/-- loop.example/g00539/spec.l14Add -/
def v125 : VFun := {
 code:=
 (.seq
 (rg [0, 1] [
 vo 4 (.asg (.n 2)),
 vo 5 (.asg (ci 0))])
 (.seq
 (rg [1, 6, 11, 48] [
 mv 10 0,
 vo 11 (.call 137 [(.t 10)]),
 sg 6 11])
 (.seq
 (.seq
 (rg [1, 6, 7, 11, 48] [
 vo 7 (.asg (ci 0))])
 (.block 0
 l125_0))
 (.seq
 (.seq
 (rg [6, 11, 48, 51] [
 mv 49 6,
 vo 50 (.len false 24 (.t 49)),
 vo 51 (.bin false .gtr 3 (.t 50) (ci 8))])
 (.cond (.t 51)
 (.seq
 (rg [4, 5, 6, 11, 48] [
 vo 4 (.asg (.n 2)),
 vo 5 (.asg (ci 10))])
 .ret)
 .skip))
 (.seq
 (.seq
 (rg [6, 9, 11, 48] [
 vo 9 (.asg (ci 0))])
 (.block 2
 l125_1))
 (.seq
 (rg [4, 5, 6, 11, 48] [
 mv 65 6,
 sg 4 65,
 vo 5 (.asg (ci 0))])
 .ret))))))
 modes:=[.lend,.lend]
 rets:=[⟨4,none⟩,⟨5,none⟩]}

def b128_0:VC:=
 (.seq
 (rg [0, 1, 7, 8, 9] [
 vo 9 (.bin false .lss 3 (.t 8) (.t 7))])
 (.seq
 (.cond (.t 9)
 .skip
 (.exit 0))
 (.seq
 (.block 1
 (.seq
 (rg [0, 1, 5, 7, 8] [
 mv 10 8,
 sg 5 10])
 (.seq
 (rg [0, 1, 5, 7, 8, 16] [
 mv 11 1,
 mv 12 0,
 mv 13 5,
 vo 14 (.ia 25 96 5 (.t 12) (.t 13)),
 vo 15 (.load 96 true 5 (.t 14)),
 vo 16 (.callv (.t 11) [(.t 15)])])
 (.cond (.t 16)
 (.seq
 (rg [4] [
 mv 17 5,
 sg 4 17])
 .ret)
 .skip))))
 (rg [0, 1, 7, 8] [
 vo 18 (.bin false .add 3 (.t 8) (ci 1)),
 mv 8 18]))))
def l128_0:VC:=.loop b128_0
/-- slices.IndexFunc[[]loop.example/g00539/impl.Reward,loop.example/g00539/impl.Reward] -/
def v128 : VFun := {
 code:=
 (.seq
 (rg [0, 1] [
 vo 4 (.asg (ci 0))])
 (.seq
 (.seq
 (rg [0, 1, 7, 8] [
 mv 6 0,
 vo 7 (.len false 25 (.t 6)),
 vo 8 (.mov (ci 0))])
 (.block 0
 l128_0))
 (.seq
 (rg [4] [
 vo 4 (.asg (ci ((-1))))])
 .ret)))
 modes:=[.lend,.lend]
 rets:=[⟨4,none⟩]}

/-- loop.example/g00539/impl.rewardAt$1 -/
def v129 : VFun := {
 code:=
 (.seq
 (rg [1, 2] [
 vo 2 (.box 96 (.t 0)),
 vo 3 (.asg (.c (.bool false)))])
 (.seq
 (rg [3] [
 vo 4 (.fa 96 0 0 1 (.t 2)),
 ld 5 2 4,
 ld 6 2 1,
 vo 7 (.bin false .eql 2 (.t 5) (.t 6)),
 sg 3 7])
 .ret))
 modes:=[.lend,.lend]
 rets:=[⟨3,none⟩]}

/-- loop.example/g00539/spec.l14Turn -/
def v135 : VFun := {
 code:=
 (.seq
 (rg [0, 3, 4] [
 vo 3 (.box 27 (.t 1)),
 vo 4 (.alloc 27 [(.val (.int .i64 0)),(.val (.int .i64 0)),(.nl 2),(.nl 5),(.nl 2),(.val (.int .i64 0)),(.val (.int .i64 0)),(.val (.int .i64 0))])])
 (.seq
 (rg [0, 3, 4, 5] [
 vo 6 (.build 31 [(.val (.int .i64 0)),(.val (.int .i64 0)),(.val (.int .i64 0)),(.val (.int .i64 0)),(.nl 2),(.nl 5),(.nl 2),(.val (.int .i64 0)),(.val (.int .i64 0)),(.val (.int .i64 0))] [(0,0,1,(ci 1))]),
 vo 5 (.alloc 31 [(.val (.int .i64 0)),(.val (.int .i64 0)),(.val (.int .i64 0)),(.val (.int .i64 0)),(.nl 2),(.nl 5),(.nl 2),(.val (.int .i64 0)),(.val (.int .i64 0)),(.val (.int .i64 0))]),
 vn (.store 31 10 (.t 5) (.t 6))])
 (.seq
 (.seq
 (rg [0, 3, 4, 5, 8] [
 mv 7 0,
 vo 8 (.call 48 [(.t 7),(ci 6)])])
 (.block 0
 (.seq
 (.seq
 (rg [0, 3, 4, 5, 8, 16] [
 vo 17 (.bin false .eql 2 (.t 8) (ci 0)),
 sg 16 17])
 (.cond (.t 16)
 .skip
 (rg [0, 3, 4, 5, 8, 16] [
 vo 18 (.bin false .eql 2 (.t 8) (ci 1)),
 sg 16 18])))
 (.cond (.t 16)
 (.region true [0, 3, 4, 5] [
 vo 19 (.load 27 true 8 (.t 3)),
 ⟨some 20,.mov (.t 0),none,[0]⟩,
 ⟨some 21,.call 40 [(.t 20)],none,[0]⟩,
 ⟨some 22,.mov (.t 0),none,[0,1,2]⟩,
 ⟨some 23,.lit 132 2 1 3 [(.val (.int .i64 0))] [(0,(ci 1)),(1,(ci 2)),(2,(ci 5))],none,[0,1,2,3]⟩,
 ⟨some 24,.call 41 [(.t 22),(.t 23)],none,[0]⟩,
 ⟨some 25,.build 34 [(.val (.string (⟨#[]⟩:ByteArray))),(.val (.int .i64 0))] [(0,0,1,(.t 21)),(1,1,1,(.t 24))],none,[0]⟩,
 vo 26 (.call 53 [(.t 19),(.t 25)]),
 vn (.store 31 10 (.t 5) (.t 26))])
 (.seq
 (rg [0, 3, 4, 5, 8, 27] [
 vo 28 (.bin false .eql 2 (.t 8) (ci 2)),
 sg 27 28])
 (.cond (.t 27)
 (.region true [0, 3, 4, 5] [
 vo 29 (.load 27 true 8 (.t 3)),
 ⟨some 30,.mov (.t 0),none,[0]⟩,
 ⟨some 31,.call 48 [(.t 30),(ci 5)],none,[0]⟩,
 ⟨some 32,.mov (.t 0),none,[0,1,2]⟩,
 ⟨some 33,.lit 132 2 1 4 [(.val (.int .i64 0))] [(0,(ci 50)),(1,(ci 49)),(2,(ci 7)),(3,(ci 300000))],none,[0,1,2,3]⟩,
 ⟨some 34,.call 41 [(.t 32),(.t 33)],none,[0]⟩,
 vo 35 (.call 143 [(.t 29),(.t 31),(.t 34)]),
 vn (.store 31 10 (.t 5) (.t 35))])
 (.seq
 (rg [0, 3, 4, 5, 8, 36] [
 vo 37 (.bin false .eql 2 (.t 8) (ci 3)),
 sg 36 37])
 (.cond (.t 36)
 (.region true [0, 3, 4, 5] [
 vo 38 (.load 27 true 8 (.t 3)),
 ⟨some 39,.mov (.t 0),none,[0]⟩,
 ⟨some 40,.call 48 [(.t 39),(ci 5)],none,[0]⟩,
 vo 41 (.call 78 [(.t 38),(.t 40)]),
 vn (.store 31 10 (.t 5) (.t 41))])
 (.seq
 (rg [0, 3, 4, 5, 42] [
 vo 43 (.bin false .eql 2 (.t 8) (ci 4)),
 sg 42 43])
 (.cond (.t 42)
 (.region true [0, 3, 4, 5] [
 vo 44 (.load 27 true 8 (.t 3)),
 ⟨some 45,.mov (.t 0),none,[0]⟩,
 ⟨some 46,.call 48 [(.t 45),(ci 5)],none,[0]⟩,
 vo 47 (.call 144 [(.t 44),(.t 46)]),
 vn (.store 31 10 (.t 5) (.t 47))])
 (.region true [0, 3, 4, 5] [
 vo 9 (.load 27 true 8 (.t 3)),
 ⟨some 10,.mov (.t 0),none,[0]⟩,
 ⟨some 11,.call 40 [(.t 10)],none,[0]⟩,
 ⟨some 12,.mov (.t 0),none,[0,1,2]⟩,
 ⟨some 13,.call 48 [(.t 12),(ci 30)],none,[0]⟩,
 ⟨some 14,.bin false .add 2 (ci 1) (.t 13),none,[0]⟩,
 vo 15 (.call 61 [(.t 9),(.t 11),(.t 14)]),
 vn (.store 31 10 (.t 5) (.t 15))])))))))))))
 (.seq
 (.seq
 (rg [0, 3, 4, 5, 50] [
 vo 48 (.fa 31 0 0 1 (.t 5)),
 ld 49 2 48,
 vo 50 (.bin false .neq 2 (.t 49) (ci 0))])
 (.cond (.t 50)
 (.seq
 (rg [0, 4] [
 vo 51 (.load 27 true 8 (.t 3)),
 vn (.store 27 8 (.t 4) (.t 51))])
 .ret)
 .skip))
 (.seq
 (rg [0, 4] [
 vo 52 (.fa 31 2 2 8 (.t 5)),
 vo 53 (.load 27 true 8 (.t 52)),
 vn (.store 27 8 (.t 4) (.t 53))])
 .ret)))))
 modes:=[.io,.eat]
 rets:=[⟨4,some (true,8)⟩]}

def b136_0:VC:=
 (.seq
 (.seq
 (rg [0, 3, 4, 5, 9, 20] [
 mv 8 4,
 vo 9 (.bin false .gtr 2 (.t 8) (ci 0))])
 (.cond (.t 9)
 .skip
 (.exit 0)))
 (.seq
 (.block 1
 (rg [0, 3, 4, 5, 20] [
 mv 12 3,
 mv 13 0,
 vo 14 (.call 40 [(.t 13)]),
 mv 15 0,
 vo 16 (.lit 132 2 1 5 [(.val (.int .i64 0))] [(0,(ci 1)),(1,(ci 2)),(2,(ci 3)),(3,(ci 7)),(4,(ci 9999))]),
 vo 17 (.call 41 [(.t 15),(.t 16)]),
 vo 18 (.build 34 [(.val (.string (⟨#[]⟩:ByteArray))),(.val (.int .i64 0))] [(0,0,1,(.t 14)),(1,1,1,(.t 17))]),
 vo 19 (.lit 24 34 2 1 [(.val (.string (⟨#[]⟩:ByteArray))),(.val (.int .i64 0))] [(0,(.t 18))]),
 vo 20 (.app 24 34 2 24 (.t 12) (.t 19)),
 sg 3 20]))
 (rg [0, 3, 4, 5, 20] [
 mv 10 4,
 vo 11 (.bin false .sub 2 (.t 10) (ci 1)),
 sg 4 11])))
def l136_0:VC:=.loop b136_0
/-- loop.example/g00539/spec.l13Draw -/
def v136 : VFun := {
 code:=
 (.seq
 (rg [0] [
 vo 2 (.asg (.n 2))])
 (.seq
 (rg [0, 3, 5, 20] [
 vo 5 (.lit 24 34 2 0 [(.val (.string (⟨#[]⟩:ByteArray))),(.val (.int .i64 0))] []),
 sg 3 5])
 (.seq
 (.seq
 (rg [0, 3, 4, 5, 20] [
 mv 6 0,
 vo 7 (.call 48 [(.t 6),(ci 8)]),
 sg 4 7])
 (.block 0
 l136_0))
 (.seq
 (rg [0, 2, 3, 5, 20] [
 mv 21 3,
 sg 2 21])
 .ret))))
 modes:=[.io]
 rets:=[⟨2,none⟩]}

/-- loop.example/g00539/spec.l14Weights -/
def v137 : VFun := {
 code:=
 (.seq
 (rg [0] [
 vo 2 (.asg (.n 2))])
 (.seq
 (rg [2, 5] [
 vo 3 (.lit 24 34 2 0 [(.val (.string (⟨#[]⟩:ByteArray))),(.val (.int .i64 0))] []),
 mv 4 0,
 vo 5 (.app 24 34 2 24 (.t 3) (.t 4)),
 sg 2 5])
 .ret))
 modes:=[.lend]
 rets:=[⟨2,none⟩]}

/-- loop.example/g00539/spec.l9Letter -/
def v140 : VFun := {
 code:=
 (.seq
 (rg [0] [
 vo 2 (.asg (.c (.bool false)))])
 (.seq
 (rg [2] [
 mv 3 0,
 vo 4 (.bin false .geq 5 (.t 3) (.c (.int .u8 97))),
 mv 5 4,
 og 6 (.mov (.t 0)) 5 true,
 og 7 (.bin false .leq 5 (.t 6) (.c (.int .u8 122))) 5 true,
 vo 8 (.pick (.t 5) (.t 7) (.c (.bool false))),
 mv 9 8,
 og 10 (.mov (.t 0)) 9 false,
 og 11 (.bin false .geq 5 (.t 10) (.c (.int .u8 65))) 9 false,
 og 12 (.mov (.t 11)) 9 false,
 og 13 (.mov (.t 0)) 12 true,
 og 14 (.bin false .leq 5 (.t 13) (.c (.int .u8 90))) 12 true,
 og 15 (.pick (.t 12) (.t 14) (.c (.bool false))) 9 false,
 vo 16 (.pick (.t 9) (.c (.bool true)) (.t 15)),
 mv 17 16,
 og 18 (.mov (.t 0)) 17 false,
 og 19 (.bin false .geq 5 (.t 18) (.c (.int .u8 48))) 17 false,
 og 20 (.mov (.t 19)) 17 false,
 og 21 (.mov (.t 0)) 20 true,
 og 22 (.bin false .leq 5 (.t 21) (.c (.int .u8 57))) 20 true,
 og 23 (.pick (.t 20) (.t 22) (.c (.bool false))) 17 false,
 vo 24 (.pick (.t 17) (.c (.bool true)) (.t 23)),
 sg 2 24])
 .ret))
 modes:=[.lend]
 rets:=[⟨2,none⟩]}

/-- loop.example/g00539/spec.l14Found -/
def v143 : VFun := {
 code:=
 (.seq
 (rg [1, 2, 3, 6] [
 vo 3 (.box 27 (.t 0)),
 vo 6 (.alloc 31 [(.val (.int .i64 0)),(.val (.int .i64 0)),(.val (.int .i64 0)),(.val (.int .i64 0)),(.nl 2),(.nl 5),(.nl 2),(.val (.int .i64 0)),(.val (.int .i64 0)),(.val (.int .i64 0))])])
 (.seq
 (.seq
 (rg [1, 2, 3, 6, 16] [
 mv 9 1,
 vo 10 (.call 116 [(.t 9)]),
 vo 11 (.un .not (.t 10)),
 mv 12 11,
 og 13 (.mov (.t 2)) 12 false,
 og 14 (.call 101 [(.t 13)]) 12 false,
 og 15 (.un .not (.t 14)) 12 false,
 vo 16 (.pick (.t 12) (.c (.bool true)) (.t 15))])
 (.cond (.t 16)
 (.seq
 (rg [6] [
 vo 17 (.call 52 [(ci 3)]),
 vn (.store 31 10 (.t 6) (.t 17))])
 .ret)
 .skip))
 (.seq
 (.seq
 (rg [1, 2, 3, 6, 22] [
 vo 18 (.fa 27 3 3 1 (.t 3)),
 ld 19 25 18,
 mv 20 1,
 vo 21 (.call 124 [(.t 19),(.t 20)]),
 vo 22 (.bin false .geq 3 (.t 21) (ci 0))])
 (.cond (.t 22)
 (.seq
 (rg [6] [
 vo 23 (.call 52 [(ci 6)]),
 vn (.store 31 10 (.t 6) (.t 23))])
 .ret)
 .skip))
 (.seq
 (.seq
 (rg [1, 2, 3, 6, 27] [
 vo 24 (.fa 27 3 3 1 (.t 3)),
 ld 25 25 24,
 vo 26 (.len false 25 (.t 25)),
 vo 27 (.bin false .geq 3 (.t 26) (ci 6))])
 (.cond (.t 27)
 (.seq
 (rg [6] [
 vo 28 (.call 52 [(ci 10)]),
 vn (.store 31 10 (.t 6) (.t 28))])
 .ret)
 .skip))
 (.seq
 (.seq
 (rg [1, 2, 3, 6, 35] [
 vo 29 (.fa 27 3 3 1 (.t 3)),
 ld 30 25 29,
 vo 31 (.call 100 [(.t 30),(.c (.bool false))]),
 mv 32 2,
 vo 33 (.bin false .add 2 (.t 31) (.t 32)),
 vo 34 (.call 101 [(.t 33)]),
 vo 35 (.un .not (.t 34))])
 (.cond (.t 35)
 (.seq
 (rg [6] [
 vo 36 (.call 52 [(ci 7)]),
 vn (.store 31 10 (.t 6) (.t 36))])
 .ret)
 .skip))
 (.seq
 (rg [2, 3, 6, 7] [
 mv 37 1,
 mv 38 2,
 mv 39 2,
 vo 40 (.build 96 [(.val (.int .i64 0)),(.val (.int .i64 0)),(.val (.int .i64 0)),(.nl 2),(.val (.int .i64 0))] [(0,0,1,(.t 37)),(1,1,1,(.t 38)),(2,2,1,(.t 39)),(4,4,1,(ci 1))]),
 vo 7 (.alloc 96 [(.val (.int .i64 0)),(.val (.int .i64 0)),(.val (.int .i64 0)),(.nl 2),(.val (.int .i64 0))]),
 vn (.store 96 5 (.t 7) (.t 40))])
 (.seq
 (.seq
 (rg [2, 3, 6, 7, 44] [
 vo 41 (.fa 27 2 2 1 (.t 3)),
 ld 42 24 41,
 vo 43 (.len false 24 (.t 42)),
 vo 44 (.bin false .gtr 3 (.t 43) (ci 0))])
 (.cond (.t 44)
 (.seq
 (rg [2, 3, 6, 7] [
 mv 45 2,
 vo 46 (.fa 27 1 1 1 (.t 3)),
 ld 47 2 46,
 vo 48 (.bin false .mul 2 (.t 45) (.t 47)),
 vo 49 (.bin false .quo 2 (.t 48) (ci 1000)),
 vo 50 (.fa 96 2 2 1 (.t 7)),
 vn (.store 2 1 (.t 50) (.t 49))])
 (rg [3, 6, 7] [
 mv 51 2,
 vo 52 (.fa 96 2 2 1 (.t 7)),
 ld 53 2 52,
 vo 54 (.bin false .sub 2 (.t 51) (.t 53)),
 vo 55 (.fa 27 2 2 1 (.t 3)),
 ld 56 24 55,
 vo 57 (.call 152 [(.t 54),(.t 56)]),
 vo 58 (.fa 96 3 3 1 (.t 7)),
 vn (.store 24 1 (.t 58) (.t 57))]))
 .skip))
 (.seq
 (rg [6, 7, 8] [
 vo 59 (.load 27 true 8 (.t 3)),
 vo 60 (.call 103 [(.t 59)]),
 vo 8 (.alloc 27 [(.val (.int .i64 0)),(.val (.int .i64 0)),(.nl 2),(.nl 5),(.nl 2),(.val (.int .i64 0)),(.val (.int .i64 0)),(.val (.int .i64 0))]),
 vn (.store 27 8 (.t 8) (.t 60))])
 (.seq
 (rg [6, 7, 8] [
 vo 61 (.fa 27 3 3 1 (.t 8)),
 ld 62 25 61,
 vo 63 (.load 96 true 5 (.t 7)),
 vo 64 (.lit 25 96 5 1 [(.val (.int .i64 0)),(.val (.int .i64 0)),(.val (.int .i64 0)),(.nl 2),(.val (.int .i64 0))] [(0,(.t 63))]),
 vo 65 (.app 25 96 5 56 (.t 62) (.t 64)),
 vo 66 (.fa 27 3 3 1 (.t 8)),
 vn (.store 25 1 (.t 66) (.t 65))])
 (.seq
 (rg [6] [
 vo 67 (.fa 96 2 2 1 (.t 7)),
 ld 68 2 67,
 vo 69 (.load 27 true 8 (.t 8)),
 vo 70 (.build 31 [(.val (.int .i64 0)),(.val (.int .i64 0)),(.val (.int .i64 0)),(.val (.int .i64 0)),(.nl 2),(.nl 5),(.nl 2),(.val (.int .i64 0)),(.val (.int .i64 0)),(.val (.int .i64 0))] [(1,1,1,(.t 68)),(2,2,8,(.t 69))]),
 vn (.store 31 10 (.t 6) (.t 70))])
 .ret))))))))))
 modes:=[.lend,.lend,.lend]
 rets:=[⟨6,some (true,10)⟩]}

/-- loop.example/g00539/spec.l14Lose -/
def v144 : VFun := {
 code:=
 (.seq
 (rg [1, 2, 4] [
 vo 2 (.box 27 (.t 0)),
 vo 4 (.alloc 31 [(.val (.int .i64 0)),(.val (.int .i64 0)),(.val (.int .i64 0)),(.val (.int .i64 0)),(.nl 2),(.nl 5),(.nl 2),(.val (.int .i64 0)),(.val (.int .i64 0)),(.val (.int .i64 0))])])
 (.seq
 (rg [2, 4, 5] [
 vo 8 (.fa 27 3 3 1 (.t 2)),
 ld 9 25 8,
 mv 10 1,
 vo 11 (.call 124 [(.t 9),(.t 10)]),
 sg 5 11])
 (.seq
 (.seq
 (rg [2, 4, 5, 13] [
 mv 12 5,
 vo 13 (.bin false .lss 3 (.t 12) (ci 0))])
 (.cond (.t 13)
 (.seq
 (rg [4] [
 vo 14 (.call 52 [(ci 4)]),
 vn (.store 31 10 (.t 4) (.t 14))])
 .ret)
 .skip))
 (.seq
 (rg [2, 4, 5, 6] [
 vo 15 (.fa 27 3 3 1 (.t 2)),
 ld 16 25 15,
 mv 17 5,
 vo 18 (.ia 25 96 5 (.t 16) (.t 17)),
 sg 6 18])
 (.seq
 (.seq
 (rg [2, 4, 5, 6, 23] [
 mv 19 6,
 vo 20 (.nilc (.t 19)),
 vo 21 (.fa 96 4 4 1 (.t 20)),
 ld 22 2 21,
 vo 23 (.bin false .eql 2 (.t 22) (ci 3))])
 (.cond (.t 23)
 (.seq
 (rg [4] [
 vo 24 (.call 52 [(ci 9)]),
 vn (.store 31 10 (.t 4) (.t 24))])
 .ret)
 .skip))
 (.seq
 (rg [2, 4, 5, 6, 7] [
 vo 25 (.load 27 true 8 (.t 2)),
 vo 26 (.call 103 [(.t 25)]),
 vo 7 (.alloc 27 [(.val (.int .i64 0)),(.val (.int .i64 0)),(.nl 2),(.nl 5),(.nl 2),(.val (.int .i64 0)),(.val (.int .i64 0)),(.val (.int .i64 0))]),
 vn (.store 27 8 (.t 7) (.t 26))])
 (.seq
 (.seq
 (rg [2, 4, 5, 6, 7, 31] [
 mv 27 6,
 vo 28 (.nilc (.t 27)),
 vo 29 (.fa 96 4 4 1 (.t 28)),
 ld 30 2 29,
 vo 31 (.bin false .eql 2 (.t 30) (ci 2))])
 (.cond (.t 31)
 (.region true [4, 5, 7] [
 vo 32 (.fa 27 7 7 1 (.t 2)),
 ld 33 2 32,
 ⟨some 34,.mov (.t 6),none,[0,1]⟩,
 ⟨some 35,.nilc (.t 34),none,[0,1]⟩,
 ⟨some 36,.fa 96 1 1 1 (.t 35),none,[0,1]⟩,
 ⟨some 37,.load 2 false 1 (.t 36),none,[0,1]⟩,
 vo 38 (.bin false .add 2 (.t 33) (.t 37)),
 vo 39 (.fa 27 7 7 1 (.t 7)),
 vn (.store 2 1 (.t 39) (.t 38))])
 .skip))
 (.seq
 (.seq
 (rg [4, 5, 7, 43] [
 vo 40 (.fa 27 7 7 1 (.t 7)),
 ld 41 2 40,
 vo 42 (.call 101 [(.t 41)]),
 vo 43 (.un .not (.t 42))])
 (.cond (.t 43)
 (.seq
 (rg [4] [
 vo 44 (.call 52 [(ci 7)]),
 vn (.store 31 10 (.t 4) (.t 44))])
 .ret)
 .skip))
 (.seq
 (rg [4, 7] [
 vo 45 (.fa 27 3 3 1 (.t 7)),
 ld 46 25 45,
 mv 47 5,
 vo 48 (.ia 25 96 5 (.t 46) (.t 47)),
 vo 49 (.fa 96 4 4 1 (.t 48)),
 vn (.store 2 1 (.t 49) (ci 3))])
 (.seq
 (rg [4] [
 vo 50 (.load 27 true 8 (.t 7)),
 vo 51 (.build 31 [(.val (.int .i64 0)),(.val (.int .i64 0)),(.val (.int .i64 0)),(.val (.int .i64 0)),(.nl 2),(.nl 5),(.nl 2),(.val (.int .i64 0)),(.val (.int .i64 0)),(.val (.int .i64 0))] [(2,2,8,(.t 50))]),
 vn (.store 31 10 (.t 4) (.t 51))])
 .ret))))))))))
 modes:=[.lend,.lend]
 rets:=[⟨4,some (true,10)⟩]}

def b152_2:VC:=
 (.seq
 (.seq
 (rg [7, 8, 9, 12, 13, 18, 19, 45, 57, 68] [
 mv 65 13,
 mv 66 8,
 vo 67 (.len false 132 (.t 66)),
 vo 68 (.bin false .lss 3 (.t 65) (.t 67))])
 (.cond (.t 68)
 .skip
 (.exit 4)))
 (.seq
 (.block 5
 (.seq
 (.region true [7, 8, 9, 12, 13, 18, 19, 45, 57, 79] [
 mv 71 8,
 ⟨some 72,.mov (.t 13),none,[0]⟩,
 vo 73 (.ia 132 2 1 (.t 71) (.t 72)),
 ld 74 2 73,
 ⟨some 75,.mov (.t 8),none,[0,1,2,3]⟩,
 ⟨some 76,.mov (.t 12),none,[0,1,2,3,4]⟩,
 ⟨some 77,.ia 132 2 1 (.t 75) (.t 76),none,[0,1,2,3]⟩,
 ⟨some 78,.load 2 false 1 (.t 77),none,[0,1,2,3]⟩,
 vo 79 (.bin false .gtr 2 (.t 74) (.t 78))])
 (.cond (.t 79)
 (rg [7, 8, 9, 12, 13, 18, 19, 45, 57] [
 mv 80 13,
 sg 12 80])
 .skip)))
 (rg [7, 8, 9, 12, 13, 18, 19, 45, 57] [
 mv 69 13,
 vo 70 (.bin false .add 3 (.t 69) (ci 1)),
 sg 13 70])))
def l152_2:VC:=.loop b152_2
def b152_1:VC:=
 (.seq
 (.seq
 (rg [7, 8, 9, 18, 19, 45, 57, 62] [
 mv 61 9,
 vo 62 (.bin false .gtr 2 (.t 61) (ci 0))])
 (.cond (.t 62)
 .skip
 (.exit 2)))
 (.seq
 (.block 3
 (.seq
 (rg [7, 8, 9, 12, 18, 19, 45, 57] [
 vo 12 (.asg (ci 0))])
 (.seq
 (.seq
 (rg [7, 8, 9, 12, 13, 18, 19, 45, 57] [
 vo 13 (.asg (ci 1))])
 (.block 4
 l152_2))
 (.seq
 (rg [7, 8, 9, 12, 18, 19, 45, 57] [
 mv 81 7,
 mv 82 12,
 vo 83 (.ia 24 34 2 (.t 81) (.t 82)),
 vo 84 (.fa 34 1 1 1 (.t 83)),
 ld 85 2 84,
 vo 86 (.bin false .add 2 (.t 85) (ci 1)),
 vo 87 (.ia 24 34 2 (.t 81) (.t 82)),
 vo 88 (.fa 34 1 1 1 (.t 87)),
 vn (.store 2 1 (.t 88) (.t 86))])
 (rg [7, 8, 9, 18, 19, 45, 57] [
 mv 89 8,
 mv 90 12,
 vo 91 (.ia 132 2 1 (.t 89) (.t 90)),
 vn (.store 2 1 (.t 91) (ci ((-1))))])))))
 (rg [7, 8, 9, 18, 19, 45, 57] [
 mv 63 9,
 vo 64 (.bin false .sub 2 (.t 63) (ci 1)),
 sg 9 64])))
def l152_1:VC:=.loop b152_1
def b152_0:VC:=
 (.seq
 (.seq
 (rg [0, 5, 6, 7, 8, 9, 10, 15, 18, 19, 24, 45, 57] [
 mv 21 10,
 mv 22 5,
 vo 23 (.len false 24 (.t 22)),
 vo 24 (.bin false .lss 3 (.t 21) (.t 23))])
 (.cond (.t 24)
 .skip
 (.exit 0)))
 (.seq
 (.block 1
 (.seq
 (rg [0, 5, 6, 7, 8, 9, 10, 11, 15, 18, 19, 45, 57] [
 mv 27 0,
 mv 28 5,
 mv 29 10,
 vo 30 (.ia 24 34 2 (.t 28) (.t 29)),
 vo 31 (.fa 34 1 1 1 (.t 30)),
 ld 32 2 31,
 vo 33 (.bin false .mul 2 (.t 27) (.t 32)),
 mv 34 6,
 vo 35 (.bin false .quo 2 (.t 33) (.t 34)),
 sg 11 35])
 (.seq
 (rg [0, 5, 6, 7, 8, 9, 10, 11, 15, 18, 19, 45, 57] [
 mv 36 7,
 mv 37 5,
 mv 38 10,
 vo 39 (.ia 24 34 2 (.t 37) (.t 38)),
 vo 40 (.fa 34 0 0 1 (.t 39)),
 ld 41 9 40,
 mv 42 11,
 vo 43 (.build 34 [(.val (.string (⟨#[]⟩:ByteArray))),(.val (.int .i64 0))] [(0,0,1,(.t 41)),(1,1,1,(.t 42))]),
 vo 44 (.lit 24 34 2 1 [(.val (.string (⟨#[]⟩:ByteArray))),(.val (.int .i64 0))] [(0,(.t 43))]),
 vo 45 (.app 24 34 2 24 (.t 36) (.t 44)),
 sg 7 45])
 (.seq
 (rg [0, 5, 6, 7, 8, 9, 10, 11, 15, 18, 19, 45, 57] [
 mv 46 8,
 mv 47 0,
 mv 48 5,
 mv 49 10,
 vo 50 (.ia 24 34 2 (.t 48) (.t 49)),
 vo 51 (.fa 34 1 1 1 (.t 50)),
 ld 52 2 51,
 vo 53 (.bin false .mul 2 (.t 47) (.t 52)),
 mv 54 6,
 vo 55 (.bin false .rem 2 (.t 53) (.t 54)),
 vo 56 (.lit 132 2 1 1 [(.val (.int .i64 0))] [(0,(.t 55))]),
 vo 57 (.app 132 2 1 8 (.t 46) (.t 56)),
 sg 8 57])
 (rg [0, 5, 6, 7, 8, 9, 10, 15, 18, 19, 45, 57] [
 mv 58 9,
 mv 59 11,
 vo 60 (.bin false .sub 2 (.t 58) (.t 59)),
 sg 9 60])))))
 (rg [0, 5, 6, 7, 8, 9, 10, 15, 18, 19, 45, 57] [
 mv 25 10,
 vo 26 (.bin false .add 3 (.t 25) (ci 1)),
 sg 10 26])))
def l152_0:VC:=.loop b152_0
/-- loop.example/g00539/spec.l13Split -/
def v152 : VFun := {
 code:=
 (.seq
 (rg [0, 1] [
 vo 4 (.asg (.n 2))])
 (.seq
 (rg [0, 5, 15] [
 mv 14 1,
 vo 15 (.call 157 [(.t 14)]),
 sg 5 15])
 (.seq
 (rg [0, 5, 6, 15] [
 mv 16 5,
 vo 17 (.call 99 [(.t 16)]),
 sg 6 17])
 (.seq
 (rg [0, 5, 6, 7, 15, 18, 45] [
 vo 18 (.lit 24 34 2 0 [(.val (.string (⟨#[]⟩:ByteArray))),(.val (.int .i64 0))] []),
 sg 7 18])
 (.seq
 (rg [0, 5, 6, 7, 8, 15, 18, 19, 45, 57] [
 vo 19 (.lit 132 2 1 0 [(.val (.int .i64 0))] []),
 sg 8 19])
 (.seq
 (rg [0, 5, 6, 7, 8, 9, 15, 18, 19, 45, 57] [
 mv 20 0,
 sg 9 20])
 (.seq
 (.seq
 (rg [0, 5, 6, 7, 8, 9, 10, 15, 18, 19, 45, 57] [
 vo 10 (.asg (ci 0))])
 (.block 0
 l152_0))
 (.seq
 (.block 2
 l152_1)
 (.seq
 (rg [4, 7, 18, 45] [
 mv 92 7,
 sg 4 92])
 .ret)))))))))
 modes:=[.lend,.lend]
 rets:=[⟨4,none⟩]}

def b157_0:VC:=
 (.seq
 (.seq
 (rg [0, 3, 4, 6, 10, 43] [
 mv 7 4,
 mv 8 0,
 vo 9 (.len false 24 (.t 8)),
 vo 10 (.bin false .lss 3 (.t 7) (.t 9))])
 (.cond (.t 10)
 .skip
 (.exit 0)))
 (.seq
 (.block 1
 (.seq
 (rg [0, 3, 4, 5, 6, 43] [
 mv 13 3,
 mv 14 0,
 mv 15 4,
 vo 16 (.ia 24 34 2 (.t 14) (.t 15)),
 vo 17 (.fa 34 0 0 1 (.t 16)),
 ld 18 9 17,
 vo 19 (.call 60 [(.t 13),(.t 18)]),
 sg 5 19])
 (.seq
 (rg [0, 3, 4, 5, 6, 21, 43] [
 mv 20 5,
 vo 21 (.bin false .geq 3 (.t 20) (ci 0))])
 (.cond (.t 21)
 (.region true [0, 3, 4, 6, 43] [
 mv 22 3,
 ⟨some 23,.mov (.t 5),none,[0]⟩,
 ⟨some 24,.mov (.t 3),none,[0,1]⟩,
 ⟨some 25,.mov (.t 5),none,[0,1,2]⟩,
 ⟨some 26,.ia 24 34 2 (.t 24) (.t 25),none,[0,1]⟩,
 ⟨some 27,.fa 34 1 1 1 (.t 26),none,[0,1]⟩,
 ⟨some 28,.load 2 false 1 (.t 27),none,[0,1]⟩,
 ⟨some 29,.mov (.t 0),none,[0,1,2,3,4,5,6]⟩,
 ⟨some 30,.mov (.t 4),none,[0,1,2,3,4,5,6,7]⟩,
 ⟨some 31,.ia 24 34 2 (.t 29) (.t 30),none,[0,1,2,3,4,5,6]⟩,
 ⟨some 32,.fa 34 1 1 1 (.t 31),none,[0,1,2,3,4,5,6]⟩,
 ⟨some 33,.load 2 false 1 (.t 32),none,[0,1,2,3,4,5,6]⟩,
 ⟨some 34,.bin false .add 2 (.t 28) (.t 33),none,[0,1]⟩,
 vo 35 (.ia 24 34 2 (.t 22) (.t 23)),
 vo 36 (.fa 34 1 1 1 (.t 35)),
 vn (.store 2 1 (.t 36) (.t 34))])
 (rg [0, 3, 4, 6, 43] [
 mv 37 3,
 mv 38 0,
 mv 39 4,
 vo 40 (.ia 24 34 2 (.t 38) (.t 39)),
 vo 41 (.load 34 true 2 (.t 40)),
 vo 42 (.lit 24 34 2 1 [(.val (.string (⟨#[]⟩:ByteArray))),(.val (.int .i64 0))] [(0,(.t 41))]),
 vo 43 (.app 24 34 2 24 (.t 37) (.t 42)),
 sg 3 43])))))
 (rg [0, 3, 4, 6, 43] [
 mv 11 4,
 vo 12 (.bin false .add 3 (.t 11) (ci 1)),
 sg 4 12])))
def l157_0:VC:=.loop b157_0
/-- loop.example/g00539/spec.l13Merge -/
def v157 : VFun := {
 code:=
 (.seq
 (rg [0] [
 vo 2 (.asg (.n 2))])
 (.seq
 (rg [0, 3, 6, 43] [
 vo 6 (.lit 24 34 2 0 [(.val (.string (⟨#[]⟩:ByteArray))),(.val (.int .i64 0))] []),
 sg 3 6])
 (.seq
 (.seq
 (rg [0, 3, 4, 6, 43] [
 vo 4 (.asg (ci 0))])
 (.block 0
 l157_0))
 (.seq
 (rg [2, 3, 6, 43] [
 mv 44 3,
 sg 2 44])
 .ret))))
 modes:=[.lend]
 rets:=[⟨2,none⟩]}

def tab:List (Nat × VFun):=[(3,v3),(6,v6),(7,v7),(8,v8),(9,v9),(10,v10),(11,v11),(12,v12),(13,v13),(14,v14),(15,v15),(16,v16),(17,v17),(38,v38),(39,v39),(40,v40),(41,v41),(42,v42),(43,v43),(44,v44),(45,v45),(46,v46),(47,v47),(48,v48),(49,v49),(50,v50),(51,v51),(52,v52),(53,v53),(54,v54),(55,v55),(56,v56),(57,v57),(58,v58),(59,v59),(60,v60),(61,v61),(71,v71),(72,v72),(78,v78),(82,v82),(89,v89),(90,v90),(91,v91),(92,v92),(93,v93),(95,v95),(96,v96),(97,v97),(98,v98),(99,v99),(100,v100),(101,v101),(102,v102),(103,v103),(104,v104),(105,v105),(115,v115),(116,v116),(119,v119),(124,v124),(125,v125),(128,v128),(129,v129),(135,v135),(136,v136),(137,v137),(140,v140),(143,v143),(144,v144),(152,v152),(157,v157)]
def F (f:FuncId):Option VFun:=getA none (tab.map fun x=>(x.1,some x.2)) f
theorem tab_ok:tab.all (fun x=>matchFun Tryd.prog x.1 x.2)=true:=by kernel_rfl
theorem F_mem {f:FuncId} {fn:VFun}:∀ {l:List (Nat × VFun)},getA none (l.map fun x=>(x.1,some x.2)) f=some fn→(f,fn)∈l
  |[],h=>by simp[getA] at h
  |(k,v)::l,h=>by
    simp only[List.map_cons,getA] at h
    split at h
    · rename_i e
      injection h with h
      subst e; subst h
      exact List.mem_cons_self ..
    · exact List.mem_cons_of_mem _ (F_mem h)
theorem F_ok (f:FuncId) (fn:VFun) (h:F f=some fn):matchFun Tryd.prog f fn=true:=List.all_eq_true.1 tab_ok _ (F_mem h)
end Go.Proofs.YtihjlmgakpgkeaaDoor.Pays
