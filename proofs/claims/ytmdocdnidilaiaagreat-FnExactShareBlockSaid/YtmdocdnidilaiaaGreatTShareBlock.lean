/- V's text of the functions that this law reaches. -/
import Derived.Test.YtmdocdnidilaiaaGreatVCode
import Derived.Test.YtmdocdnidilaiaaGreatRows
import Derived.KernelRfl
namespace Go.Proofs.YtmdocdnidilaiaaGreat.ShareBlock
open Go Go.Proofs.YtmdocdnidilaiaaGreat.V
set_option maxRecDepth 20000
def vo (d:Nat) (x:VOp):VO:=⟨some d,x,none,[]⟩
def vn (x:VOp):VO:=⟨none,x,none,[]⟩
def mv (d x:Nat):VO:=vo d (.mov (.t x))
def ld (d t x:Nat):VO:=vo d (.load t false 1 (.t x))
def sg (d x:Nat):VO:=vo d (.asg (.t x))
def og (d:Nat) (x:VOp) (g:Nat) (b:Bool):VO:=⟨some d,x,some (g,b),[]⟩
def ci (x:Int):VX:=.c (.int .i64 x)
def rg (k:List Nat) (o:List VO):VC:=.region false k o

/-- loop.example/g00539/laws.FnExactShareBlock -/
def v3 : VFun := {
 code:=
 (.seq
 (rg [1, 2, 3, 4] [
 vo 4 (.box 26 (.t 0)),
 vo 8 (.asg (.c (.bool false)))])
 (.seq
 (rg [1, 2, 3, 4, 9] [
 vo 9 (.asg (ci 1048576))])
 (.seq
 (rg [1, 2, 3, 4, 9] [
 vo 17 (.load 26 true 6 (.t 4)),
 mv 18 9,
 vo 19 (.call 6 [(.t 17),(.t 18)]),
 sg 9 19])
 (.seq
 (.seq
 (rg [1, 2, 3, 4, 21] [
 mv 20 9,
 vo 21 (.bin false .lss 3 (.t 20) (ci 0))])
 (.cond (.t 21)
 (.seq
 (rg [8] [
 vo 8 (.asg (.c (.bool true)))])
 .ret)
 .skip))
 (.seq
 (rg [1, 2, 3, 4, 10] [
 vo 22 (.load 26 true 6 (.t 4)),
 vo 23 (.call 8 [(.t 22)]),
 mv 24 1,
 mv 25 2,
 mv 26 3,
 vo 27 (.call 7 [(.t 23),(.t 24),(.t 25),(.t 26)]),
 vo 10 (.alloc 32 [(.val (.int .i64 0)),(.val (.int .i64 0)),(.val (.int .i64 0)),(.val (.int .i64 0)),(.val (.int .i64 0)),(.nl 3)]),
 vn (.store 32 6 (.t 10) (.t 27))])
 (.seq
 (rg [1, 2, 3, 4, 10, 11] [
 vo 28 (.load 26 true 6 (.t 4)),
 vo 29 (.call 8 [(.t 28)]),
 vo 11 (.alloc 35 [(.val (.int .i64 0)),(.val (.int .i64 0)),(.val (.int .i64 0)),(.val (.int .i64 0)),(.val (.int .i64 0)),(.nl 3)]),
 vn (.store 35 6 (.t 11) (.t 29))])
 (.seq
 (rg [1, 2, 3, 4, 10, 11, 12] [
 vo 30 (.load 35 true 6 (.t 11)),
 mv 31 1,
 mv 32 2,
 mv 33 3,
 vo 34 (.call 9 [(.t 30),(.t 31),(.t 32),(.t 33)]),
 vo 12 (.alloc 32 [(.val (.int .i64 0)),(.val (.int .i64 0)),(.val (.int .i64 0)),(.val (.int .i64 0)),(.val (.int .i64 0)),(.nl 3)]),
 vn (.store 32 6 (.t 12) (.t 34))])
 (.seq
 (.seq
 (rg [1, 2, 3, 4, 10, 11, 12, 38] [
 vo 35 (.load 32 true 6 (.t 12)),
 vo 36 (.load 32 true 6 (.t 10)),
 vo 37 (.call 10 [(.t 35),(.t 36)]),
 vo 38 (.un .not (.t 37))])
 (.cond (.t 38)
 (.seq
 (rg [8] [
 vo 8 (.asg (.c (.bool false)))])
 .ret)
 .skip))
 (.seq
 (.seq
 (.region true [1, 2, 3, 4, 10, 11, 12, 43] [
 vo 39 (.load 35 true 6 (.t 11)),
 ⟨some 40,.load 26 true 6 (.t 4),none,[0]⟩,
 ⟨some 41,.call 8 [(.t 40)],none,[0]⟩,
 vo 42 (.call 11 [(.t 39),(.t 41)]),
 vo 43 (.un .not (.t 42))])
 (.cond (.t 43)
 (.seq
 (rg [8] [
 vo 8 (.asg (.c (.bool false)))])
 .ret)
 .skip))
 (.seq
 (rg [1, 2, 3, 4, 10, 11, 12, 13] [
 vo 13 (.asg (ci 1))])
 (.seq
 (rg [1, 2, 3, 4, 10, 12, 13] [
 vo 44 (.load 35 true 6 (.t 11)),
 mv 45 13,
 vo 46 (.call 12 [(.t 44),(.t 45)]),
 sg 13 46])
 (.seq
 (.seq
 (rg [1, 2, 3, 4, 10, 12, 54] [
 mv 47 13,
 vo 48 (.bin false .lss 3 (.t 47) (ci 0)),
 mv 49 48,
 og 50 (.load 32 true 6 (.t 12)) 49 false,
 og 51 (.load 32 true 6 (.t 10)) 49 false,
 og 52 (.call 10 [(.t 50),(.t 51)]) 49 false,
 og 53 (.un .not (.t 52)) 49 false,
 vo 54 (.pick (.t 49) (.c (.bool true)) (.t 53))])
 (.cond (.t 54)
 (.seq
 (rg [8] [
 vo 8 (.asg (.c (.bool false)))])
 .ret)
 .skip))
 (.seq
 (rg [1, 2, 3, 4, 10, 12, 14] [
 vo 14 (.asg (ci 1))])
 (.seq
 (rg [1, 2, 3, 4, 10, 12, 14] [
 vo 55 (.load 32 true 6 (.t 12)),
 mv 56 14,
 vo 57 (.call 13 [(.t 55),(.t 56)]),
 sg 14 57])
 (.seq
 (rg [1, 2, 3, 4, 10, 12, 14, 15] [
 vo 15 (.asg (ci 1))])
 (.seq
 (rg [1, 2, 3, 4, 10, 12, 14, 15] [
 vo 58 (.load 32 true 6 (.t 12)),
 mv 59 15,
 vo 60 (.call 14 [(.t 58),(.t 59)]),
 sg 15 60])
 (.seq
 (.seq
 (rg [1, 2, 3, 4, 10, 12, 14, 15, 62] [
 mv 61 15,
 vo 62 (.bin false .lss 3 (.t 61) (ci 0))])
 (.cond (.t 62)
 (.seq
 (rg [8] [
 vo 8 (.asg (.c (.bool false)))])
 .ret)
 .skip))
 (.seq
 (.seq
 (rg [1, 2, 3, 4, 10, 12, 14, 65] [
 mv 63 15,
 mv 64 14,
 vo 65 (.bin false .neq 3 (.t 63) (.t 64))])
 (.cond (.t 65)
 (.seq
 (rg [8] [
 vo 8 (.asg (.c (.bool false)))])
 .ret)
 .skip))
 (.seq
 (rg [10, 12, 14, 16] [
 vo 66 (.load 26 true 6 (.t 4)),
 vo 67 (.call 8 [(.t 66)]),
 mv 68 1,
 mv 69 2,
 mv 70 3,
 vo 71 (.call 9 [(.t 67),(.t 68),(.t 69),(.t 70)]),
 vo 16 (.alloc 32 [(.val (.int .i64 0)),(.val (.int .i64 0)),(.val (.int .i64 0)),(.val (.int .i64 0)),(.val (.int .i64 0)),(.nl 3)]),
 vn (.store 32 6 (.t 16) (.t 71))])
 (.seq
 (.seq
 (rg [12, 14, 75] [
 vo 72 (.load 32 true 6 (.t 16)),
 vo 73 (.load 32 true 6 (.t 10)),
 vo 74 (.call 10 [(.t 72),(.t 73)]),
 vo 75 (.un .not (.t 74))])
 (.cond (.t 75)
 (.seq
 (rg [8] [
 vo 8 (.asg (.c (.bool false)))])
 .ret)
 .skip))
 (.seq
 (rg [12, 14, 15] [
 vo 15 (.asg (ci 1))])
 (.seq
 (rg [14, 15] [
 vo 76 (.load 32 true 6 (.t 12)),
 mv 77 15,
 vo 78 (.call 14 [(.t 76),(.t 77)]),
 sg 15 78])
 (.seq
 (.seq
 (rg [14, 15, 80] [
 mv 79 15,
 vo 80 (.bin false .lss 3 (.t 79) (ci 0))])
 (.cond (.t 80)
 (.seq
 (rg [8] [
 vo 8 (.asg (.c (.bool false)))])
 .ret)
 .skip))
 (.seq
 (.seq
 (rg [83] [
 mv 81 15,
 mv 82 14,
 vo 83 (.bin false .neq 3 (.t 81) (.t 82))])
 (.cond (.t 83)
 (.seq
 (rg [8] [
 vo 8 (.asg (.c (.bool false)))])
 .ret)
 .skip))
 (.seq
 (rg [8] [
 vo 8 (.asg (.c (.bool true)))])
 .ret)))))))))))))))))))))))))
 modes:=[.lend,.lend,.lend,.lend]
 rets:=[⟨8,none⟩]}

/-- loop.example/g00539/laws.szJob -/
def v6 : VFun := {
 code:=
 (.seq
 (rg [1, 2] [
 vo 2 (.box 26 (.t 0)),
 vo 4 (.asg (ci 0))])
 (.seq
 (rg [1] [
 vo 5 (.fa 26 1 1 5 (.t 2)),
 vo 6 (.load 24 true 5 (.t 5)),
 mv 7 1,
 vo 8 (.call 34 [(.t 6),(.t 7)]),
 sg 1 8])
 (.seq
 (.seq
 (rg [1, 10] [
 mv 9 1,
 vo 10 (.bin false .lss 3 (.t 9) (ci 0))])
 (.cond (.t 10)
 (.seq
 (rg [4] [
 vo 4 (.asg (ci ((-1))))])
 .ret)
 .skip))
 (.seq
 (rg [4] [
 mv 11 1,
 sg 4 11])
 .ret))))
 modes:=[.lend,.lend]
 rets:=[⟨4,none⟩]}

/-- loop.example/g00539/spec.ShareBlock -/
def v7 : VFun := {
 code:=
 (.seq
 (rg [1, 2, 3, 4, 8] [
 vo 4 (.box 35 (.t 0)),
 vo 8 (.alloc 32 [(.val (.int .i64 0)),(.val (.int .i64 0)),(.val (.int .i64 0)),(.val (.int .i64 0)),(.val (.int .i64 0)),(.nl 3)])])
 (.seq
 (.seq
 (rg [1, 2, 3, 4, 8, 9] [
 vo 12 (.call 35 [(.t 4)]),
 sg 9 12])
 (.seq
 (rg [1, 2, 3, 4, 8, 9, 14] [
 mv 13 9,
 vo 14 (.bin false .neq 2 (.t 13) (ci 0))])
 (.cond (.t 14)
 (.seq
 (rg [8] [
 mv 15 9,
 vo 16 (.build 32 [(.val (.int .i64 0)),(.val (.int .i64 0)),(.val (.int .i64 0)),(.val (.int .i64 0)),(.val (.int .i64 0)),(.nl 3)] [(0,0,1,(.t 15))]),
 vn (.store 32 6 (.t 8) (.t 16))])
 .ret)
 .skip)))
 (.seq
 (.seq
 (rg [1, 2, 3, 4, 8, 29] [
 mv 17 1,
 vo 18 (.call 36 [(.t 17),(ci 0),(ci 999)]),
 vo 19 (.un .not (.t 18)),
 mv 20 19,
 og 21 (.mov (.t 2)) 20 false,
 og 22 (.call 36 [(.t 21),(ci 1),(ci 99999)]) 20 false,
 og 23 (.un .not (.t 22)) 20 false,
 vo 24 (.pick (.t 20) (.c (.bool true)) (.t 23)),
 mv 25 24,
 og 26 (.mov (.t 3)) 25 false,
 og 27 (.call 36 [(.t 26),(ci 0),(ci 65535)]) 25 false,
 og 28 (.un .not (.t 27)) 25 false,
 vo 29 (.pick (.t 25) (.c (.bool true)) (.t 28))])
 (.cond (.t 29)
 (.seq
 (rg [8] [
 vo 30 (.build 32 [(.val (.int .i64 0)),(.val (.int .i64 0)),(.val (.int .i64 0)),(.val (.int .i64 0)),(.val (.int .i64 0)),(.nl 3)] [(0,0,1,(ci 3))]),
 vn (.store 32 6 (.t 8) (.t 30))])
 .ret)
 .skip))
 (.seq
 (rg [8, 10] [
 mv 31 1,
 mv 32 2,
 mv 33 3,
 vo 34 (.call 37 [(.t 4),(.t 31),(.t 32),(.t 33)]),
 vo 10 (.alloc 30 [(.val (.int .i64 0)),(.val (.int .i64 0)),(.val (.int .i64 0)),(.val (.int .i64 0)),(.nl 3)]),
 vn (.store 30 5 (.t 10) (.t 34))])
 (.seq
 (.seq
 (rg [8, 10, 11] [
 vo 35 (.call 38 [(.t 10)]),
 sg 11 35])
 (.seq
 (rg [8, 10, 11, 37] [
 mv 36 11,
 vo 37 (.bin false .neq 2 (.t 36) (ci 0))])
 (.cond (.t 37)
 (.seq
 (rg [8] [
 mv 38 11,
 vo 39 (.build 32 [(.val (.int .i64 0)),(.val (.int .i64 0)),(.val (.int .i64 0)),(.val (.int .i64 0)),(.val (.int .i64 0)),(.nl 3)] [(0,0,1,(.t 38))]),
 vn (.store 32 6 (.t 8) (.t 39))])
 .ret)
 .skip)))
 (.seq
 (rg [8] [
 vo 40 (.load 30 true 5 (.t 10)),
 vo 41 (.build 32 [(.val (.int .i64 0)),(.val (.int .i64 0)),(.val (.int .i64 0)),(.val (.int .i64 0)),(.val (.int .i64 0)),(.nl 3)] [(1,1,5,(.t 40))]),
 vn (.store 32 6 (.t 8) (.t 41))])
 .ret))))))
 modes:=[.lend,.lend,.lend,.lend]
 rets:=[⟨8,some (true,6)⟩]}

/-- loop.example/g00539/laws.toJob -/
def v8 : VFun := {
 code:=
 (.seq
 (rg [1, 2] [
 vo 1 (.box 26 (.t 0)),
 vo 2 (.alloc 35 [(.val (.int .i64 0)),(.val (.int .i64 0)),(.val (.int .i64 0)),(.val (.int .i64 0)),(.val (.int .i64 0)),(.nl 3)])])
 (.seq
 (rg [1, 2, 3] [
 vo 3 (.alloc 35 [(.val (.int .i64 0)),(.val (.int .i64 0)),(.val (.int .i64 0)),(.val (.int .i64 0)),(.val (.int .i64 0)),(.nl 3)])])
 (.seq
 (rg [1, 2, 3] [
 vo 4 (.fa 26 0 0 1 (.t 1)),
 ld 5 2 4,
 vo 6 (.fa 35 0 0 1 (.t 3)),
 vn (.store 2 1 (.t 6) (.t 5))])
 (.seq
 (rg [2, 3] [
 vo 7 (.fa 26 1 1 5 (.t 1)),
 vo 8 (.load 24 true 5 (.t 7)),
 vo 9 (.call 39 [(.t 8)]),
 vo 10 (.fa 35 1 1 5 (.t 3)),
 vn (.store 30 5 (.t 10) (.t 9))])
 (.seq
 (rg [2] [
 vo 11 (.load 35 true 6 (.t 3)),
 vn (.store 35 6 (.t 2) (.t 11))])
 .ret)))))
 modes:=[.lend]
 rets:=[⟨2,some (true,6)⟩]}

/-- loop.example/g00539/impl.ShareBlock -/
def v9 : VFun := {
 code:=
 (.seq
 (rg [1, 2, 3, 4, 8] [
 vo 4 (.box 35 (.t 0)),
 vo 8 (.alloc 32 [(.val (.int .i64 0)),(.val (.int .i64 0)),(.val (.int .i64 0)),(.val (.int .i64 0)),(.val (.int .i64 0)),(.nl 3)])])
 (.seq
 (.seq
 (rg [1, 2, 3, 4, 8, 9] [
 vo 12 (.load 35 true 6 (.t 4)),
 vo 13 (.lit 44 35 6 1 [(.val (.int .i64 0)),(.val (.int .i64 0)),(.val (.int .i64 0)),(.val (.int .i64 0)),(.val (.int .i64 0)),(.nl 3)] [(0,(.t 12))]),
 vo 14 (.call 40 [(.t 13)]),
 sg 9 14])
 (.seq
 (rg [1, 2, 3, 4, 8, 9, 16] [
 mv 15 9,
 vo 16 (.bin false .neq 2 (.t 15) (ci 0))])
 (.cond (.t 16)
 (.seq
 (rg [8] [
 mv 17 9,
 vo 18 (.build 32 [(.val (.int .i64 0)),(.val (.int .i64 0)),(.val (.int .i64 0)),(.val (.int .i64 0)),(.val (.int .i64 0)),(.nl 3)] [(0,0,1,(.t 17))]),
 vn (.store 32 6 (.t 8) (.t 18))])
 .ret)
 .skip)))
 (.seq
 (.seq
 (rg [1, 2, 3, 4, 8, 31] [
 mv 19 1,
 vo 20 (.call 41 [(.t 19),(ci 0),(ci 999)]),
 vo 21 (.un .not (.t 20)),
 mv 22 21,
 og 23 (.mov (.t 2)) 22 false,
 og 24 (.call 41 [(.t 23),(ci 1),(ci 99999)]) 22 false,
 og 25 (.un .not (.t 24)) 22 false,
 vo 26 (.pick (.t 22) (.c (.bool true)) (.t 25)),
 mv 27 26,
 og 28 (.mov (.t 3)) 27 false,
 og 29 (.call 41 [(.t 28),(ci 0),(ci 65535)]) 27 false,
 og 30 (.un .not (.t 29)) 27 false,
 vo 31 (.pick (.t 27) (.c (.bool true)) (.t 30))])
 (.cond (.t 31)
 (.seq
 (rg [8] [
 vo 32 (.build 32 [(.val (.int .i64 0)),(.val (.int .i64 0)),(.val (.int .i64 0)),(.val (.int .i64 0)),(.val (.int .i64 0)),(.nl 3)] [(0,0,1,(ci 3))]),
 vn (.store 32 6 (.t 8) (.t 32))])
 .ret)
 .skip))
 (.seq
 (rg [8, 10] [
 vo 33 (.load 35 true 6 (.t 4)),
 mv 34 1,
 mv 35 2,
 mv 36 3,
 vo 37 (.call 42 [(.t 33),(.t 34),(.t 35),(.t 36)]),
 vo 10 (.alloc 30 [(.val (.int .i64 0)),(.val (.int .i64 0)),(.val (.int .i64 0)),(.val (.int .i64 0)),(.nl 3)]),
 vn (.store 30 5 (.t 10) (.t 37))])
 (.seq
 (.seq
 (rg [8, 10, 11] [
 vo 38 (.load 30 true 5 (.t 10)),
 vo 39 (.call 43 [(.t 38)]),
 sg 11 39])
 (.seq
 (rg [8, 10, 11, 41] [
 mv 40 11,
 vo 41 (.bin false .neq 2 (.t 40) (ci 0))])
 (.cond (.t 41)
 (.seq
 (rg [8] [
 mv 42 11,
 vo 43 (.build 32 [(.val (.int .i64 0)),(.val (.int .i64 0)),(.val (.int .i64 0)),(.val (.int .i64 0)),(.val (.int .i64 0)),(.nl 3)] [(0,0,1,(.t 42))]),
 vn (.store 32 6 (.t 8) (.t 43))])
 .ret)
 .skip)))
 (.seq
 (rg [8] [
 vo 44 (.load 30 true 5 (.t 10)),
 vo 45 (.build 32 [(.val (.int .i64 0)),(.val (.int .i64 0)),(.val (.int .i64 0)),(.val (.int .i64 0)),(.val (.int .i64 0)),(.nl 3)] [(0,0,1,(ci 0)),(1,1,5,(.t 44))]),
 vn (.store 32 6 (.t 8) (.t 45))])
 .ret))))))
 modes:=[.lend,.lend,.lend,.lend]
 rets:=[⟨8,some (true,6)⟩]}

/-- loop.example/g00539/laws.eqBlockResult -/
def v10 : VFun := {
 code:=
 (.seq
 (rg [2, 3] [
 vo 2 (.box 32 (.t 0)),
 vo 3 (.box 32 (.t 1)),
 vo 4 (.asg (.c (.bool false)))])
 (.seq
 (.seq
 (rg [2, 3, 9] [
 vo 5 (.fa 32 0 0 1 (.t 2)),
 ld 6 2 5,
 vo 7 (.fa 32 0 0 1 (.t 3)),
 ld 8 2 7,
 vo 9 (.bin false .neq 2 (.t 6) (.t 8))])
 (.cond (.t 9)
 (.seq
 (rg [4] [
 vo 4 (.asg (.c (.bool false)))])
 .ret)
 .skip))
 (.seq
 (.seq
 (rg [15] [
 vo 10 (.fa 32 1 1 5 (.t 2)),
 vo 11 (.load 30 true 5 (.t 10)),
 vo 12 (.fa 32 1 1 5 (.t 3)),
 vo 13 (.load 30 true 5 (.t 12)),
 vo 14 (.call 44 [(.t 11),(.t 13)]),
 vo 15 (.un .not (.t 14))])
 (.cond (.t 15)
 (.seq
 (rg [4] [
 vo 4 (.asg (.c (.bool false)))])
 .ret)
 .skip))
 (.seq
 (rg [4] [
 vo 4 (.asg (.c (.bool true)))])
 .ret))))
 modes:=[.lend,.lend]
 rets:=[⟨4,none⟩]}

/-- loop.example/g00539/laws.eqJob -/
def v11 : VFun := {
 code:=
 (.seq
 (rg [2, 3] [
 vo 2 (.box 35 (.t 0)),
 vo 3 (.box 35 (.t 1)),
 vo 4 (.asg (.c (.bool false)))])
 (.seq
 (.seq
 (rg [2, 3, 9] [
 vo 5 (.fa 35 0 0 1 (.t 2)),
 ld 6 2 5,
 vo 7 (.fa 35 0 0 1 (.t 3)),
 ld 8 2 7,
 vo 9 (.bin false .neq 2 (.t 6) (.t 8))])
 (.cond (.t 9)
 (.seq
 (rg [4] [
 vo 4 (.asg (.c (.bool false)))])
 .ret)
 .skip))
 (.seq
 (.seq
 (rg [15] [
 vo 10 (.fa 35 1 1 5 (.t 2)),
 vo 11 (.load 30 true 5 (.t 10)),
 vo 12 (.fa 35 1 1 5 (.t 3)),
 vo 13 (.load 30 true 5 (.t 12)),
 vo 14 (.call 44 [(.t 11),(.t 13)]),
 vo 15 (.un .not (.t 14))])
 (.cond (.t 15)
 (.seq
 (rg [4] [
 vo 4 (.asg (.c (.bool false)))])
 .ret)
 .skip))
 (.seq
 (rg [4] [
 vo 4 (.asg (.c (.bool true)))])
 .ret))))
 modes:=[.lend,.lend]
 rets:=[⟨4,none⟩]}

/-- loop.example/g00539/laws.markJob -/
def v12 : VFun := {
 code:=
 (.seq
 (rg [0, 1, 2] [
 vo 2 (.box 35 (.t 0)),
 vo 4 (.asg (ci 0))])
 (.seq
 (rg [0, 1, 2] [
 vo 5 (.fa 35 1 1 5 (.t 2)),
 vo 6 (.load 30 true 5 (.t 5)),
 mv 7 1,
 vo 8 (.call 45 [(.t 6),(.t 7)]),
 sg 1 8])
 (.seq
 (rg [0, 2, 4] [
 mv 9 1,
 sg 4 9])
 .ret)))
 modes:=[.io,.lend]
 rets:=[⟨4,none⟩]}

/-- loop.example/g00539/laws.markBlockResult -/
def v13 : VFun := {
 code:=
 (.seq
 (rg [0, 1, 2] [
 vo 2 (.box 32 (.t 0)),
 vo 4 (.asg (ci 0))])
 (.seq
 (rg [0, 1, 2] [
 vo 5 (.fa 32 1 1 5 (.t 2)),
 vo 6 (.load 30 true 5 (.t 5)),
 mv 7 1,
 vo 8 (.call 45 [(.t 6),(.t 7)]),
 sg 1 8])
 (.seq
 (rg [0, 2, 4] [
 mv 9 1,
 sg 4 9])
 .ret)))
 modes:=[.io,.lend]
 rets:=[⟨4,none⟩]}

/-- loop.example/g00539/laws.heldBlockResult -/
def v14 : VFun := {
 code:=
 (.seq
 (rg [1, 2] [
 vo 2 (.box 32 (.t 0)),
 vo 4 (.asg (ci 0))])
 (.seq
 (rg [1] [
 vo 5 (.fa 32 1 1 5 (.t 2)),
 vo 6 (.load 30 true 5 (.t 5)),
 mv 7 1,
 vo 8 (.call 46 [(.t 6),(.t 7)]),
 sg 1 8])
 (.seq
 (.seq
 (rg [1, 10] [
 mv 9 1,
 vo 10 (.bin false .lss 3 (.t 9) (ci 0))])
 (.cond (.t 10)
 (.seq
 (rg [4] [
 vo 4 (.asg (ci ((-1))))])
 .ret)
 .skip))
 (.seq
 (rg [4] [
 mv 11 1,
 sg 4 11])
 .ret))))
 modes:=[.lend,.lend]
 rets:=[⟨4,none⟩]}

/-- loop.example/g00539/laws.szBlock -/
def v34 : VFun := {
 code:=
 (.seq
 (rg [1, 2] [
 vo 2 (.box 24 (.t 0)),
 vo 4 (.asg (ci 0))])
 (.seq
 (rg [1] [
 vo 5 (.fa 24 4 4 1 (.t 2)),
 ld 6 22 5,
 mv 7 1,
 vo 8 (.call 63 [(.t 6),(.t 7)]),
 sg 1 8])
 (.seq
 (.seq
 (rg [1, 10] [
 mv 9 1,
 vo 10 (.bin false .lss 3 (.t 9) (ci 0))])
 (.cond (.t 10)
 (.seq
 (rg [4] [
 vo 4 (.asg (ci ((-1))))])
 .ret)
 .skip))
 (.seq
 (rg [4] [
 mv 11 1,
 sg 4 11])
 .ret))))
 modes:=[.lend,.lend]
 rets:=[⟨4,none⟩]}

/-- loop.example/g00539/spec.l11One -/
def v35 : VFun := {
 code:=
 (.seq
 (rg [0] [
 vo 2 (.asg (ci 0))])
 (.seq
 (.seq
 (rg [0, 9] [
 mv 4 0,
 vo 5 (.nilc (.t 4)),
 vo 6 (.fa 35 0 0 1 (.t 5)),
 ld 7 2 6,
 vo 8 (.call 36 [(.t 7),(ci 0),(ci 9999)]),
 vo 9 (.un .not (.t 8))])
 (.cond (.t 9)
 (.seq
 (rg [2] [
 vo 2 (.asg (ci 3))])
 .ret)
 .skip))
 (.seq
 (.seq
 (rg [0, 3] [
 mv 10 0,
 vo 11 (.nilc (.t 10)),
 vo 12 (.fa 35 1 1 5 (.t 11)),
 vo 13 (.call 38 [(.t 12)]),
 sg 3 13])
 (.seq
 (rg [0, 3, 15] [
 mv 14 3,
 vo 15 (.bin false .neq 2 (.t 14) (ci 0))])
 (.cond (.t 15)
 (.seq
 (rg [2] [
 mv 16 3,
 sg 2 16])
 .ret)
 .skip)))
 (.seq
 (.seq
 (rg [26] [
 mv 17 0,
 vo 18 (.nilc (.t 17)),
 vo 19 (.fa 35 1 1 5 (.t 18)),
 vo 20 (.fa 30 4 4 1 (.t 19)),
 ld 21 28 20,
 vo 22 (.ia 28 98 3 (.t 21) (ci 0)),
 vo 23 (.fa 98 2 2 1 (.t 22)),
 ld 24 96 23,
 vo 25 (.len false 96 (.t 24)),
 vo 26 (.bin false .neq 3 (.t 25) (ci 2))])
 (.cond (.t 26)
 (.seq
 (rg [2] [
 vo 2 (.asg (ci 1))])
 .ret)
 .skip))
 (.seq
 (rg [2] [
 vo 2 (.asg (ci 0))])
 .ret)))))
 modes:=[.lend]
 rets:=[⟨2,none⟩]}

/-- loop.example/g00539/spec.l1In -/
def v36 : VFun := {
 code:=
 (.seq
 (rg [0, 1, 2] [
 vo 6 (.asg (.c (.bool false)))])
 (.seq
 (rg [6] [
 mv 7 0,
 mv 8 1,
 vo 9 (.bin false .geq 2 (.t 7) (.t 8)),
 mv 10 9,
 og 11 (.mov (.t 0)) 10 true,
 og 12 (.mov (.t 2)) 10 true,
 og 13 (.bin false .leq 2 (.t 11) (.t 12)) 10 true,
 vo 14 (.pick (.t 10) (.t 13) (.c (.bool false))),
 sg 6 14])
 .ret))
 modes:=[.lend,.lend,.lend]
 rets:=[⟨6,none⟩]}

/-- loop.example/g00539/spec.l11Block -/
def v37 : VFun := {
 code:=
 (.seq
 (rg [0, 1, 2, 3, 8] [
 vo 8 (.alloc 30 [(.val (.int .i64 0)),(.val (.int .i64 0)),(.val (.int .i64 0)),(.val (.int .i64 0)),(.nl 3)])])
 (.seq
 (rg [1, 2, 3, 8, 9] [
 mv 10 0,
 vo 11 (.nilc (.t 10)),
 vo 12 (.fa 35 1 1 5 (.t 11)),
 vo 13 (.load 30 true 5 (.t 12)),
 vo 14 (.call 64 [(.t 13)]),
 vo 9 (.alloc 30 [(.val (.int .i64 0)),(.val (.int .i64 0)),(.val (.int .i64 0)),(.val (.int .i64 0)),(.nl 3)]),
 vn (.store 30 5 (.t 9) (.t 14))])
 (.seq
 (rg [2, 3, 8, 9] [
 vo 15 (.fa 30 4 4 1 (.t 9)),
 ld 16 28 15,
 vo 17 (.ia 28 98 3 (.t 16) (ci 0)),
 vo 18 (.fa 98 2 2 1 (.t 17)),
 ld 19 96 18,
 mv 20 1,
 vo 21 (.bin false .add 2 (ci 100) (.t 20)),
 vo 22 (.lit 100 2 1 1 [(.val (.int .i64 0))] [(0,(.t 21))]),
 vo 23 (.ia 96 102 2 (.t 19) (ci 1)),
 vo 24 (.fa 102 1 1 1 (.t 23)),
 vn (.store 100 1 (.t 24) (.t 22))])
 (.seq
 (rg [3, 8, 9] [
 mv 25 2,
 vo 26 (.fa 30 1 1 1 (.t 9)),
 vn (.store 2 1 (.t 26) (.t 25))])
 (.seq
 (rg [8, 9] [
 mv 27 3,
 vo 28 (.fa 30 3 3 1 (.t 9)),
 vn (.store 2 1 (.t 28) (.t 27))])
 (.seq
 (rg [8] [
 vo 29 (.load 30 true 5 (.t 9)),
 vn (.store 30 5 (.t 8) (.t 29))])
 .ret))))))
 modes:=[.lend,.lend,.lend,.lend]
 rets:=[⟨8,some (true,5)⟩]}

def b38_0:VC:=
 (.seq
 (.seq
 (rg [0, 3, 55] [
 mv 49 3,
 mv 50 0,
 vo 51 (.nilc (.t 50)),
 vo 52 (.fa 30 4 4 1 (.t 51)),
 ld 53 28 52,
 vo 54 (.len false 28 (.t 53)),
 vo 55 (.bin false .lss 3 (.t 49) (.t 54))])
 (.cond (.t 55)
 .skip
 (.exit 0)))
 (.seq
 (.block 1
 (.seq
 (rg [0, 3, 4] [
 mv 58 0,
 vo 59 (.nilc (.t 58)),
 vo 60 (.fa 30 4 4 1 (.t 59)),
 ld 61 28 60,
 mv 62 3,
 vo 63 (.ia 28 98 3 (.t 61) (.t 62)),
 vo 64 (.call 67 [(.t 63)]),
 sg 4 64])
 (.seq
 (rg [0, 3, 4, 66] [
 mv 65 4,
 vo 66 (.bin false .neq 2 (.t 65) (ci 0))])
 (.cond (.t 66)
 (.seq
 (rg [2] [
 mv 67 4,
 sg 2 67])
 .ret)
 .skip))))
 (rg [0, 3] [
 mv 56 3,
 vo 57 (.bin false .add 3 (.t 56) (ci 1)),
 sg 3 57])))
def l38_0:VC:=.loop b38_0
/-- loop.example/g00539/spec.l6Fault -/
def v38 : VFun := {
 code:=
 (.seq
 (rg [0] [
 vo 2 (.asg (ci 0))])
 (.seq
 (.seq
 (rg [0, 34] [
 mv 5 0,
 vo 6 (.nilc (.t 5)),
 vo 7 (.fa 30 0 0 1 (.t 6)),
 ld 8 2 7,
 vo 9 (.call 65 [(.t 8)]),
 vo 10 (.un .not (.t 9)),
 mv 11 10,
 og 12 (.mov (.t 0)) 11 false,
 og 13 (.nilc (.t 12)) 11 false,
 og 14 (.fa 30 1 1 1 (.t 13)) 11 false,
 og 15 (.load 2 false 1 (.t 14)) 11 false,
 og 16 (.call 36 [(.t 15),(ci 1),(ci 99999)]) 11 false,
 og 17 (.un .not (.t 16)) 11 false,
 vo 18 (.pick (.t 11) (.c (.bool true)) (.t 17)),
 mv 19 18,
 og 20 (.mov (.t 0)) 19 false,
 og 21 (.nilc (.t 20)) 19 false,
 og 22 (.fa 30 2 2 1 (.t 21)) 19 false,
 og 23 (.load 2 false 1 (.t 22)) 19 false,
 og 24 (.call 66 [(.t 23)]) 19 false,
 og 25 (.un .not (.t 24)) 19 false,
 vo 26 (.pick (.t 19) (.c (.bool true)) (.t 25)),
 mv 27 26,
 og 28 (.mov (.t 0)) 27 false,
 og 29 (.nilc (.t 28)) 27 false,
 og 30 (.fa 30 3 3 1 (.t 29)) 27 false,
 og 31 (.load 2 false 1 (.t 30)) 27 false,
 og 32 (.call 36 [(.t 31),(ci 0),(ci 65535)]) 27 false,
 og 33 (.un .not (.t 32)) 27 false,
 vo 34 (.pick (.t 27) (.c (.bool true)) (.t 33))])
 (.cond (.t 34)
 (.seq
 (rg [2] [
 vo 2 (.asg (ci 3))])
 .ret)
 .skip))
 (.seq
 (.seq
 (rg [0, 48] [
 mv 35 0,
 vo 36 (.nilc (.t 35)),
 vo 37 (.fa 30 4 4 1 (.t 36)),
 ld 38 28 37,
 vo 39 (.len false 28 (.t 38)),
 vo 40 (.bin false .lss 3 (.t 39) (ci 1)),
 mv 41 40,
 og 42 (.mov (.t 0)) 41 false,
 og 43 (.nilc (.t 42)) 41 false,
 og 44 (.fa 30 4 4 1 (.t 43)) 41 false,
 og 45 (.load 28 false 1 (.t 44)) 41 false,
 og 46 (.len false 28 (.t 45)) 41 false,
 og 47 (.bin false .gtr 3 (.t 46) (ci 4)) 41 false,
 vo 48 (.pick (.t 41) (.c (.bool true)) (.t 47))])
 (.cond (.t 48)
 (.seq
 (rg [2] [
 vo 2 (.asg (ci 2))])
 .ret)
 .skip))
 (.seq
 (.seq
 (rg [0, 3] [
 vo 3 (.asg (ci 0))])
 (.block 0
 l38_0))
 (.seq
 (.seq
 (rg [0, 70] [
 mv 68 0,
 vo 69 (.call 68 [(.t 68)]),
 vo 70 (.un .not (.t 69))])
 (.cond (.t 70)
 (.seq
 (rg [2] [
 vo 2 (.asg (ci 1))])
 .ret)
 .skip))
 (.seq
 (.seq
 (rg [73] [
 mv 71 0,
 vo 72 (.call 70 [(.t 71)]),
 vo 73 (.call 69 [(.t 72)])])
 (.cond (.t 73)
 (.seq
 (rg [2] [
 vo 2 (.asg (ci 6))])
 .ret)
 .skip))
 (.seq
 (rg [2] [
 vo 2 (.asg (ci 0))])
 .ret)))))))
 modes:=[.lend]
 rets:=[⟨2,none⟩]}

/-- loop.example/g00539/laws.toBlock -/
def v39 : VFun := {
 code:=
 (.seq
 (rg [1, 2] [
 vo 1 (.box 24 (.t 0)),
 vo 2 (.alloc 30 [(.val (.int .i64 0)),(.val (.int .i64 0)),(.val (.int .i64 0)),(.val (.int .i64 0)),(.nl 3)])])
 (.seq
 (rg [1, 2, 3] [
 vo 3 (.alloc 30 [(.val (.int .i64 0)),(.val (.int .i64 0)),(.val (.int .i64 0)),(.val (.int .i64 0)),(.nl 3)])])
 (.seq
 (rg [1, 2, 3] [
 vo 4 (.fa 24 0 0 1 (.t 1)),
 ld 5 2 4,
 vo 6 (.fa 30 0 0 1 (.t 3)),
 vn (.store 2 1 (.t 6) (.t 5))])
 (.seq
 (rg [1, 2, 3] [
 vo 7 (.fa 24 1 1 1 (.t 1)),
 ld 8 2 7,
 vo 9 (.fa 30 1 1 1 (.t 3)),
 vn (.store 2 1 (.t 9) (.t 8))])
 (.seq
 (rg [1, 2, 3] [
 vo 10 (.fa 24 2 2 1 (.t 1)),
 ld 11 2 10,
 vo 12 (.fa 30 2 2 1 (.t 3)),
 vn (.store 2 1 (.t 12) (.t 11))])
 (.seq
 (rg [1, 2, 3] [
 vo 13 (.fa 24 3 3 1 (.t 1)),
 ld 14 2 13,
 vo 15 (.fa 30 3 3 1 (.t 3)),
 vn (.store 2 1 (.t 15) (.t 14))])
 (.seq
 (rg [2, 3] [
 vo 16 (.fa 24 4 4 1 (.t 1)),
 ld 17 22 16,
 vo 18 (.call 71 [(.t 17)]),
 vo 19 (.fa 30 4 4 1 (.t 3)),
 vn (.store 28 1 (.t 19) (.t 18))])
 (.seq
 (rg [2] [
 vo 20 (.load 30 true 5 (.t 3)),
 vn (.store 30 5 (.t 2) (.t 20))])
 .ret))))))))
 modes:=[.lend]
 rets:=[⟨2,some (true,5)⟩]}

def b40_0:VC:=
 (.seq
 (rg [0, 9, 10, 11, 12] [
 vo 12 (.bin false .lss 3 (.t 11) (.t 10))])
 (.seq
 (.cond (.t 12)
 .skip
 (.exit 0))
 (.seq
 (.block 1
 (.seq
 (rg [0, 3, 4, 9, 10, 11] [
 mv 13 11,
 vo 14 (.ia 44 35 6 (.t 9) (.t 11)),
 vo 15 (.load 35 true 6 (.t 14)),
 vo 4 (.alloc 35 [(.val (.int .i64 0)),(.val (.int .i64 0)),(.val (.int .i64 0)),(.val (.int .i64 0)),(.val (.int .i64 0)),(.nl 3)]),
 sg 3 13,
 vn (.store 35 6 (.t 4) (.t 15))])
 (.seq
 (.seq
 (rg [0, 3, 4, 9, 10, 11, 19] [
 vo 16 (.fa 35 0 0 1 (.t 4)),
 ld 17 2 16,
 vo 18 (.call 72 [(.t 17)]),
 vo 19 (.un .not (.t 18))])
 (.cond (.t 19)
 (.seq
 (rg [2] [
 vo 2 (.asg (ci 3))])
 .ret)
 .skip))
 (.seq
 (.seq
 (rg [0, 3, 4, 5, 9, 10, 11] [
 vo 20 (.fa 35 1 1 5 (.t 4)),
 vo 21 (.load 30 true 5 (.t 20)),
 vo 22 (.call 43 [(.t 21)]),
 sg 5 22])
 (.seq
 (rg [0, 3, 4, 5, 9, 10, 11, 24] [
 mv 23 5,
 vo 24 (.bin false .neq 2 (.t 23) (ci 0))])
 (.cond (.t 24)
 (.seq
 (rg [2] [
 mv 25 5,
 sg 2 25])
 .ret)
 .skip)))
 (.seq
 (.region true [0, 9, 10, 11, 48] [
 vo 26 (.fa 35 1 1 5 (.t 4)),
 vo 27 (.fa 30 4 4 1 (.t 26)),
 ld 28 28 27,
 vo 29 (.ia 28 98 3 (.t 28) (ci 0)),
 vo 30 (.fa 98 2 2 1 (.t 29)),
 ld 31 96 30,
 vo 32 (.len false 96 (.t 31)),
 vo 33 (.bin false .neq 3 (.t 32) (ci 2)),
 mv 34 33,
 og 35 (.mov (.t 3)) 34 false,
 og 36 (.bin false .gtr 3 (.t 35) (ci 0)) 34 false,
 og 37 (.mov (.t 36)) 34 false,
 og 38 (.mov (.t 0)) 37 true,
 ⟨some 39,.mov (.t 3),some (37,true),[12]⟩,
 ⟨some 40,.bin false .sub 3 (.t 39) (ci 1),some (37,true),[12]⟩,
 og 41 (.ia 44 35 6 (.t 38) (.t 40)) 37 true,
 og 42 (.fa 35 0 0 1 (.t 41)) 37 true,
 og 43 (.load 2 false 1 (.t 42)) 37 true,
 ⟨some 44,.fa 35 0 0 1 (.t 4),some (37,true),[12,13,14,15,16,17]⟩,
 ⟨some 45,.load 2 false 1 (.t 44),some (37,true),[12,13,14,15,16,17]⟩,
 og 46 (.bin false .geq 2 (.t 43) (.t 45)) 37 true,
 og 47 (.pick (.t 37) (.t 46) (.c (.bool false))) 34 false,
 vo 48 (.pick (.t 34) (.c (.bool true)) (.t 47))])
 (.cond (.t 48)
 (.seq
 (rg [2] [
 vo 2 (.asg (ci 1))])
 .ret)
 .skip))))))
 (rg [0, 9, 10, 11] [
 vo 49 (.bin false .add 3 (.t 11) (ci 1)),
 mv 11 49]))))
def l40_0:VC:=.loop b40_0
/-- loop.example/g00539/impl.JobsFault -/
def v40 : VFun := {
 code:=
 (.seq
 (rg [0] [
 vo 2 (.asg (ci 0))])
 (.seq
 (.seq
 (rg [0, 8] [
 mv 6 0,
 vo 7 (.len false 44 (.t 6)),
 vo 8 (.bin false .gtr 3 (.t 7) (ci 4))])
 (.cond (.t 8)
 (.seq
 (rg [2] [
 vo 2 (.asg (ci 2))])
 .ret)
 .skip))
 (.seq
 (.seq
 (rg [0, 9, 10, 11] [
 mv 9 0,
 vo 10 (.len false 44 (.t 9)),
 vo 11 (.mov (ci 0))])
 (.block 0
 l40_0))
 (.seq
 (rg [2] [
 vo 2 (.asg (ci 0))])
 .ret))))
 modes:=[.lend]
 rets:=[⟨2,none⟩]}

/-- loop.example/g00539/impl.in -/
def v41 : VFun := {
 code:=
 (.seq
 (rg [0, 1, 2] [
 vo 6 (.asg (.c (.bool false)))])
 (.seq
 (rg [6] [
 mv 7 0,
 mv 8 1,
 vo 9 (.bin false .geq 2 (.t 7) (.t 8)),
 mv 10 9,
 og 11 (.mov (.t 0)) 10 true,
 og 12 (.mov (.t 2)) 10 true,
 og 13 (.bin false .leq 2 (.t 11) (.t 12)) 10 true,
 vo 14 (.pick (.t 10) (.t 13) (.c (.bool false))),
 sg 6 14])
 .ret))
 modes:=[.lend,.lend,.lend]
 rets:=[⟨6,none⟩]}

/-- loop.example/g00539/impl.shareBlock -/
def v42 : VFun := {
 code:=
 (.seq
 (rg [1, 2, 3, 4, 8] [
 vo 4 (.box 35 (.t 0)),
 vo 8 (.alloc 30 [(.val (.int .i64 0)),(.val (.int .i64 0)),(.val (.int .i64 0)),(.val (.int .i64 0)),(.nl 3)])])
 (.seq
 (rg [1, 2, 3, 8, 9] [
 vo 10 (.fa 35 1 1 5 (.t 4)),
 vo 11 (.load 30 true 5 (.t 10)),
 vo 12 (.call 73 [(.t 11)]),
 vo 9 (.alloc 30 [(.val (.int .i64 0)),(.val (.int .i64 0)),(.val (.int .i64 0)),(.val (.int .i64 0)),(.nl 3)]),
 vn (.store 30 5 (.t 9) (.t 12))])
 (.seq
 (.region true [8, 9] [
 vo 13 (.fa 30 4 4 1 (.t 9)),
 ld 14 28 13,
 vo 15 (.ia 28 98 3 (.t 14) (ci 0)),
 vo 16 (.fa 98 2 2 1 (.t 15)),
 ld 17 96 16,
 ⟨some 18,.mov (.t 2),none,[0,1,2,3,4]⟩,
 ⟨some 19,.mov (.t 3),none,[0,1,2,3,4,5]⟩,
 ⟨some 20,.mov (.t 1),none,[0,1,2,3,4,5,6]⟩,
 ⟨some 21,.bin false .add 2 (ci 100) (.t 20),none,[0,1,2,3,4,5,6]⟩,
 ⟨some 22,.lit 100 2 1 1 [(.val (.int .i64 0))] [(0,(.t 21))],none,[0,1,2,3,4,5,6]⟩,
 ⟨some 23,.fa 30 1 1 1 (.t 9),none,[2,3,4,6,7,8,9]⟩,
 ⟨none,.store 2 1 (.t 23) (.t 18),none,[2,3,4,6,7,8,9]⟩,
 ⟨some 24,.fa 30 3 3 1 (.t 9),none,[2,3,4,7,8,9]⟩,
 ⟨none,.store 2 1 (.t 24) (.t 19),none,[2,3,4,7,8,9]⟩,
 vo 25 (.ia 96 102 2 (.t 17) (ci 1)),
 vo 26 (.fa 102 1 1 1 (.t 25)),
 vn (.store 100 1 (.t 26) (.t 22))])
 (.seq
 (rg [8] [
 vo 27 (.load 30 true 5 (.t 9)),
 vn (.store 30 5 (.t 8) (.t 27))])
 .ret))))
 modes:=[.lend,.lend,.lend,.lend]
 rets:=[⟨8,some (true,5)⟩]}

def b43_1:VC:=
 (.seq
 (rg [1, 51, 52, 53, 54] [
 vo 54 (.bin false .lss 3 (.t 53) (.t 52))])
 (.seq
 (.cond (.t 54)
 .skip
 (.exit 3))
 (.seq
 (.block 4
 (.seq
 (rg [1, 6, 7, 51, 52, 53] [
 mv 55 53,
 vo 56 (.ia 28 98 3 (.t 51) (.t 53)),
 vo 57 (.load 98 true 3 (.t 56)),
 vo 7 (.alloc 98 [(.val (.int .i64 0)),(.nl 3),(.nl 2)]),
 sg 6 55,
 vn (.store 98 3 (.t 7) (.t 57))])
 (.seq
 (rg [1, 51, 52, 53, 62] [
 vo 58 (.load 98 true 3 (.t 7)),
 vo 59 (.call 77 [(.t 58)]),
 mv 60 6,
 vo 61 (.bin false .eql 3 (.t 60) (ci 0)),
 vo 62 (.bin true .neq 4 (.t 59) (.t 61))])
 (.cond (.t 62)
 (.seq
 (rg [2] [
 vo 2 (.asg (ci 1))])
 .ret)
 .skip))))
 (rg [1, 51, 52, 53] [
 vo 63 (.bin false .add 3 (.t 53) (ci 1)),
 mv 53 63]))))
def l43_1:VC:=.loop b43_1
def b43_0:VC:=
 (.seq
 (rg [1, 38, 39, 40, 41] [
 vo 41 (.bin false .lss 3 (.t 40) (.t 39))])
 (.seq
 (.cond (.t 41)
 .skip
 (.exit 1))
 (.seq
 (.block 2
 (.seq
 (rg [1, 4, 38, 39, 40] [
 vo 42 (.ia 28 98 3 (.t 38) (.t 40)),
 vo 43 (.load 98 true 3 (.t 42)),
 vo 4 (.alloc 98 [(.val (.int .i64 0)),(.nl 3),(.nl 2)]),
 vn (.store 98 3 (.t 4) (.t 43))])
 (.seq
 (rg [1, 5, 38, 39, 40] [
 vo 44 (.load 98 true 3 (.t 4)),
 vo 45 (.call 76 [(.t 44)]),
 sg 5 45])
 (.seq
 (rg [1, 5, 38, 39, 40, 47] [
 mv 46 5,
 vo 47 (.bin false .neq 2 (.t 46) (ci 0))])
 (.cond (.t 47)
 (.seq
 (rg [2] [
 mv 48 5,
 sg 2 48])
 .ret)
 .skip)))))
 (rg [1, 38, 39, 40] [
 vo 49 (.bin false .add 3 (.t 40) (ci 1)),
 mv 40 49]))))
def l43_0:VC:=.loop b43_0
/-- loop.example/g00539/impl.BlockFault -/
def v43 : VFun := {
 code:=
 (.seq
 (rg [1] [
 vo 1 (.box 30 (.t 0)),
 vo 2 (.asg (ci 0))])
 (.seq
 (.block 0
 (.seq
 (rg [1, 8] [
 vo 9 (.fa 30 0 0 1 (.t 1)),
 ld 10 2 9,
 vo 11 (.call 74 [(.t 10)]),
 vo 12 (.un .not (.t 11)),
 mv 13 12,
 og 14 (.fa 30 1 1 1 (.t 1)) 13 false,
 og 15 (.load 2 false 1 (.t 14)) 13 false,
 og 16 (.call 41 [(.t 15),(ci 1),(ci 99999)]) 13 false,
 og 17 (.un .not (.t 16)) 13 false,
 vo 18 (.pick (.t 13) (.c (.bool true)) (.t 17)),
 mv 19 18,
 og 20 (.fa 30 2 2 1 (.t 1)) 19 false,
 og 21 (.load 2 false 1 (.t 20)) 19 false,
 og 22 (.call 75 [(.t 21)]) 19 false,
 og 23 (.un .not (.t 22)) 19 false,
 vo 24 (.pick (.t 19) (.c (.bool true)) (.t 23)),
 mv 25 24,
 og 26 (.fa 30 3 3 1 (.t 1)) 25 false,
 og 27 (.load 2 false 1 (.t 26)) 25 false,
 og 28 (.call 41 [(.t 27),(ci 0),(ci 65535)]) 25 false,
 og 29 (.un .not (.t 28)) 25 false,
 vo 30 (.pick (.t 25) (.c (.bool true)) (.t 29)),
 sg 8 30])
 (.cond (.t 8)
 (.seq
 (rg [2] [
 vo 2 (.asg (ci 3))])
 .ret)
 (.seq
 (rg [1, 31] [
 vo 32 (.fa 30 4 4 1 (.t 1)),
 ld 33 28 32,
 vo 34 (.len false 28 (.t 33)),
 vo 35 (.call 41 [(.t 34),(ci 1),(ci 4)]),
 vo 36 (.un .not (.t 35)),
 sg 31 36])
 (.cond (.t 31)
 (.seq
 (rg [2] [
 vo 2 (.asg (ci 2))])
 .ret)
 .skip)))))
 (.seq
 (.seq
 (rg [1, 38, 39, 40] [
 vo 37 (.fa 30 4 4 1 (.t 1)),
 ld 38 28 37,
 vo 39 (.len false 28 (.t 38)),
 vo 40 (.mov (ci 0))])
 (.block 1
 l43_0))
 (.seq
 (.seq
 (rg [1, 51, 52, 53] [
 vo 50 (.fa 30 4 4 1 (.t 1)),
 ld 51 28 50,
 vo 52 (.len false 28 (.t 51)),
 vo 53 (.mov (ci 0))])
 (.block 3
 l43_1))
 (.seq
 (.seq
 (rg [66] [
 vo 64 (.load 30 true 5 (.t 1)),
 vo 65 (.call 79 [(.t 64)]),
 vo 66 (.call 78 [(.t 65)])])
 (.cond (.t 66)
 (.seq
 (rg [2] [
 vo 2 (.asg (ci 6))])
 .ret)
 .skip))
 (.seq
 (rg [2] [
 vo 2 (.asg (ci 0))])
 .ret))))))
 modes:=[.lend]
 rets:=[⟨2,none⟩]}

/-- loop.example/g00539/laws.eqBlock -/
def v44 : VFun := {
 code:=
 (.seq
 (rg [2, 3] [
 vo 2 (.box 30 (.t 0)),
 vo 3 (.box 30 (.t 1)),
 vo 4 (.asg (.c (.bool false)))])
 (.seq
 (.seq
 (rg [2, 3, 9] [
 vo 5 (.fa 30 0 0 1 (.t 2)),
 ld 6 2 5,
 vo 7 (.fa 30 0 0 1 (.t 3)),
 ld 8 2 7,
 vo 9 (.bin false .neq 2 (.t 6) (.t 8))])
 (.cond (.t 9)
 (.seq
 (rg [4] [
 vo 4 (.asg (.c (.bool false)))])
 .ret)
 .skip))
 (.seq
 (.seq
 (rg [2, 3, 14] [
 vo 10 (.fa 30 1 1 1 (.t 2)),
 ld 11 2 10,
 vo 12 (.fa 30 1 1 1 (.t 3)),
 ld 13 2 12,
 vo 14 (.bin false .neq 2 (.t 11) (.t 13))])
 (.cond (.t 14)
 (.seq
 (rg [4] [
 vo 4 (.asg (.c (.bool false)))])
 .ret)
 .skip))
 (.seq
 (.seq
 (rg [2, 3, 19] [
 vo 15 (.fa 30 2 2 1 (.t 2)),
 ld 16 2 15,
 vo 17 (.fa 30 2 2 1 (.t 3)),
 ld 18 2 17,
 vo 19 (.bin false .neq 2 (.t 16) (.t 18))])
 (.cond (.t 19)
 (.seq
 (rg [4] [
 vo 4 (.asg (.c (.bool false)))])
 .ret)
 .skip))
 (.seq
 (.seq
 (rg [2, 3, 24] [
 vo 20 (.fa 30 3 3 1 (.t 2)),
 ld 21 2 20,
 vo 22 (.fa 30 3 3 1 (.t 3)),
 ld 23 2 22,
 vo 24 (.bin false .neq 2 (.t 21) (.t 23))])
 (.cond (.t 24)
 (.seq
 (rg [4] [
 vo 4 (.asg (.c (.bool false)))])
 .ret)
 .skip))
 (.seq
 (.seq
 (rg [30] [
 vo 25 (.fa 30 4 4 1 (.t 2)),
 ld 26 28 25,
 vo 27 (.fa 30 4 4 1 (.t 3)),
 ld 28 28 27,
 vo 29 (.call 80 [(.t 26),(.t 28)]),
 vo 30 (.un .not (.t 29))])
 (.cond (.t 30)
 (.seq
 (rg [4] [
 vo 4 (.asg (.c (.bool false)))])
 .ret)
 .skip))
 (.seq
 (rg [4] [
 vo 4 (.asg (.c (.bool true)))])
 .ret)))))))
 modes:=[.lend,.lend]
 rets:=[⟨4,none⟩]}

/-- loop.example/g00539/laws.markBlock -/
def v45 : VFun := {
 code:=
 (.seq
 (rg [0, 1, 2] [
 vo 2 (.box 30 (.t 0)),
 vo 4 (.asg (ci 0))])
 (.seq
 (rg [0, 1, 2] [
 vo 5 (.fa 30 4 4 1 (.t 2)),
 ld 6 28 5,
 mv 7 1,
 vo 8 (.call 51 [(.t 6),(.t 7)]),
 sg 1 8])
 (.seq
 (rg [0, 2, 4] [
 mv 9 1,
 sg 4 9])
 .ret)))
 modes:=[.io,.lend]
 rets:=[⟨4,none⟩]}

/-- loop.example/g00539/laws.heldBlock -/
def v46 : VFun := {
 code:=
 (.seq
 (rg [1, 2] [
 vo 2 (.box 30 (.t 0)),
 vo 4 (.asg (ci 0))])
 (.seq
 (rg [1] [
 vo 5 (.fa 30 4 4 1 (.t 2)),
 ld 6 28 5,
 mv 7 1,
 vo 8 (.call 81 [(.t 6),(.t 7)]),
 sg 1 8])
 (.seq
 (.seq
 (rg [1, 10] [
 mv 9 1,
 vo 10 (.bin false .lss 3 (.t 9) (ci 0))])
 (.cond (.t 10)
 (.seq
 (rg [4] [
 vo 4 (.asg (ci ((-1))))])
 .ret)
 .skip))
 (.seq
 (rg [4] [
 mv 11 1,
 sg 4 11])
 .ret))))
 modes:=[.lend,.lend]
 rets:=[⟨4,none⟩]}

def b51_0:VC:=
 (.seq
 (.seq
 (rg [0, 1, 5, 9] [
 mv 6 5,
 mv 7 0,
 vo 8 (.len false 28 (.t 7)),
 vo 9 (.bin false .lss 3 (.t 6) (.t 8))])
 (.cond (.t 9)
 .skip
 (.exit 0)))
 (.seq
 (.block 1
 (.seq
 (rg [0, 1, 5] [
 mv 12 0,
 mv 13 5,
 mv 14 1,
 vo 15 (.ia 28 98 3 (.t 12) (.t 13)),
 vo 16 (.fa 98 0 0 1 (.t 15)),
 vn (.store 2 1 (.t 16) (.t 14))])
 (.seq
 (rg [0, 1, 5] [
 mv 17 1,
 vo 18 (.bin false .add 3 (.t 17) (ci 1)),
 sg 1 18])
 (.seq
 (rg [0, 1, 5] [
 mv 19 0,
 mv 20 5,
 vo 21 (.ia 28 98 3 (.t 19) (.t 20)),
 vo 22 (.fa 98 1 1 1 (.t 21)),
 ld 23 95 22,
 mv 24 1,
 vo 25 (.call 83 [(.t 23),(.t 24)]),
 sg 1 25])
 (rg [0, 1, 5] [
 mv 26 0,
 mv 27 5,
 vo 28 (.ia 28 98 3 (.t 26) (.t 27)),
 vo 29 (.fa 98 2 2 1 (.t 28)),
 ld 30 96 29,
 mv 31 1,
 vo 32 (.call 84 [(.t 30),(.t 31)]),
 sg 1 32])))))
 (rg [0, 1, 5] [
 mv 10 5,
 vo 11 (.bin false .add 3 (.t 10) (ci 1)),
 sg 5 11])))
def l51_0:VC:=.loop b51_0
/-- loop.example/g00539/laws.markTxS -/
def v51 : VFun := {
 code:=
 (.seq
 (rg [0, 1] [
 vo 4 (.asg (ci 0))])
 (.seq
 (.seq
 (rg [0, 1, 5] [
 vo 5 (.asg (ci 0))])
 (.block 0
 l51_0))
 (.seq
 (rg [0, 4] [
 mv 33 1,
 sg 4 33])
 .ret)))
 modes:=[.io,.lend]
 rets:=[⟨4,none⟩]}

def b63_0:VC:=
 (.seq
 (.seq
 (rg [0, 1, 5, 15] [
 mv 12 5,
 mv 13 0,
 vo 14 (.len false 22 (.t 13)),
 vo 15 (.bin false .lss 3 (.t 12) (.t 14))])
 (.cond (.t 15)
 .skip
 (.exit 0)))
 (.seq
 (.block 1
 (.seq
 (rg [0, 1, 5] [
 mv 18 0,
 mv 19 5,
 vo 20 (.ia 22 123 3 (.t 18) (.t 19)),
 vo 21 (.load 123 true 3 (.t 20)),
 mv 22 1,
 vo 23 (.call 94 [(.t 21),(.t 22)]),
 sg 1 23])
 (.seq
 (rg [0, 1, 5, 25] [
 mv 24 1,
 vo 25 (.bin false .lss 3 (.t 24) (ci 0))])
 (.cond (.t 25)
 (.seq
 (rg [4] [
 vo 4 (.asg (ci ((-1))))])
 .ret)
 .skip))))
 (rg [0, 1, 5] [
 mv 16 5,
 vo 17 (.bin false .add 3 (.t 16) (ci 1)),
 sg 5 17])))
def l63_0:VC:=.loop b63_0
/-- loop.example/g00539/laws.szTxS -/
def v63 : VFun := {
 code:=
 (.seq
 (rg [0, 1] [
 vo 4 (.asg (ci 0))])
 (.seq
 (rg [0, 1] [
 mv 6 1,
 mv 7 0,
 vo 8 (.len false 22 (.t 7)),
 vo 9 (.bin false .sub 3 (.t 6) (.t 8)),
 sg 1 9])
 (.seq
 (.seq
 (rg [0, 1, 11] [
 mv 10 1,
 vo 11 (.bin false .lss 3 (.t 10) (ci 0))])
 (.cond (.t 11)
 (.seq
 (rg [4] [
 vo 4 (.asg (ci ((-1))))])
 .ret)
 .skip))
 (.seq
 (.seq
 (rg [0, 1, 5] [
 vo 5 (.asg (ci 0))])
 (.block 0
 l63_0))
 (.seq
 (rg [4] [
 mv 26 1,
 sg 4 26])
 .ret)))))
 modes:=[.lend,.lend]
 rets:=[⟨4,none⟩]}

/-- loop.example/g00539/spec.l6CopyBlock -/
def v64 : VFun := {
 code:=
 (.seq
 (rg [1, 2] [
 vo 1 (.box 30 (.t 0)),
 vo 2 (.alloc 30 [(.val (.int .i64 0)),(.val (.int .i64 0)),(.val (.int .i64 0)),(.val (.int .i64 0)),(.nl 3)])])
 (.seq
 (rg [1, 2] [
 vo 3 (.fa 30 4 4 1 (.t 1)),
 ld 4 28 3,
 vo 5 (.call 95 [(.t 4)]),
 vo 6 (.fa 30 4 4 1 (.t 1)),
 vn (.store 28 1 (.t 6) (.t 5))])
 (.seq
 (rg [2] [
 vo 7 (.load 30 true 5 (.t 1)),
 vn (.store 30 5 (.t 2) (.t 7))])
 .ret)))
 modes:=[.lend]
 rets:=[⟨2,some (true,5)⟩]}

/-- loop.example/g00539/spec.l4Sum -/
def v65 : VFun := {
 code:=
 (.seq
 (rg [0] [
 vo 2 (.asg (.c (.bool false)))])
 (.seq
 (rg [2] [
 mv 3 0,
 vo 4 (.call 36 [(.t 3),(ci 0),(ci 2147483646)]),
 sg 2 4])
 .ret))
 modes:=[.lend]
 rets:=[⟨2,none⟩]}

/-- loop.example/g00539/spec.l1Bits -/
def v66 : VFun := {
 code:=
 (.seq
 (rg [0] [
 vo 2 (.asg (.c (.bool false)))])
 (.seq
 (rg [2] [
 mv 3 0,
 vo 4 (.call 36 [(.t 3),(ci 1),(ci 1023)]),
 mv 5 4,
 og 6 (.mov (.t 0)) 5 true,
 og 7 (.bin false .rem 2 (.t 6) (ci 256)) 5 true,
 og 8 (.bin false .gtr 2 (.t 7) (ci 0)) 5 true,
 vo 9 (.pick (.t 5) (.t 8) (.c (.bool false))),
 sg 2 9])
 .ret))
 modes:=[.lend]
 rets:=[⟨2,none⟩]}

def b67_0:VC:=
 (.seq
 (.seq
 (rg [0, 3, 39] [
 mv 33 3,
 mv 34 0,
 vo 35 (.nilc (.t 34)),
 vo 36 (.fa 98 1 1 1 (.t 35)),
 ld 37 95 36,
 vo 38 (.len false 95 (.t 37)),
 vo 39 (.bin false .lss 3 (.t 33) (.t 38))])
 (.cond (.t 39)
 .skip
 (.exit 0)))
 (.seq
 (.block 1
 (.seq
 (rg [0, 3, 4] [
 mv 42 0,
 vo 43 (.nilc (.t 42)),
 vo 44 (.fa 98 1 1 1 (.t 43)),
 ld 45 95 44,
 mv 46 3,
 vo 47 (.call 96 [(.t 45),(.t 46)]),
 sg 4 47])
 (.seq
 (rg [0, 3, 4, 49] [
 mv 48 4,
 vo 49 (.bin false .neq 2 (.t 48) (ci 0))])
 (.cond (.t 49)
 (.seq
 (rg [2] [
 mv 50 4,
 sg 2 50])
 .ret)
 .skip))))
 (rg [0, 3] [
 mv 40 3,
 vo 41 (.bin false .add 3 (.t 40) (ci 1)),
 sg 3 41])))
def l67_0:VC:=.loop b67_0
/-- loop.example/g00539/spec.l3Fault -/
def v67 : VFun := {
 code:=
 (.seq
 (rg [0] [
 vo 2 (.asg (ci 0))])
 (.seq
 (.seq
 (rg [0, 10] [
 mv 5 0,
 vo 6 (.nilc (.t 5)),
 vo 7 (.fa 98 0 0 1 (.t 6)),
 ld 8 2 7,
 vo 9 (.call 36 [(.t 8),(ci 0),(ci 65535)]),
 vo 10 (.un .not (.t 9))])
 (.cond (.t 10)
 (.seq
 (rg [2] [
 vo 2 (.asg (ci 3))])
 .ret)
 .skip))
 (.seq
 (.seq
 (rg [0, 32] [
 mv 11 0,
 vo 12 (.nilc (.t 11)),
 vo 13 (.fa 98 1 1 1 (.t 12)),
 ld 14 95 13,
 vo 15 (.len false 95 (.t 14)),
 vo 16 (.bin false .gtr 3 (.t 15) (ci 4)),
 mv 17 16,
 og 18 (.mov (.t 0)) 17 false,
 og 19 (.nilc (.t 18)) 17 false,
 og 20 (.fa 98 2 2 1 (.t 19)) 17 false,
 og 21 (.load 96 false 1 (.t 20)) 17 false,
 og 22 (.len false 96 (.t 21)) 17 false,
 og 23 (.bin false .lss 3 (.t 22) (ci 1)) 17 false,
 vo 24 (.pick (.t 17) (.c (.bool true)) (.t 23)),
 mv 25 24,
 og 26 (.mov (.t 0)) 25 false,
 og 27 (.nilc (.t 26)) 25 false,
 og 28 (.fa 98 2 2 1 (.t 27)) 25 false,
 og 29 (.load 96 false 1 (.t 28)) 25 false,
 og 30 (.len false 96 (.t 29)) 25 false,
 og 31 (.bin false .gtr 3 (.t 30) (ci 4)) 25 false,
 vo 32 (.pick (.t 25) (.c (.bool true)) (.t 31))])
 (.cond (.t 32)
 (.seq
 (rg [2] [
 vo 2 (.asg (ci 2))])
 .ret)
 .skip))
 (.seq
 (.seq
 (rg [0, 3] [
 vo 3 (.asg (ci 0))])
 (.block 0
 l67_0))
 (.seq
 (rg [2] [
 mv 51 0,
 vo 52 (.nilc (.t 51)),
 vo 53 (.fa 98 2 2 1 (.t 52)),
 ld 54 96 53,
 vo 55 (.call 97 [(.t 54)]),
 sg 2 55])
 .ret)))))
 modes:=[.lend]
 rets:=[⟨2,none⟩]}

def b68_0:VC:=
 (.seq
 (.seq
 (rg [0, 3, 10] [
 mv 4 3,
 mv 5 0,
 vo 6 (.nilc (.t 5)),
 vo 7 (.fa 30 4 4 1 (.t 6)),
 ld 8 28 7,
 vo 9 (.len false 28 (.t 8)),
 vo 10 (.bin false .lss 3 (.t 4) (.t 9))])
 (.cond (.t 10)
 .skip
 (.exit 0)))
 (.seq
 (.block 1
 (.seq
 (rg [0, 3, 25] [
 mv 13 0,
 vo 14 (.nilc (.t 13)),
 vo 15 (.fa 30 4 4 1 (.t 14)),
 ld 16 28 15,
 mv 17 3,
 vo 18 (.ia 28 98 3 (.t 16) (.t 17)),
 vo 19 (.fa 98 1 1 1 (.t 18)),
 ld 20 95 19,
 vo 21 (.len false 95 (.t 20)),
 vo 22 (.bin false .eql 3 (.t 21) (ci 0)),
 mv 23 3,
 vo 24 (.bin false .eql 3 (.t 23) (ci 0)),
 vo 25 (.bin true .neq 4 (.t 22) (.t 24))])
 (.cond (.t 25)
 (.seq
 (rg [2] [
 vo 2 (.asg (.c (.bool false)))])
 .ret)
 .skip)))
 (rg [0, 3] [
 mv 11 3,
 vo 12 (.bin false .add 3 (.t 11) (ci 1)),
 sg 3 12])))
def l68_0:VC:=.loop b68_0
/-- loop.example/g00539/spec.l6Bases -/
def v68 : VFun := {
 code:=
 (.seq
 (rg [0] [
 vo 2 (.asg (.c (.bool false)))])
 (.seq
 (.seq
 (rg [0, 3] [
 vo 3 (.asg (ci 0))])
 (.block 0
 l68_0))
 (.seq
 (rg [2] [
 vo 2 (.asg (.c (.bool true)))])
 .ret)))
 modes:=[.lend]
 rets:=[⟨2,none⟩]}

def b69_1:VC:=
 (.seq
 (.seq
 (rg [0, 3, 4, 13, 27] [
 mv 9 4,
 vo 10 (.bin false .add 3 (.t 9) (ci 1)),
 mv 11 3,
 vo 12 (.len false 100 (.t 11)),
 vo 13 (.bin false .lss 3 (.t 10) (.t 12))])
 (.cond (.t 13)
 .skip
 (.exit 2)))
 (.seq
 (.block 3
 (.seq
 (.region true [0, 3, 4, 25, 27] [
 mv 16 3,
 ⟨some 17,.mov (.t 4),none,[0]⟩,
 vo 18 (.ia 100 2 1 (.t 16) (.t 17)),
 ld 19 2 18,
 ⟨some 20,.mov (.t 3),none,[0,1,2,3]⟩,
 ⟨some 21,.mov (.t 4),none,[0,1,2,3,4]⟩,
 ⟨some 22,.bin false .add 3 (.t 21) (ci 1),none,[0,1,2,3,4]⟩,
 ⟨some 23,.ia 100 2 1 (.t 20) (.t 22),none,[0,1,2,3]⟩,
 ⟨some 24,.load 2 false 1 (.t 23),none,[0,1,2,3]⟩,
 vo 25 (.bin false .eql 2 (.t 19) (.t 24))])
 (.cond (.t 25)
 (.seq
 (rg [2] [
 vo 2 (.asg (.c (.bool true)))])
 .ret)
 .skip)))
 (rg [0, 3, 4, 27] [
 mv 14 4,
 vo 15 (.bin false .add 3 (.t 14) (ci 2)),
 sg 4 15])))
def l69_1:VC:=.loop b69_1
def b69_0:VC:=
 (.seq
 (.seq
 (rg [0, 3, 8, 27] [
 mv 6 3,
 vo 7 (.len false 100 (.t 6)),
 vo 8 (.bin false .gtr 3 (.t 7) (ci 1))])
 (.cond (.t 8)
 .skip
 (.exit 0)))
 (.block 1
 (.seq
 (.seq
 (rg [0, 3, 4, 27] [
 vo 4 (.asg (ci 0))])
 (.block 2
 l69_1))
 (rg [0, 3, 27] [
 mv 26 3,
 vo 27 (.call 98 [(.t 26)]),
 vo 3 (.asgn (.t 27))]))))
def l69_0:VC:=.loop b69_0
/-- loop.example/g00539/spec.l4Twin -/
def v69 : VFun := {
 code:=
 (.seq
 (rg [0] [
 vo 2 (.asg (.c (.bool false)))])
 (.seq
 (rg [0, 3, 27] [
 mv 5 0,
 vo 3 (.asgn (.t 5))])
 (.seq
 (.block 0
 l69_0)
 (.seq
 (rg [2] [
 vo 2 (.asg (.c (.bool false)))])
 .ret))))
 modes:=[.eat]
 rets:=[⟨2,none⟩]}

def b70_0:VC:=
 (.seq
 (.seq
 (rg [0, 3, 4, 5, 12, 24] [
 mv 6 4,
 mv 7 0,
 vo 8 (.nilc (.t 7)),
 vo 9 (.fa 30 4 4 1 (.t 8)),
 ld 10 28 9,
 vo 11 (.len false 28 (.t 10)),
 vo 12 (.bin false .lss 3 (.t 6) (.t 11))])
 (.cond (.t 12)
 .skip
 (.exit 0)))
 (.seq
 (.block 1
 (rg [0, 3, 4, 5, 24] [
 mv 15 3,
 mv 16 0,
 vo 17 (.nilc (.t 16)),
 vo 18 (.fa 30 4 4 1 (.t 17)),
 ld 19 28 18,
 mv 20 4,
 vo 21 (.ia 28 98 3 (.t 19) (.t 20)),
 vo 22 (.call 99 [(.t 21)]),
 vo 23 (.lit 100 2 1 1 [(.val (.int .i64 0))] [(0,(.t 22))]),
 vo 24 (.app 100 2 1 8 (.t 15) (.t 23)),
 sg 3 24]))
 (rg [0, 3, 4, 5, 24] [
 mv 13 4,
 vo 14 (.bin false .add 3 (.t 13) (ci 1)),
 sg 4 14])))
def l70_0:VC:=.loop b70_0
/-- loop.example/g00539/spec.l6Sums -/
def v70 : VFun := {
 code:=
 (.seq
 (rg [0] [
 vo 2 (.asg (.n 1))])
 (.seq
 (rg [0, 3, 5, 24] [
 vo 5 (.lit 100 2 1 0 [(.val (.int .i64 0))] []),
 sg 3 5])
 (.seq
 (.seq
 (rg [0, 3, 4, 5, 24] [
 vo 4 (.asg (ci 0))])
 (.block 0
 l70_0))
 (.seq
 (rg [2, 3, 5, 24] [
 mv 25 3,
 sg 2 25])
 .ret))))
 modes:=[.lend]
 rets:=[⟨2,none⟩]}

def b71_0:VC:=
 (.seq
 (.seq
 (rg [0, 3, 4, 7, 11] [
 mv 8 4,
 mv 9 0,
 vo 10 (.len false 22 (.t 9)),
 vo 11 (.bin false .lss 3 (.t 8) (.t 10))])
 (.cond (.t 11)
 .skip
 (.exit 0)))
 (.seq
 (.block 1
 (rg [0, 3, 4, 7] [
 mv 14 3,
 mv 15 4,
 mv 16 0,
 mv 17 4,
 vo 18 (.ia 22 123 3 (.t 16) (.t 17)),
 vo 19 (.load 123 true 3 (.t 18)),
 vo 20 (.call 100 [(.t 19)]),
 vo 21 (.ia 28 98 3 (.t 14) (.t 15)),
 vn (.store 98 3 (.t 21) (.t 20))]))
 (rg [0, 3, 4, 7] [
 mv 12 4,
 vo 13 (.bin false .add 3 (.t 12) (ci 1)),
 sg 4 13])))
def l71_0:VC:=.loop b71_0
/-- loop.example/g00539/laws.toTxS -/
def v71 : VFun := {
 code:=
 (.seq
 (rg [0] [
 vo 2 (.asg (.n 3))])
 (.seq
 (rg [0, 3, 7] [
 mv 5 0,
 vo 6 (.len false 22 (.t 5)),
 vo 7 (.mk 28 98 3 56 [(.val (.int .i64 0)),(.nl 3),(.nl 2)] (.t 6) (.t 6)),
 sg 3 7])
 (.seq
 (.seq
 (rg [0, 3, 4, 7] [
 vo 4 (.asg (ci 0))])
 (.block 0
 l71_0))
 (.seq
 (rg [2, 3, 7] [
 mv 22 3,
 sg 2 22])
 .ret))))
 modes:=[.lend]
 rets:=[⟨2,none⟩]}

/-- loop.example/g00539/impl.isJob -/
def v72 : VFun := {
 code:=
 (.seq
 (rg [0] [
 vo 2 (.asg (.c (.bool false)))])
 (.seq
 (rg [2] [
 mv 3 0,
 vo 4 (.call 41 [(.t 3),(ci 0),(ci 9999)]),
 sg 2 4])
 .ret))
 modes:=[.lend]
 rets:=[⟨2,none⟩]}

/-- loop.example/g00539/impl.cloneBlock -/
def v73 : VFun := {
 code:=
 (.seq
 (rg [1, 2] [
 vo 1 (.box 30 (.t 0)),
 vo 2 (.alloc 30 [(.val (.int .i64 0)),(.val (.int .i64 0)),(.val (.int .i64 0)),(.val (.int .i64 0)),(.nl 3)])])
 (.seq
 (rg [1, 2] [
 vo 3 (.fa 30 4 4 1 (.t 1)),
 ld 4 28 3,
 vo 5 (.call 101 [(.t 4)]),
 vo 6 (.fa 30 4 4 1 (.t 1)),
 vn (.store 28 1 (.t 6) (.t 5))])
 (.seq
 (rg [2] [
 vo 7 (.load 30 true 5 (.t 1)),
 vn (.store 30 5 (.t 2) (.t 7))])
 .ret)))
 modes:=[.lend]
 rets:=[⟨2,some (true,5)⟩]}

/-- loop.example/g00539/impl.isSum -/
def v74 : VFun := {
 code:=
 (.seq
 (rg [0] [
 vo 2 (.asg (.c (.bool false)))])
 (.seq
 (rg [2] [
 mv 3 0,
 vo 4 (.call 41 [(.t 3),(ci 0),(ci 2147483646)]),
 sg 2 4])
 .ret))
 modes:=[.lend]
 rets:=[⟨2,none⟩]}

/-- loop.example/g00539/impl.bitsOk -/
def v75 : VFun := {
 code:=
 (.seq
 (rg [0] [
 vo 2 (.asg (.c (.bool false)))])
 (.seq
 (rg [2] [
 mv 3 0,
 vo 4 (.call 41 [(.t 3),(ci 1),(ci 1023)]),
 mv 5 4,
 og 6 (.mov (.t 0)) 5 true,
 og 7 (.bin false .rem 2 (.t 6) (ci 256)) 5 true,
 og 8 (.bin false .gtr 2 (.t 7) (ci 0)) 5 true,
 vo 9 (.pick (.t 5) (.t 8) (.c (.bool false))),
 sg 2 9])
 .ret))
 modes:=[.lend]
 rets:=[⟨2,none⟩]}

def b76_1:VC:=
 (.seq
 (rg [1, 45, 46, 47, 48] [
 vo 48 (.bin false .lss 3 (.t 47) (.t 46))])
 (.seq
 (.cond (.t 48)
 .skip
 (.exit 3))
 (.seq
 (.block 4
 (.seq
 (rg [1, 7, 45, 46, 47] [
 vo 49 (.ia 96 102 2 (.t 45) (.t 47)),
 vo 50 (.load 102 true 2 (.t 49)),
 vo 7 (.alloc 102 [(.val (.int .i64 0)),(.nl 1)]),
 vn (.store 102 2 (.t 7) (.t 50))])
 (.seq
 (.seq
 (rg [1, 7, 45, 46, 47, 54] [
 vo 51 (.fa 102 0 0 1 (.t 7)),
 ld 52 2 51,
 vo 53 (.call 103 [(.t 52)]),
 vo 54 (.un .not (.t 53))])
 (.cond (.t 54)
 (.seq
 (rg [2] [
 vo 2 (.asg (ci 3))])
 .ret)
 .skip))
 (.seq
 (rg [1, 8, 45, 46, 47] [
 vo 55 (.fa 102 1 1 1 (.t 7)),
 ld 56 100 55,
 vo 57 (.call 104 [(.t 56)]),
 sg 8 57])
 (.seq
 (rg [1, 8, 45, 46, 47, 59] [
 mv 58 8,
 vo 59 (.bin false .neq 2 (.t 58) (ci 0))])
 (.cond (.t 59)
 (.seq
 (rg [2] [
 mv 60 8,
 sg 2 60])
 .ret)
 .skip))))))
 (rg [1, 45, 46, 47] [
 vo 61 (.bin false .add 3 (.t 47) (ci 1)),
 mv 47 61]))))
def l76_1:VC:=.loop b76_1
def b76_0:VC:=
 (.seq
 (rg [1, 27, 28, 29, 30] [
 vo 30 (.bin false .lss 3 (.t 29) (.t 28))])
 (.seq
 (.cond (.t 30)
 .skip
 (.exit 1))
 (.seq
 (.block 2
 (.seq
 (rg [1, 3, 4, 27, 28, 29] [
 mv 31 29,
 vo 32 (.ia 95 130 3 (.t 27) (.t 29)),
 vo 33 (.load 130 true 3 (.t 32)),
 vo 4 (.alloc 130 [(.val (.int .i64 0)),(.val (.int .i64 0)),(.nl 1)]),
 sg 3 31,
 vn (.store 130 3 (.t 4) (.t 33))])
 (.seq
 (.region true [1, 5, 27, 28, 29] [
 vo 34 (.load 130 true 3 (.t 4)),
 ⟨some 35,.fa 98 1 1 1 (.t 1),none,[0]⟩,
 ⟨some 36,.load 95 false 1 (.t 35),none,[0]⟩,
 ⟨some 37,.mov (.t 3),none,[0,1,2]⟩,
 ⟨some 38,.cut 95 (some 130) 3 (.t 36) none (some (.t 37)),none,[0]⟩,
 vo 39 (.call 102 [(.t 34),(.t 38)]),
 sg 5 39])
 (.seq
 (rg [1, 5, 27, 28, 29, 41] [
 mv 40 5,
 vo 41 (.bin false .neq 2 (.t 40) (ci 0))])
 (.cond (.t 41)
 (.seq
 (rg [2] [
 mv 42 5,
 sg 2 42])
 .ret)
 .skip)))))
 (rg [1, 27, 28, 29] [
 vo 43 (.bin false .add 3 (.t 29) (ci 1)),
 mv 29 43]))))
def l76_0:VC:=.loop b76_0
/-- loop.example/g00539/impl.TxFault -/
def v76 : VFun := {
 code:=
 (.seq
 (rg [1] [
 vo 1 (.box 98 (.t 0)),
 vo 2 (.asg (ci 0))])
 (.seq
 (.block 0
 (.seq
 (rg [1, 9] [
 vo 10 (.fa 98 0 0 1 (.t 1)),
 ld 11 2 10,
 vo 12 (.call 41 [(.t 11),(ci 0),(ci 65535)]),
 vo 13 (.un .not (.t 12)),
 sg 9 13])
 (.cond (.t 9)
 (.seq
 (rg [2] [
 vo 2 (.asg (ci 3))])
 .ret)
 (.seq
 (rg [1, 14] [
 vo 15 (.fa 98 1 1 1 (.t 1)),
 ld 16 95 15,
 vo 17 (.len false 95 (.t 16)),
 vo 18 (.bin false .gtr 3 (.t 17) (ci 4)),
 mv 19 18,
 og 20 (.fa 98 2 2 1 (.t 1)) 19 false,
 og 21 (.load 96 false 1 (.t 20)) 19 false,
 og 22 (.len false 96 (.t 21)) 19 false,
 og 23 (.call 41 [(.t 22),(ci 1),(ci 4)]) 19 false,
 og 24 (.un .not (.t 23)) 19 false,
 vo 25 (.pick (.t 19) (.c (.bool true)) (.t 24)),
 sg 14 25])
 (.cond (.t 14)
 (.seq
 (rg [2] [
 vo 2 (.asg (ci 2))])
 .ret)
 .skip)))))
 (.seq
 (.seq
 (rg [1, 27, 28, 29] [
 vo 26 (.fa 98 1 1 1 (.t 1)),
 ld 27 95 26,
 vo 28 (.len false 95 (.t 27)),
 vo 29 (.mov (ci 0))])
 (.block 1
 l76_0))
 (.seq
 (.seq
 (rg [1, 45, 46, 47] [
 vo 44 (.fa 98 2 2 1 (.t 1)),
 ld 45 96 44,
 vo 46 (.len false 96 (.t 45)),
 vo 47 (.mov (ci 0))])
 (.block 3
 l76_1))
 (.seq
 (.seq
 (rg [66] [
 vo 62 (.fa 98 2 2 1 (.t 1)),
 ld 63 96 62,
 vo 64 (.call 105 [(.t 63)]),
 vo 65 (.call 103 [(.t 64)]),
 vo 66 (.un .not (.t 65))])
 (.cond (.t 66)
 (.seq
 (rg [2] [
 vo 2 (.asg (ci 7))])
 .ret)
 .skip))
 (.seq
 (rg [2] [
 vo 2 (.asg (ci 0))])
 .ret))))))
 modes:=[.lend]
 rets:=[⟨2,none⟩]}

/-- loop.example/g00539/impl.isBase -/
def v77 : VFun := {
 code:=
 (.seq
 (rg [1] [
 vo 1 (.box 98 (.t 0)),
 vo 2 (.asg (.c (.bool false)))])
 (.seq
 (rg [2] [
 vo 3 (.fa 98 1 1 1 (.t 1)),
 ld 4 95 3,
 vo 5 (.len false 95 (.t 4)),
 vo 6 (.bin false .eql 3 (.t 5) (ci 0)),
 sg 2 6])
 .ret))
 modes:=[.lend]
 rets:=[⟨2,none⟩]}

def b78_1:VC:=
 (.seq
 (.seq
 (rg [0, 3, 4, 13, 17] [
 mv 14 4,
 mv 15 3,
 vo 16 (.len false 100 (.t 15)),
 vo 17 (.bin false .lss 3 (.t 14) (.t 16))])
 (.cond (.t 17)
 .skip
 (.exit 2)))
 (.seq
 (.block 3
 (.seq
 (.region true [0, 3, 4, 13, 29] [
 mv 20 3,
 ⟨some 21,.mov (.t 4),none,[0]⟩,
 ⟨some 22,.bin false .sub 3 (.t 21) (ci 1),none,[0]⟩,
 vo 23 (.ia 100 2 1 (.t 20) (.t 22)),
 ld 24 2 23,
 ⟨some 25,.mov (.t 3),none,[0,1,2,3,4]⟩,
 ⟨some 26,.mov (.t 4),none,[0,1,2,3,4,5]⟩,
 ⟨some 27,.ia 100 2 1 (.t 25) (.t 26),none,[0,1,2,3,4]⟩,
 ⟨some 28,.load 2 false 1 (.t 27),none,[0,1,2,3,4]⟩,
 vo 29 (.bin false .eql 2 (.t 24) (.t 28))])
 (.cond (.t 29)
 (.seq
 (rg [2] [
 vo 2 (.asg (.c (.bool true)))])
 .ret)
 .skip)))
 (rg [0, 3, 4, 13] [
 mv 18 4,
 vo 19 (.bin false .add 3 (.t 18) (ci 2)),
 sg 4 19])))
def l78_1:VC:=.loop b78_1
def b78_0:VC:=
 (.seq
 (.seq
 (rg [0, 3, 11, 13] [
 mv 9 3,
 vo 10 (.len false 100 (.t 9)),
 vo 11 (.bin false .gtr 3 (.t 10) (ci 1))])
 (.cond (.t 11)
 .skip
 (.exit 0)))
 (.seq
 (.block 1
 (.seq
 (rg [0, 3, 4, 13] [
 vo 4 (.asg (ci 1))])
 (.block 2
 l78_1)))
 (rg [0, 3, 13] [
 mv 12 3,
 vo 13 (.call 107 [(.t 12)]),
 vo 3 (.asgn (.t 13))])))
def l78_0:VC:=.loop b78_0
/-- loop.example/g00539/impl.HasTwin -/
def v78 : VFun := {
 code:=
 (.seq
 (rg [0] [
 vo 2 (.asg (.c (.bool false)))])
 (.seq
 (.seq
 (rg [0, 7] [
 mv 5 0,
 vo 6 (.call 106 [(.t 5)]),
 vo 7 (.bin false .neq 2 (.t 6) (ci 0))])
 (.cond (.t 7)
 (.seq
 (rg [2] [
 vo 2 (.asg (.c (.bool false)))])
 .ret)
 .skip))
 (.seq
 (.seq
 (rg [0, 3, 13] [
 mv 8 0,
 vo 3 (.asgn (.t 8))])
 (.block 0
 l78_0))
 (.seq
 (rg [2] [
 vo 2 (.asg (.c (.bool false)))])
 .ret))))
 modes:=[.eat]
 rets:=[⟨2,none⟩]}

def b79_0:VC:=
 (.seq
 (rg [1, 3, 6, 8, 9, 10, 11, 18] [
 vo 11 (.bin false .lss 3 (.t 10) (.t 9))])
 (.seq
 (.cond (.t 11)
 .skip
 (.exit 0))
 (.seq
 (.block 1
 (.seq
 (rg [1, 3, 5, 6, 8, 9, 10, 18] [
 vo 12 (.ia 28 98 3 (.t 8) (.t 10)),
 vo 13 (.load 98 true 3 (.t 12)),
 vo 5 (.alloc 98 [(.val (.int .i64 0)),(.nl 3),(.nl 2)]),
 vn (.store 98 3 (.t 5) (.t 13))])
 (rg [1, 3, 6, 8, 9, 10, 18] [
 mv 14 3,
 vo 15 (.load 98 true 3 (.t 5)),
 vo 16 (.call 108 [(.t 15)]),
 vo 17 (.lit 100 2 1 1 [(.val (.int .i64 0))] [(0,(.t 16))]),
 vo 18 (.app 100 2 1 8 (.t 14) (.t 17)),
 sg 3 18])))
 (rg [1, 3, 6, 8, 9, 10, 18] [
 vo 19 (.bin false .add 3 (.t 10) (ci 1)),
 mv 10 19]))))
def l79_0:VC:=.loop b79_0
/-- loop.example/g00539/impl.txSums -/
def v79 : VFun := {
 code:=
 (.seq
 (rg [1] [
 vo 1 (.box 30 (.t 0)),
 vo 2 (.asg (.n 1))])
 (.seq
 (rg [1, 3, 6, 18] [
 vo 6 (.lit 100 2 1 0 [(.val (.int .i64 0))] []),
 sg 3 6])
 (.seq
 (.seq
 (rg [1, 3, 6, 8, 9, 10, 18] [
 vo 7 (.fa 30 4 4 1 (.t 1)),
 ld 8 28 7,
 vo 9 (.len false 28 (.t 8)),
 vo 10 (.mov (ci 0))])
 (.block 0
 l79_0))
 (.seq
 (rg [2, 3, 6, 18] [
 mv 20 3,
 sg 2 20])
 .ret))))
 modes:=[.lend]
 rets:=[⟨2,none⟩]}

def b80_0:VC:=
 (.seq
 (.seq
 (rg [0, 1, 5, 14] [
 mv 11 5,
 mv 12 0,
 vo 13 (.len false 28 (.t 12)),
 vo 14 (.bin false .lss 3 (.t 11) (.t 13))])
 (.cond (.t 14)
 .skip
 (.exit 0)))
 (.seq
 (.block 1
 (.seq
 (.region true [0, 1, 5, 26] [
 mv 17 0,
 ⟨some 18,.mov (.t 5),none,[0]⟩,
 vo 19 (.ia 28 98 3 (.t 17) (.t 18)),
 vo 20 (.load 98 true 3 (.t 19)),
 ⟨some 21,.mov (.t 1),none,[0,1,2,3]⟩,
 ⟨some 22,.mov (.t 5),none,[0,1,2,3,4]⟩,
 ⟨some 23,.ia 28 98 3 (.t 21) (.t 22),none,[0,1,2,3]⟩,
 ⟨some 24,.load 98 true 3 (.t 23),none,[0,1,2,3]⟩,
 vo 25 (.call 109 [(.t 20),(.t 24)]),
 vo 26 (.un .not (.t 25))])
 (.cond (.t 26)
 (.seq
 (rg [4] [
 vo 4 (.asg (.c (.bool false)))])
 .ret)
 .skip)))
 (rg [0, 1, 5] [
 mv 15 5,
 vo 16 (.bin false .add 3 (.t 15) (ci 1)),
 sg 5 16])))
def l80_0:VC:=.loop b80_0
/-- loop.example/g00539/laws.eqTxS -/
def v80 : VFun := {
 code:=
 (.seq
 (rg [0, 1] [
 vo 4 (.asg (.c (.bool false)))])
 (.seq
 (.seq
 (rg [0, 1, 10] [
 mv 6 0,
 vo 7 (.len false 28 (.t 6)),
 mv 8 1,
 vo 9 (.len false 28 (.t 8)),
 vo 10 (.bin false .neq 3 (.t 7) (.t 9))])
 (.cond (.t 10)
 (.seq
 (rg [4] [
 vo 4 (.asg (.c (.bool false)))])
 .ret)
 .skip))
 (.seq
 (.seq
 (rg [0, 1, 5] [
 vo 5 (.asg (ci 0))])
 (.block 0
 l80_0))
 (.seq
 (rg [4] [
 vo 4 (.asg (.c (.bool true)))])
 .ret))))
 modes:=[.lend,.lend]
 rets:=[⟨4,none⟩]}

def b81_0:VC:=
 (.seq
 (.seq
 (rg [0, 1, 5, 9] [
 mv 6 5,
 mv 7 0,
 vo 8 (.len false 28 (.t 7)),
 vo 9 (.bin false .lss 3 (.t 6) (.t 8))])
 (.cond (.t 9)
 .skip
 (.exit 0)))
 (.seq
 (.block 1
 (.seq
 (.seq
 (rg [0, 1, 5, 18] [
 mv 12 0,
 mv 13 5,
 vo 14 (.ia 28 98 3 (.t 12) (.t 13)),
 vo 15 (.fa 98 0 0 1 (.t 14)),
 ld 16 2 15,
 mv 17 1,
 vo 18 (.bin false .neq 2 (.t 16) (.t 17))])
 (.cond (.t 18)
 (.seq
 (rg [4] [
 vo 4 (.asg (ci ((-1))))])
 .ret)
 .skip))
 (.seq
 (rg [0, 1, 5] [
 mv 19 1,
 vo 20 (.bin false .add 3 (.t 19) (ci 1)),
 sg 1 20])
 (.seq
 (rg [0, 1, 5] [
 mv 21 0,
 mv 22 5,
 vo 23 (.ia 28 98 3 (.t 21) (.t 22)),
 vo 24 (.fa 98 1 1 1 (.t 23)),
 ld 25 95 24,
 mv 26 1,
 vo 27 (.call 110 [(.t 25),(.t 26)]),
 sg 1 27])
 (.seq
 (.seq
 (rg [0, 1, 5, 29] [
 mv 28 1,
 vo 29 (.bin false .lss 3 (.t 28) (ci 0))])
 (.cond (.t 29)
 (.seq
 (rg [4] [
 vo 4 (.asg (ci ((-1))))])
 .ret)
 .skip))
 (.seq
 (rg [0, 1, 5] [
 mv 30 0,
 mv 31 5,
 vo 32 (.ia 28 98 3 (.t 30) (.t 31)),
 vo 33 (.fa 98 2 2 1 (.t 32)),
 ld 34 96 33,
 mv 35 1,
 vo 36 (.call 111 [(.t 34),(.t 35)]),
 sg 1 36])
 (.seq
 (rg [0, 1, 5, 38] [
 mv 37 1,
 vo 38 (.bin false .lss 3 (.t 37) (ci 0))])
 (.cond (.t 38)
 (.seq
 (rg [4] [
 vo 4 (.asg (ci ((-1))))])
 .ret)
 .skip))))))))
 (rg [0, 1, 5] [
 mv 10 5,
 vo 11 (.bin false .add 3 (.t 10) (ci 1)),
 sg 5 11])))
def l81_0:VC:=.loop b81_0
/-- loop.example/g00539/laws.heldTxS -/
def v81 : VFun := {
 code:=
 (.seq
 (rg [0, 1] [
 vo 4 (.asg (ci 0))])
 (.seq
 (.seq
 (rg [0, 1, 5] [
 vo 5 (.asg (ci 0))])
 (.block 0
 l81_0))
 (.seq
 (rg [4] [
 mv 39 1,
 sg 4 39])
 .ret)))
 modes:=[.lend,.lend]
 rets:=[⟨4,none⟩]}

def b83_0:VC:=
 (.seq
 (.seq
 (rg [0, 1, 5, 9] [
 mv 6 5,
 mv 7 0,
 vo 8 (.len false 95 (.t 7)),
 vo 9 (.bin false .lss 3 (.t 6) (.t 8))])
 (.cond (.t 9)
 .skip
 (.exit 0)))
 (.seq
 (.block 1
 (.seq
 (rg [0, 1, 5] [
 mv 12 0,
 mv 13 5,
 mv 14 1,
 vo 15 (.ia 95 130 3 (.t 12) (.t 13)),
 vo 16 (.fa 130 0 0 1 (.t 15)),
 vn (.store 2 1 (.t 16) (.t 14))])
 (.seq
 (rg [0, 1, 5] [
 mv 17 1,
 vo 18 (.bin false .add 3 (.t 17) (ci 1)),
 sg 1 18])
 (.seq
 (rg [0, 1, 5] [
 mv 19 0,
 mv 20 5,
 mv 21 1,
 vo 22 (.ia 95 130 3 (.t 19) (.t 20)),
 vo 23 (.fa 130 1 1 1 (.t 22)),
 vn (.store 2 1 (.t 23) (.t 21))])
 (.seq
 (rg [0, 1, 5] [
 mv 24 1,
 vo 25 (.bin false .add 3 (.t 24) (ci 1)),
 sg 1 25])
 (rg [0, 1, 5] [
 mv 26 0,
 mv 27 5,
 vo 28 (.ia 95 130 3 (.t 26) (.t 27)),
 vo 29 (.fa 130 2 2 1 (.t 28)),
 ld 30 100 29,
 mv 31 1,
 vo 32 (.call 112 [(.t 30),(.t 31)]),
 sg 1 32]))))))
 (rg [0, 1, 5] [
 mv 10 5,
 vo 11 (.bin false .add 3 (.t 10) (ci 1)),
 sg 5 11])))
def l83_0:VC:=.loop b83_0
/-- loop.example/g00539/laws.markInS -/
def v83 : VFun := {
 code:=
 (.seq
 (rg [0, 1] [
 vo 4 (.asg (ci 0))])
 (.seq
 (.seq
 (rg [0, 1, 5] [
 vo 5 (.asg (ci 0))])
 (.block 0
 l83_0))
 (.seq
 (rg [0, 4] [
 mv 33 1,
 sg 4 33])
 .ret)))
 modes:=[.io,.lend]
 rets:=[⟨4,none⟩]}

def b84_0:VC:=
 (.seq
 (.seq
 (rg [0, 1, 5, 9] [
 mv 6 5,
 mv 7 0,
 vo 8 (.len false 96 (.t 7)),
 vo 9 (.bin false .lss 3 (.t 6) (.t 8))])
 (.cond (.t 9)
 .skip
 (.exit 0)))
 (.seq
 (.block 1
 (.seq
 (rg [0, 1, 5] [
 mv 12 0,
 mv 13 5,
 mv 14 1,
 vo 15 (.ia 96 102 2 (.t 12) (.t 13)),
 vo 16 (.fa 102 0 0 1 (.t 15)),
 vn (.store 2 1 (.t 16) (.t 14))])
 (.seq
 (rg [0, 1, 5] [
 mv 17 1,
 vo 18 (.bin false .add 3 (.t 17) (ci 1)),
 sg 1 18])
 (rg [0, 1, 5] [
 mv 19 0,
 mv 20 5,
 vo 21 (.ia 96 102 2 (.t 19) (.t 20)),
 vo 22 (.fa 102 1 1 1 (.t 21)),
 ld 23 100 22,
 mv 24 1,
 vo 25 (.call 112 [(.t 23),(.t 24)]),
 sg 1 25]))))
 (rg [0, 1, 5] [
 mv 10 5,
 vo 11 (.bin false .add 3 (.t 10) (ci 1)),
 sg 5 11])))
def l84_0:VC:=.loop b84_0
/-- loop.example/g00539/laws.markOutS -/
def v84 : VFun := {
 code:=
 (.seq
 (rg [0, 1] [
 vo 4 (.asg (ci 0))])
 (.seq
 (.seq
 (rg [0, 1, 5] [
 vo 5 (.asg (ci 0))])
 (.block 0
 l84_0))
 (.seq
 (rg [0, 4] [
 mv 26 1,
 sg 4 26])
 .ret)))
 modes:=[.io,.lend]
 rets:=[⟨4,none⟩]}

/-- loop.example/g00539/laws.szTx -/
def v94 : VFun := {
 code:=
 (.seq
 (rg [1, 2] [
 vo 2 (.box 123 (.t 0)),
 vo 4 (.asg (ci 0))])
 (.seq
 (rg [1, 2] [
 vo 5 (.fa 123 1 1 1 (.t 2)),
 ld 6 120 5,
 mv 7 1,
 vo 8 (.call 120 [(.t 6),(.t 7)]),
 sg 1 8])
 (.seq
 (.seq
 (rg [1, 2, 10] [
 mv 9 1,
 vo 10 (.bin false .lss 3 (.t 9) (ci 0))])
 (.cond (.t 10)
 (.seq
 (rg [4] [
 vo 4 (.asg (ci ((-1))))])
 .ret)
 .skip))
 (.seq
 (rg [1] [
 vo 11 (.fa 123 2 2 1 (.t 2)),
 ld 12 121 11,
 mv 13 1,
 vo 14 (.call 121 [(.t 12),(.t 13)]),
 sg 1 14])
 (.seq
 (.seq
 (rg [1, 16] [
 mv 15 1,
 vo 16 (.bin false .lss 3 (.t 15) (ci 0))])
 (.cond (.t 16)
 (.seq
 (rg [4] [
 vo 4 (.asg (ci ((-1))))])
 .ret)
 .skip))
 (.seq
 (rg [4] [
 mv 17 1,
 sg 4 17])
 .ret))))))
 modes:=[.lend,.lend]
 rets:=[⟨4,none⟩]}

def b95_0:VC:=
 (.seq
 (.seq
 (rg [0, 3, 4, 5, 9, 19] [
 mv 6 4,
 mv 7 0,
 vo 8 (.len false 28 (.t 7)),
 vo 9 (.bin false .lss 3 (.t 6) (.t 8))])
 (.cond (.t 9)
 .skip
 (.exit 0)))
 (.seq
 (.block 1
 (rg [0, 3, 4, 5, 19] [
 mv 12 3,
 mv 13 0,
 mv 14 4,
 vo 15 (.ia 28 98 3 (.t 13) (.t 14)),
 vo 16 (.load 98 true 3 (.t 15)),
 vo 17 (.call 122 [(.t 16)]),
 vo 18 (.lit 28 98 3 1 [(.val (.int .i64 0)),(.nl 3),(.nl 2)] [(0,(.t 17))]),
 vo 19 (.app 28 98 3 56 (.t 12) (.t 18)),
 sg 3 19]))
 (rg [0, 3, 4, 5, 19] [
 mv 10 4,
 vo 11 (.bin false .add 3 (.t 10) (ci 1)),
 sg 4 11])))
def l95_0:VC:=.loop b95_0
/-- loop.example/g00539/spec.l3Txs -/
def v95 : VFun := {
 code:=
 (.seq
 (rg [0] [
 vo 2 (.asg (.n 3))])
 (.seq
 (rg [0, 3, 5, 19] [
 vo 5 (.lit 28 98 3 0 [(.val (.int .i64 0)),(.nl 3),(.nl 2)] []),
 sg 3 5])
 (.seq
 (.seq
 (rg [0, 3, 4, 5, 19] [
 vo 4 (.asg (ci 0))])
 (.block 0
 l95_0))
 (.seq
 (rg [2, 3, 5, 19] [
 mv 20 3,
 sg 2 20])
 .ret))))
 modes:=[.lend]
 rets:=[⟨2,none⟩]}

def b96_0:VC:=
 (.seq
 (.seq
 (rg [0, 1, 5, 6, 38] [
 mv 36 6,
 mv 37 1,
 vo 38 (.bin false .lss 3 (.t 36) (.t 37))])
 (.cond (.t 38)
 .skip
 (.exit 0)))
 (.seq
 (.block 1
 (.seq
 (.region true [0, 1, 5, 6, 62] [
 mv 41 0,
 ⟨some 42,.mov (.t 6),none,[0]⟩,
 vo 43 (.ia 95 130 3 (.t 41) (.t 42)),
 vo 44 (.fa 130 0 0 1 (.t 43)),
 ld 45 2 44,
 ⟨some 46,.mov (.t 5),none,[0,1,2,3,4]⟩,
 ⟨some 47,.nilc (.t 46),none,[0,1,2,3,4]⟩,
 ⟨some 48,.fa 130 0 0 1 (.t 47),none,[0,1,2,3,4]⟩,
 ⟨some 49,.load 2 false 1 (.t 48),none,[0,1,2,3,4]⟩,
 vo 50 (.bin false .eql 2 (.t 45) (.t 49)),
 mv 51 50,
 og 52 (.mov (.t 0)) 51 true,
 ⟨some 53,.mov (.t 6),some (51,true),[11]⟩,
 og 54 (.ia 95 130 3 (.t 52) (.t 53)) 51 true,
 og 55 (.fa 130 1 1 1 (.t 54)) 51 true,
 og 56 (.load 2 false 1 (.t 55)) 51 true,
 ⟨some 57,.mov (.t 5),some (51,true),[11,12,13,14,15]⟩,
 ⟨some 58,.nilc (.t 57),some (51,true),[11,12,13,14,15]⟩,
 ⟨some 59,.fa 130 1 1 1 (.t 58),some (51,true),[11,12,13,14,15]⟩,
 ⟨some 60,.load 2 false 1 (.t 59),some (51,true),[11,12,13,14,15]⟩,
 og 61 (.bin false .eql 2 (.t 56) (.t 60)) 51 true,
 vo 62 (.pick (.t 51) (.t 61) (.c (.bool false)))])
 (.cond (.t 62)
 (.seq
 (rg [4] [
 vo 4 (.asg (ci 6))])
 .ret)
 .skip)))
 (rg [0, 1, 5, 6] [
 mv 39 6,
 vo 40 (.bin false .add 3 (.t 39) (ci 1)),
 sg 6 40])))
def l96_0:VC:=.loop b96_0
/-- loop.example/g00539/spec.l3In -/
def v96 : VFun := {
 code:=
 (.seq
 (rg [0, 1] [
 vo 4 (.asg (ci 0))])
 (.seq
 (rg [0, 1, 5] [
 mv 7 0,
 mv 8 1,
 vo 9 (.ia 95 130 3 (.t 7) (.t 8)),
 sg 5 9])
 (.seq
 (.seq
 (rg [0, 1, 5, 23] [
 mv 10 5,
 vo 11 (.nilc (.t 10)),
 vo 12 (.fa 130 0 0 1 (.t 11)),
 ld 13 2 12,
 vo 14 (.call 36 [(.t 13),(ci 0),(ci 2147483646)]),
 vo 15 (.un .not (.t 14)),
 mv 16 15,
 og 17 (.mov (.t 5)) 16 false,
 og 18 (.nilc (.t 17)) 16 false,
 og 19 (.fa 130 1 1 1 (.t 18)) 16 false,
 og 20 (.load 2 false 1 (.t 19)) 16 false,
 og 21 (.call 36 [(.t 20),(ci 0),(ci 3)]) 16 false,
 og 22 (.un .not (.t 21)) 16 false,
 vo 23 (.pick (.t 16) (.c (.bool true)) (.t 22))])
 (.cond (.t 23)
 (.seq
 (rg [4] [
 vo 4 (.asg (ci 3))])
 .ret)
 .skip))
 (.seq
 (.seq
 (rg [0, 1, 5, 29] [
 mv 24 5,
 vo 25 (.nilc (.t 24)),
 vo 26 (.fa 130 2 2 1 (.t 25)),
 ld 27 100 26,
 vo 28 (.len false 100 (.t 27)),
 vo 29 (.bin false .gtr 3 (.t 28) (ci 8))])
 (.cond (.t 29)
 (.seq
 (rg [4] [
 vo 4 (.asg (ci 2))])
 .ret)
 .skip))
 (.seq
 (.seq
 (rg [0, 1, 5, 35] [
 mv 30 5,
 vo 31 (.nilc (.t 30)),
 vo 32 (.fa 130 2 2 1 (.t 31)),
 ld 33 100 32,
 vo 34 (.call 123 [(.t 33),(ci 0),(ci 9999)]),
 vo 35 (.un .not (.t 34))])
 (.cond (.t 35)
 (.seq
 (rg [4] [
 vo 4 (.asg (ci 3))])
 .ret)
 .skip))
 (.seq
 (.seq
 (rg [0, 1, 5, 6] [
 vo 6 (.asg (ci 0))])
 (.block 0
 l96_0))
 (.seq
 (rg [4] [
 vo 4 (.asg (ci 0))])
 .ret)))))))
 modes:=[.lend,.lend]
 rets:=[⟨4,none⟩]}

def b97_0:VC:=
 (.seq
 (.seq
 (rg [0, 3, 4, 9] [
 mv 6 4,
 mv 7 0,
 vo 8 (.len false 96 (.t 7)),
 vo 9 (.bin false .lss 3 (.t 6) (.t 8))])
 (.cond (.t 9)
 .skip
 (.exit 0)))
 (.seq
 (.block 1
 (.seq
 (.seq
 (rg [0, 3, 4, 18] [
 mv 12 0,
 mv 13 4,
 vo 14 (.ia 96 102 2 (.t 12) (.t 13)),
 vo 15 (.fa 102 0 0 1 (.t 14)),
 ld 16 2 15,
 vo 17 (.call 124 [(.t 16)]),
 vo 18 (.un .not (.t 17))])
 (.cond (.t 18)
 (.seq
 (rg [2] [
 vo 2 (.asg (ci 3))])
 .ret)
 .skip))
 (.seq
 (.seq
 (rg [0, 3, 4, 5] [
 mv 19 0,
 mv 20 4,
 vo 21 (.ia 96 102 2 (.t 19) (.t 20)),
 vo 22 (.fa 102 1 1 1 (.t 21)),
 ld 23 100 22,
 vo 24 (.call 125 [(.t 23)]),
 sg 5 24])
 (.seq
 (rg [0, 3, 4, 5, 26] [
 mv 25 5,
 vo 26 (.bin false .neq 2 (.t 25) (ci 0))])
 (.cond (.t 26)
 (.seq
 (rg [2] [
 mv 27 5,
 sg 2 27])
 .ret)
 .skip)))
 (rg [0, 3, 4] [
 mv 28 3,
 mv 29 0,
 mv 30 4,
 vo 31 (.ia 96 102 2 (.t 29) (.t 30)),
 vo 32 (.fa 102 0 0 1 (.t 31)),
 ld 33 2 32,
 vo 34 (.bin false .add 2 (.t 28) (.t 33)),
 sg 3 34]))))
 (rg [0, 3, 4] [
 mv 10 4,
 vo 11 (.bin false .add 3 (.t 10) (ci 1)),
 sg 4 11])))
def l97_0:VC:=.loop b97_0
/-- loop.example/g00539/spec.l3Outs -/
def v97 : VFun := {
 code:=
 (.seq
 (rg [0] [
 vo 2 (.asg (ci 0))])
 (.seq
 (rg [0, 3] [
 vo 3 (.asg (ci 0))])
 (.seq
 (.seq
 (rg [0, 3, 4] [
 vo 4 (.asg (ci 0))])
 (.block 0
 l97_0))
 (.seq
 (.seq
 (rg [37] [
 mv 35 3,
 vo 36 (.call 124 [(.t 35)]),
 vo 37 (.un .not (.t 36))])
 (.cond (.t 37)
 (.seq
 (rg [2] [
 vo 2 (.asg (ci 7))])
 .ret)
 .skip))
 (.seq
 (rg [2] [
 vo 2 (.asg (ci 0))])
 .ret)))))
 modes:=[.lend]
 rets:=[⟨2,none⟩]}

def b98_0:VC:=
 (.seq
 (.seq
 (rg [0, 3, 4, 5, 9, 22] [
 mv 6 4,
 mv 7 0,
 vo 8 (.len false 100 (.t 7)),
 vo 9 (.bin false .lss 3 (.t 6) (.t 8))])
 (.cond (.t 9)
 .skip
 (.exit 0)))
 (.seq
 (.block 1
 (.region true [0, 3, 4, 5, 22] [
 mv 12 3,
 ⟨some 13,.mov (.t 0),none,[0]⟩,
 ⟨some 14,.mov (.t 4),none,[0,1]⟩,
 ⟨some 15,.ia 100 2 1 (.t 13) (.t 14),none,[0]⟩,
 ⟨some 16,.load 2 false 1 (.t 15),none,[0]⟩,
 ⟨some 17,.mov (.t 0),none,[0,1,2,3,4]⟩,
 ⟨some 18,.mov (.t 4),none,[0,1,2,3,4,5]⟩,
 ⟨some 19,.call 127 [(.t 17),(.t 18)],none,[0,1,2,3,4]⟩,
 ⟨some 20,.call 126 [(.t 16),(.t 19)],none,[0]⟩,
 ⟨some 21,.lit 100 2 1 1 [(.val (.int .i64 0))] [(0,(.t 20))],none,[0]⟩,
 vo 22 (.app 100 2 1 8 (.t 12) (.t 21)),
 sg 3 22]))
 (rg [0, 3, 4, 5, 22] [
 mv 10 4,
 vo 11 (.bin false .add 3 (.t 10) (ci 2)),
 sg 4 11])))
def l98_0:VC:=.loop b98_0
/-- loop.example/g00539/spec.l4Above -/
def v98 : VFun := {
 code:=
 (.seq
 (rg [0] [
 vo 2 (.asg (.n 1))])
 (.seq
 (rg [0, 3, 5, 22] [
 vo 5 (.lit 100 2 1 0 [(.val (.int .i64 0))] []),
 sg 3 5])
 (.seq
 (.seq
 (rg [0, 3, 4, 5, 22] [
 vo 4 (.asg (ci 0))])
 (.block 0
 l98_0))
 (.seq
 (rg [2, 3, 5, 22] [
 mv 23 3,
 sg 2 23])
 .ret))))
 modes:=[.lend]
 rets:=[⟨2,none⟩]}

/-- loop.example/g00539/spec.l3Sum -/
def v99 : VFun := {
 code:=
 (.seq
 (rg [0] [
 vo 2 (.asg (ci 0))])
 (.seq
 (rg [2] [
 mv 3 0,
 vo 4 (.call 129 [(.t 3),(.c (.bool false))]),
 vo 5 (.call 128 [(.t 4)]),
 sg 2 5])
 .ret))
 modes:=[.lend]
 rets:=[⟨2,none⟩]}

/-- loop.example/g00539/laws.toTx -/
def v100 : VFun := {
 code:=
 (.seq
 (rg [1, 2] [
 vo 1 (.box 123 (.t 0)),
 vo 2 (.alloc 98 [(.val (.int .i64 0)),(.nl 3),(.nl 2)])])
 (.seq
 (rg [1, 2, 3] [
 vo 3 (.alloc 98 [(.val (.int .i64 0)),(.nl 3),(.nl 2)])])
 (.seq
 (rg [1, 2, 3] [
 vo 4 (.fa 123 0 0 1 (.t 1)),
 ld 5 2 4,
 vo 6 (.fa 98 0 0 1 (.t 3)),
 vn (.store 2 1 (.t 6) (.t 5))])
 (.seq
 (rg [1, 2, 3] [
 vo 7 (.fa 123 1 1 1 (.t 1)),
 ld 8 120 7,
 vo 9 (.call 130 [(.t 8)]),
 vo 10 (.fa 98 1 1 1 (.t 3)),
 vn (.store 95 1 (.t 10) (.t 9))])
 (.seq
 (rg [2, 3] [
 vo 11 (.fa 123 2 2 1 (.t 1)),
 ld 12 121 11,
 vo 13 (.call 131 [(.t 12)]),
 vo 14 (.fa 98 2 2 1 (.t 3)),
 vn (.store 96 1 (.t 14) (.t 13))])
 (.seq
 (rg [2] [
 vo 15 (.load 98 true 3 (.t 3)),
 vn (.store 98 3 (.t 2) (.t 15))])
 .ret))))))
 modes:=[.lend]
 rets:=[⟨2,some (true,3)⟩]}

def b101_0:VC:=
 (.seq
 (rg [3, 6, 7, 8, 9, 10, 17] [
 vo 10 (.bin false .lss 3 (.t 9) (.t 8))])
 (.seq
 (.cond (.t 10)
 .skip
 (.exit 0))
 (.seq
 (.block 1
 (.seq
 (rg [3, 5, 6, 7, 8, 9, 17] [
 vo 11 (.ia 28 98 3 (.t 7) (.t 9)),
 vo 12 (.load 98 true 3 (.t 11)),
 vo 5 (.alloc 98 [(.val (.int .i64 0)),(.nl 3),(.nl 2)]),
 vn (.store 98 3 (.t 5) (.t 12))])
 (rg [3, 6, 7, 8, 9, 17] [
 mv 13 3,
 vo 14 (.load 98 true 3 (.t 5)),
 vo 15 (.call 132 [(.t 14)]),
 vo 16 (.lit 28 98 3 1 [(.val (.int .i64 0)),(.nl 3),(.nl 2)] [(0,(.t 15))]),
 vo 17 (.app 28 98 3 56 (.t 13) (.t 16)),
 sg 3 17])))
 (rg [3, 6, 7, 8, 9, 17] [
 vo 18 (.bin false .add 3 (.t 9) (ci 1)),
 mv 9 18]))))
def l101_0:VC:=.loop b101_0
/-- loop.example/g00539/impl.cloneTxs -/
def v101 : VFun := {
 code:=
 (.seq
 (rg [0] [
 vo 2 (.asg (.n 3))])
 (.seq
 (rg [0, 3, 6, 17] [
 vo 6 (.lit 28 98 3 0 [(.val (.int .i64 0)),(.nl 3),(.nl 2)] []),
 sg 3 6])
 (.seq
 (.seq
 (rg [3, 6, 7, 8, 9, 17] [
 mv 7 0,
 vo 8 (.len false 28 (.t 7)),
 vo 9 (.mov (ci 0))])
 (.block 0
 l101_0))
 (.seq
 (rg [2, 3, 6, 17] [
 mv 19 3,
 sg 2 19])
 .ret))))
 modes:=[.lend]
 rets:=[⟨2,none⟩]}

/-- loop.example/g00539/impl.inFault -/
def v102 : VFun := {
 code:=
 (.seq
 (rg [1, 2] [
 vo 2 (.box 130 (.t 0)),
 vo 4 (.asg (ci 0))])
 (.seq
 (.block 0
 (.seq
 (rg [1, 2, 5] [
 vo 6 (.fa 130 0 0 1 (.t 2)),
 ld 7 2 6,
 vo 8 (.call 74 [(.t 7)]),
 vo 9 (.un .not (.t 8)),
 mv 10 9,
 og 11 (.fa 130 1 1 1 (.t 2)) 10 false,
 og 12 (.load 2 false 1 (.t 11)) 10 false,
 og 13 (.call 41 [(.t 12),(ci 0),(ci 3)]) 10 false,
 og 14 (.un .not (.t 13)) 10 false,
 vo 15 (.pick (.t 10) (.c (.bool true)) (.t 14)),
 sg 5 15])
 (.cond (.t 5)
 (.seq
 (rg [4] [
 vo 4 (.asg (ci 3))])
 .ret)
 (.seq
 (rg [1, 2, 16] [
 vo 17 (.fa 130 2 2 1 (.t 2)),
 ld 18 100 17,
 vo 19 (.len false 100 (.t 18)),
 vo 20 (.bin false .gtr 3 (.t 19) (ci 8)),
 sg 16 20])
 (.cond (.t 16)
 (.seq
 (rg [4] [
 vo 4 (.asg (ci 2))])
 .ret)
 (.seq
 (rg [1, 2, 21] [
 vo 22 (.fa 130 2 2 1 (.t 2)),
 ld 23 100 22,
 vo 24 (.call 133 [(.t 23),(.f 134)]),
 sg 21 24])
 (.cond (.t 21)
 (.seq
 (rg [4] [
 vo 4 (.asg (ci 3))])
 .ret)
 (.seq
 (rg [25] [
 mv 26 1,
 vo 27 (.fn 136 [] [(.t 2)]),
 vo 28 (.call 135 [(.t 26),(.t 27)]),
 sg 25 28])
 (.cond (.t 25)
 (.seq
 (rg [4] [
 vo 4 (.asg (ci 6))])
 .ret)
 .skip)))))))))
 (.seq
 (rg [4] [
 vo 4 (.asg (ci 0))])
 .ret)))
 modes:=[.lend,.lend]
 rets:=[⟨4,none⟩]}

/-- loop.example/g00539/impl.isAmount -/
def v103 : VFun := {
 code:=
 (.seq
 (rg [0] [
 vo 2 (.asg (.c (.bool false)))])
 (.seq
 (rg [2] [
 mv 3 0,
 vo 4 (.call 41 [(.t 3),(ci 0),(ci 1000000)]),
 sg 2 4])
 .ret))
 modes:=[.lend]
 rets:=[⟨2,none⟩]}

/-- loop.example/g00539/impl.ProgramFault -/
def v104 : VFun := {
 code:=
 (.seq
 (rg [0] [
 vo 2 (.asg (ci 0))])
 (.seq
 (.seq
 (rg [0, 5] [
 mv 3 0,
 vo 4 (.len false 100 (.t 3)),
 vo 5 (.bin false .gtr 3 (.t 4) (ci 12))])
 (.cond (.t 5)
 (.seq
 (rg [2] [
 vo 2 (.asg (ci 2))])
 .ret)
 .skip))
 (.seq
 (.seq
 (rg [7] [
 mv 6 0,
 vo 7 (.call 133 [(.t 6),(.f 137)])])
 (.cond (.t 7)
 (.seq
 (rg [2] [
 vo 2 (.asg (ci 1))])
 .ret)
 .skip))
 (.seq
 (rg [2] [
 vo 2 (.asg (ci 0))])
 .ret))))
 modes:=[.lend]
 rets:=[⟨2,none⟩]}

def b105_0:VC:=
 (.seq
 (rg [3, 6, 7, 8, 9] [
 vo 9 (.bin false .lss 3 (.t 8) (.t 7))])
 (.seq
 (.cond (.t 9)
 .skip
 (.exit 0))
 (.seq
 (.block 1
 (.seq
 (rg [3, 5, 6, 7, 8] [
 vo 10 (.ia 96 102 2 (.t 6) (.t 8)),
 vo 11 (.load 102 true 2 (.t 10)),
 vo 5 (.alloc 102 [(.val (.int .i64 0)),(.nl 1)]),
 vn (.store 102 2 (.t 5) (.t 11))])
 (rg [3, 6, 7, 8] [
 mv 12 3,
 vo 13 (.fa 102 0 0 1 (.t 5)),
 ld 14 2 13,
 vo 15 (.bin false .add 2 (.t 12) (.t 14)),
 sg 3 15])))
 (rg [3, 6, 7, 8] [
 vo 16 (.bin false .add 3 (.t 8) (ci 1)),
 mv 8 16]))))
def l105_0:VC:=.loop b105_0
/-- loop.example/g00539/impl.outSum -/
def v105 : VFun := {
 code:=
 (.seq
 (rg [0] [
 vo 2 (.asg (ci 0))])
 (.seq
 (rg [0, 3] [
 vo 3 (.asg (ci 0))])
 (.seq
 (.seq
 (rg [3, 6, 7, 8] [
 mv 6 0,
 vo 7 (.len false 96 (.t 6)),
 vo 8 (.mov (ci 0))])
 (.block 0
 l105_0))
 (.seq
 (rg [2] [
 mv 17 3,
 sg 2 17])
 .ret))))
 modes:=[.lend]
 rets:=[⟨2,none⟩]}

/-- loop.example/g00539/impl.leavesFault -/
def v106 : VFun := {
 code:=
 (.seq
 (rg [0] [
 vo 2 (.asg (ci 0))])
 (.seq
 (.seq
 (rg [0, 6] [
 mv 3 0,
 vo 4 (.len false 100 (.t 3)),
 vo 5 (.call 41 [(.t 4),(ci 1),(ci 8)]),
 vo 6 (.un .not (.t 5))])
 (.cond (.t 6)
 (.seq
 (rg [2] [
 vo 2 (.asg (ci 2))])
 .ret)
 .skip))
 (.seq
 (rg [2] [
 mv 7 0,
 vo 8 (.call 138 [(.t 7)]),
 sg 2 8])
 .ret)))
 modes:=[.lend]
 rets:=[⟨2,none⟩]}

def b107_0:VC:=
 (.seq
 (.seq
 (rg [0, 3, 4, 5, 9, 23] [
 mv 6 4,
 mv 7 0,
 vo 8 (.len false 100 (.t 7)),
 vo 9 (.bin false .lss 3 (.t 6) (.t 8))])
 (.cond (.t 9)
 .skip
 (.exit 0)))
 (.seq
 (.block 1
 (.region true [0, 3, 4, 5, 23] [
 mv 12 3,
 ⟨some 13,.mov (.t 0),none,[0]⟩,
 ⟨some 14,.mov (.t 4),none,[0,1]⟩,
 ⟨some 15,.ia 100 2 1 (.t 13) (.t 14),none,[0]⟩,
 ⟨some 16,.load 2 false 1 (.t 15),none,[0]⟩,
 ⟨some 17,.mov (.t 0),none,[0,1,2,3,4]⟩,
 ⟨some 18,.mov (.t 4),none,[0,1,2,3,4,5]⟩,
 ⟨some 19,.call 139 [(.t 17),(.t 18)],none,[0,1,2,3,4]⟩,
 ⟨some 20,.lit 100 2 1 2 [(.val (.int .i64 0))] [(0,(.t 16)),(1,(.t 19))],none,[0]⟩,
 ⟨some 21,.call 118 [(.t 20)],none,[0]⟩,
 ⟨some 22,.lit 100 2 1 1 [(.val (.int .i64 0))] [(0,(.t 21))],none,[0]⟩,
 vo 23 (.app 100 2 1 8 (.t 12) (.t 22)),
 sg 3 23]))
 (rg [0, 3, 4, 5, 23] [
 mv 10 4,
 vo 11 (.bin false .add 3 (.t 10) (ci 2)),
 sg 4 11])))
def l107_0:VC:=.loop b107_0
/-- loop.example/g00539/impl.above -/
def v107 : VFun := {
 code:=
 (.seq
 (rg [0] [
 vo 2 (.asg (.n 1))])
 (.seq
 (rg [0, 3, 5, 23] [
 vo 5 (.lit 100 2 1 0 [(.val (.int .i64 0))] []),
 sg 3 5])
 (.seq
 (.seq
 (rg [0, 3, 4, 5, 23] [
 vo 4 (.asg (ci 0))])
 (.block 0
 l107_0))
 (.seq
 (rg [2, 3, 5, 23] [
 mv 24 3,
 sg 2 24])
 .ret))))
 modes:=[.lend]
 rets:=[⟨2,none⟩]}

def b108_0:VC:=
 (.seq
 (rg [1, 3, 12, 13, 14, 15] [
 vo 15 (.bin false .lss 3 (.t 14) (.t 13))])
 (.seq
 (.cond (.t 15)
 .skip
 (.exit 0))
 (.seq
 (.block 1
 (.seq
 (rg [1, 3, 5, 12, 13, 14] [
 vo 16 (.ia 95 130 3 (.t 12) (.t 14)),
 vo 17 (.load 130 true 3 (.t 16)),
 vo 5 (.alloc 130 [(.val (.int .i64 0)),(.val (.int .i64 0)),(.nl 1)]),
 vn (.store 130 3 (.t 5) (.t 17))])
 (rg [1, 3, 12, 13, 14] [
 vo 18 (.fa 98 1 1 1 (.t 3)),
 ld 19 95 18,
 vo 20 (.fa 130 0 0 1 (.t 5)),
 ld 21 2 20,
 vo 22 (.fa 130 1 1 1 (.t 5)),
 ld 23 2 22,
 vo 24 (.build 130 [(.val (.int .i64 0)),(.val (.int .i64 0)),(.nl 1)] [(0,0,1,(.t 21)),(1,1,1,(.t 23))]),
 vo 25 (.lit 95 130 3 1 [(.val (.int .i64 0)),(.val (.int .i64 0)),(.nl 1)] [(0,(.t 24))]),
 vo 26 (.app 95 130 3 40 (.t 19) (.t 25)),
 vo 27 (.fa 98 1 1 1 (.t 3)),
 vn (.store 95 1 (.t 27) (.t 26))])))
 (rg [1, 3, 12, 13, 14] [
 vo 28 (.bin false .add 3 (.t 14) (ci 1)),
 mv 14 28]))))
def l108_0:VC:=.loop b108_0
/-- loop.example/g00539/impl.txSum -/
def v108 : VFun := {
 code:=
 (.seq
 (rg [1] [
 vo 1 (.box 98 (.t 0)),
 vo 2 (.asg (ci 0))])
 (.seq
 (rg [1, 3] [
 vo 6 (.fa 98 0 0 1 (.t 1)),
 ld 7 2 6,
 vo 8 (.fa 98 2 2 1 (.t 1)),
 ld 9 96 8,
 vo 10 (.build 98 [(.val (.int .i64 0)),(.nl 3),(.nl 2)] [(0,0,1,(.t 7)),(1,1,1,(.n 3)),(2,2,1,(.t 9))]),
 vo 3 (.alloc 98 [(.val (.int .i64 0)),(.nl 3),(.nl 2)]),
 vn (.store 98 3 (.t 3) (.t 10))])
 (.seq
 (.seq
 (rg [1, 3, 12, 13, 14] [
 vo 11 (.fa 98 1 1 1 (.t 1)),
 ld 12 95 11,
 vo 13 (.len false 95 (.t 12)),
 vo 14 (.mov (ci 0))])
 (.block 0
 l108_0))
 (.seq
 (rg [2] [
 vo 29 (.load 98 true 3 (.t 3)),
 vo 30 (.call 141 [(.t 29)]),
 vo 31 (.call 140 [(.t 30)]),
 sg 2 31])
 .ret))))
 modes:=[.lend]
 rets:=[⟨2,none⟩]}

/-- loop.example/g00539/laws.eqTx -/
def v109 : VFun := {
 code:=
 (.seq
 (rg [2, 3] [
 vo 2 (.box 98 (.t 0)),
 vo 3 (.box 98 (.t 1)),
 vo 4 (.asg (.c (.bool false)))])
 (.seq
 (.seq
 (rg [2, 3, 9] [
 vo 5 (.fa 98 0 0 1 (.t 2)),
 ld 6 2 5,
 vo 7 (.fa 98 0 0 1 (.t 3)),
 ld 8 2 7,
 vo 9 (.bin false .neq 2 (.t 6) (.t 8))])
 (.cond (.t 9)
 (.seq
 (rg [4] [
 vo 4 (.asg (.c (.bool false)))])
 .ret)
 .skip))
 (.seq
 (.seq
 (rg [2, 3, 15] [
 vo 10 (.fa 98 1 1 1 (.t 2)),
 ld 11 95 10,
 vo 12 (.fa 98 1 1 1 (.t 3)),
 ld 13 95 12,
 vo 14 (.call 142 [(.t 11),(.t 13)]),
 vo 15 (.un .not (.t 14))])
 (.cond (.t 15)
 (.seq
 (rg [4] [
 vo 4 (.asg (.c (.bool false)))])
 .ret)
 .skip))
 (.seq
 (.seq
 (rg [21] [
 vo 16 (.fa 98 2 2 1 (.t 2)),
 ld 17 96 16,
 vo 18 (.fa 98 2 2 1 (.t 3)),
 ld 19 96 18,
 vo 20 (.call 143 [(.t 17),(.t 19)]),
 vo 21 (.un .not (.t 20))])
 (.cond (.t 21)
 (.seq
 (rg [4] [
 vo 4 (.asg (.c (.bool false)))])
 .ret)
 .skip))
 (.seq
 (rg [4] [
 vo 4 (.asg (.c (.bool true)))])
 .ret)))))
 modes:=[.lend,.lend]
 rets:=[⟨4,none⟩]}

def b110_0:VC:=
 (.seq
 (.seq
 (rg [0, 1, 5, 9] [
 mv 6 5,
 mv 7 0,
 vo 8 (.len false 95 (.t 7)),
 vo 9 (.bin false .lss 3 (.t 6) (.t 8))])
 (.cond (.t 9)
 .skip
 (.exit 0)))
 (.seq
 (.block 1
 (.seq
 (.seq
 (rg [0, 1, 5, 18] [
 mv 12 0,
 mv 13 5,
 vo 14 (.ia 95 130 3 (.t 12) (.t 13)),
 vo 15 (.fa 130 0 0 1 (.t 14)),
 ld 16 2 15,
 mv 17 1,
 vo 18 (.bin false .neq 2 (.t 16) (.t 17))])
 (.cond (.t 18)
 (.seq
 (rg [4] [
 vo 4 (.asg (ci ((-1))))])
 .ret)
 .skip))
 (.seq
 (rg [0, 1, 5] [
 mv 19 1,
 vo 20 (.bin false .add 3 (.t 19) (ci 1)),
 sg 1 20])
 (.seq
 (.seq
 (rg [0, 1, 5, 27] [
 mv 21 0,
 mv 22 5,
 vo 23 (.ia 95 130 3 (.t 21) (.t 22)),
 vo 24 (.fa 130 1 1 1 (.t 23)),
 ld 25 2 24,
 mv 26 1,
 vo 27 (.bin false .neq 2 (.t 25) (.t 26))])
 (.cond (.t 27)
 (.seq
 (rg [4] [
 vo 4 (.asg (ci ((-1))))])
 .ret)
 .skip))
 (.seq
 (rg [0, 1, 5] [
 mv 28 1,
 vo 29 (.bin false .add 3 (.t 28) (ci 1)),
 sg 1 29])
 (.seq
 (rg [0, 1, 5] [
 mv 30 0,
 mv 31 5,
 vo 32 (.ia 95 130 3 (.t 30) (.t 31)),
 vo 33 (.fa 130 2 2 1 (.t 32)),
 ld 34 100 33,
 mv 35 1,
 vo 36 (.call 144 [(.t 34),(.t 35)]),
 sg 1 36])
 (.seq
 (rg [0, 1, 5, 38] [
 mv 37 1,
 vo 38 (.bin false .lss 3 (.t 37) (ci 0))])
 (.cond (.t 38)
 (.seq
 (rg [4] [
 vo 4 (.asg (ci ((-1))))])
 .ret)
 .skip))))))))
 (rg [0, 1, 5] [
 mv 10 5,
 vo 11 (.bin false .add 3 (.t 10) (ci 1)),
 sg 5 11])))
def l110_0:VC:=.loop b110_0
/-- loop.example/g00539/laws.heldInS -/
def v110 : VFun := {
 code:=
 (.seq
 (rg [0, 1] [
 vo 4 (.asg (ci 0))])
 (.seq
 (.seq
 (rg [0, 1, 5] [
 vo 5 (.asg (ci 0))])
 (.block 0
 l110_0))
 (.seq
 (rg [4] [
 mv 39 1,
 sg 4 39])
 .ret)))
 modes:=[.lend,.lend]
 rets:=[⟨4,none⟩]}

def b111_0:VC:=
 (.seq
 (.seq
 (rg [0, 1, 5, 9] [
 mv 6 5,
 mv 7 0,
 vo 8 (.len false 96 (.t 7)),
 vo 9 (.bin false .lss 3 (.t 6) (.t 8))])
 (.cond (.t 9)
 .skip
 (.exit 0)))
 (.seq
 (.block 1
 (.seq
 (.seq
 (rg [0, 1, 5, 18] [
 mv 12 0,
 mv 13 5,
 vo 14 (.ia 96 102 2 (.t 12) (.t 13)),
 vo 15 (.fa 102 0 0 1 (.t 14)),
 ld 16 2 15,
 mv 17 1,
 vo 18 (.bin false .neq 2 (.t 16) (.t 17))])
 (.cond (.t 18)
 (.seq
 (rg [4] [
 vo 4 (.asg (ci ((-1))))])
 .ret)
 .skip))
 (.seq
 (rg [0, 1, 5] [
 mv 19 1,
 vo 20 (.bin false .add 3 (.t 19) (ci 1)),
 sg 1 20])
 (.seq
 (rg [0, 1, 5] [
 mv 21 0,
 mv 22 5,
 vo 23 (.ia 96 102 2 (.t 21) (.t 22)),
 vo 24 (.fa 102 1 1 1 (.t 23)),
 ld 25 100 24,
 mv 26 1,
 vo 27 (.call 144 [(.t 25),(.t 26)]),
 sg 1 27])
 (.seq
 (rg [0, 1, 5, 29] [
 mv 28 1,
 vo 29 (.bin false .lss 3 (.t 28) (ci 0))])
 (.cond (.t 29)
 (.seq
 (rg [4] [
 vo 4 (.asg (ci ((-1))))])
 .ret)
 .skip))))))
 (rg [0, 1, 5] [
 mv 10 5,
 vo 11 (.bin false .add 3 (.t 10) (ci 1)),
 sg 5 11])))
def l111_0:VC:=.loop b111_0
/-- loop.example/g00539/laws.heldOutS -/
def v111 : VFun := {
 code:=
 (.seq
 (rg [0, 1] [
 vo 4 (.asg (ci 0))])
 (.seq
 (.seq
 (rg [0, 1, 5] [
 vo 5 (.asg (ci 0))])
 (.block 0
 l111_0))
 (.seq
 (rg [4] [
 mv 30 1,
 sg 4 30])
 .ret)))
 modes:=[.lend,.lend]
 rets:=[⟨4,none⟩]}

def b112_0:VC:=
 (.seq
 (.seq
 (rg [0, 1, 5, 9] [
 mv 6 5,
 mv 7 0,
 vo 8 (.len false 100 (.t 7)),
 vo 9 (.bin false .lss 3 (.t 6) (.t 8))])
 (.cond (.t 9)
 .skip
 (.exit 0)))
 (.seq
 (.block 1
 (.seq
 (rg [0, 1, 5] [
 mv 12 0,
 mv 13 5,
 mv 14 1,
 vo 15 (.ia 100 2 1 (.t 12) (.t 13)),
 vn (.store 2 1 (.t 15) (.t 14))])
 (rg [0, 1, 5] [
 mv 16 1,
 vo 17 (.bin false .add 3 (.t 16) (ci 1)),
 sg 1 17])))
 (rg [0, 1, 5] [
 mv 10 5,
 vo 11 (.bin false .add 3 (.t 10) (ci 1)),
 sg 5 11])))
def l112_0:VC:=.loop b112_0
/-- loop.example/g00539/laws.markInt64S -/
def v112 : VFun := {
 code:=
 (.seq
 (rg [0, 1] [
 vo 4 (.asg (ci 0))])
 (.seq
 (.seq
 (rg [0, 1, 5] [
 vo 5 (.asg (ci 0))])
 (.block 0
 l112_0))
 (.seq
 (rg [0, 4] [
 mv 18 1,
 sg 4 18])
 .ret)))
 modes:=[.io,.lend]
 rets:=[⟨4,none⟩]}

def b113_0:VC:=
 (.seq
 (.seq
 (rg [0, 3, 4, 5, 9, 18] [
 mv 6 4,
 mv 7 0,
 vo 8 (.len false 100 (.t 7)),
 vo 9 (.bin false .lss 3 (.t 6) (.t 8))])
 (.cond (.t 9)
 .skip
 (.exit 0)))
 (.seq
 (.block 1
 (rg [0, 3, 4, 5, 18] [
 mv 12 3,
 mv 13 0,
 mv 14 4,
 vo 15 (.ia 100 2 1 (.t 13) (.t 14)),
 ld 16 2 15,
 vo 17 (.call 145 [(.t 16)]),
 vo 18 (.app 148 5 1 1 (.t 12) (.t 17)),
 sg 3 18]))
 (rg [0, 3, 4, 5, 18] [
 mv 10 4,
 vo 11 (.bin false .add 3 (.t 10) (ci 1)),
 sg 4 11])))
def l113_0:VC:=.loop b113_0
/-- loop.example/g00539/spec.l1SumInts -/
def v113 : VFun := {
 code:=
 (.seq
 (rg [0] [
 vo 2 (.asg (ci 0))])
 (.seq
 (rg [0, 3, 5, 18] [
 vo 5 (.lit 148 5 1 0 [(.val (.int .u8 0))] []),
 sg 3 5])
 (.seq
 (.seq
 (rg [0, 3, 4, 5, 18] [
 vo 4 (.asg (ci 0))])
 (.block 0
 l113_0))
 (.seq
 (rg [2] [
 mv 19 3,
 vo 20 (.call 128 [(.t 19)]),
 sg 2 20])
 .ret))))
 modes:=[.lend]
 rets:=[⟨2,none⟩]}

def b118_0:VC:=
 (.seq
 (rg [3, 6, 7, 8, 9, 10, 16] [
 vo 10 (.bin false .lss 3 (.t 9) (.t 8))])
 (.seq
 (.cond (.t 10)
 .skip
 (.exit 0))
 (.seq
 (.block 1
 (.seq
 (rg [3, 5, 6, 7, 8, 9, 16] [
 vo 11 (.ia 100 2 1 (.t 7) (.t 9)),
 ld 12 2 11,
 sg 5 12])
 (rg [3, 6, 7, 8, 9, 16] [
 mv 13 3,
 mv 14 5,
 vo 15 (.call 146 [(.t 14),(ci 4)]),
 vo 16 (.app 148 5 1 1 (.t 13) (.t 15)),
 sg 3 16])))
 (rg [3, 6, 7, 8, 9, 16] [
 vo 17 (.bin false .add 3 (.t 9) (ci 1)),
 mv 9 17]))))
def l118_0:VC:=.loop b118_0
/-- loop.example/g00539/impl.sumInts -/
def v118 : VFun := {
 code:=
 (.seq
 (rg [0] [
 vo 2 (.asg (ci 0))])
 (.seq
 (rg [0, 3, 6, 16] [
 vo 6 (.lit 148 5 1 0 [(.val (.int .u8 0))] []),
 sg 3 6])
 (.seq
 (.seq
 (rg [3, 6, 7, 8, 9, 16] [
 mv 7 0,
 vo 8 (.len false 100 (.t 7)),
 vo 9 (.mov (ci 0))])
 (.block 0
 l118_0))
 (.seq
 (rg [2] [
 mv 18 3,
 vo 19 (.call 140 [(.t 18)]),
 sg 2 19])
 .ret))))
 modes:=[.lend]
 rets:=[⟨2,none⟩]}

def b120_0:VC:=
 (.seq
 (.seq
 (rg [0, 1, 5, 15] [
 mv 12 5,
 mv 13 0,
 vo 14 (.len false 120 (.t 13)),
 vo 15 (.bin false .lss 3 (.t 12) (.t 14))])
 (.cond (.t 15)
 .skip
 (.exit 0)))
 (.seq
 (.block 1
 (.seq
 (rg [0, 1, 5] [
 mv 18 0,
 mv 19 5,
 vo 20 (.ia 120 161 3 (.t 18) (.t 19)),
 vo 21 (.load 161 true 3 (.t 20)),
 mv 22 1,
 vo 23 (.call 147 [(.t 21),(.t 22)]),
 sg 1 23])
 (.seq
 (rg [0, 1, 5, 25] [
 mv 24 1,
 vo 25 (.bin false .lss 3 (.t 24) (ci 0))])
 (.cond (.t 25)
 (.seq
 (rg [4] [
 vo 4 (.asg (ci ((-1))))])
 .ret)
 .skip))))
 (rg [0, 1, 5] [
 mv 16 5,
 vo 17 (.bin false .add 3 (.t 16) (ci 1)),
 sg 5 17])))
def l120_0:VC:=.loop b120_0
/-- loop.example/g00539/laws.szInS -/
def v120 : VFun := {
 code:=
 (.seq
 (rg [0, 1] [
 vo 4 (.asg (ci 0))])
 (.seq
 (rg [0, 1] [
 mv 6 1,
 mv 7 0,
 vo 8 (.len false 120 (.t 7)),
 vo 9 (.bin false .sub 3 (.t 6) (.t 8)),
 sg 1 9])
 (.seq
 (.seq
 (rg [0, 1, 11] [
 mv 10 1,
 vo 11 (.bin false .lss 3 (.t 10) (ci 0))])
 (.cond (.t 11)
 (.seq
 (rg [4] [
 vo 4 (.asg (ci ((-1))))])
 .ret)
 .skip))
 (.seq
 (.seq
 (rg [0, 1, 5] [
 vo 5 (.asg (ci 0))])
 (.block 0
 l120_0))
 (.seq
 (rg [4] [
 mv 26 1,
 sg 4 26])
 .ret)))))
 modes:=[.lend,.lend]
 rets:=[⟨4,none⟩]}

def b121_0:VC:=
 (.seq
 (.seq
 (rg [0, 1, 5, 15] [
 mv 12 5,
 mv 13 0,
 vo 14 (.len false 121 (.t 13)),
 vo 15 (.bin false .lss 3 (.t 12) (.t 14))])
 (.cond (.t 15)
 .skip
 (.exit 0)))
 (.seq
 (.block 1
 (.seq
 (rg [0, 1, 5] [
 mv 18 0,
 mv 19 5,
 vo 20 (.ia 121 163 2 (.t 18) (.t 19)),
 vo 21 (.load 163 true 2 (.t 20)),
 mv 22 1,
 vo 23 (.call 148 [(.t 21),(.t 22)]),
 sg 1 23])
 (.seq
 (rg [0, 1, 5, 25] [
 mv 24 1,
 vo 25 (.bin false .lss 3 (.t 24) (ci 0))])
 (.cond (.t 25)
 (.seq
 (rg [4] [
 vo 4 (.asg (ci ((-1))))])
 .ret)
 .skip))))
 (rg [0, 1, 5] [
 mv 16 5,
 vo 17 (.bin false .add 3 (.t 16) (ci 1)),
 sg 5 17])))
def l121_0:VC:=.loop b121_0
/-- loop.example/g00539/laws.szOutS -/
def v121 : VFun := {
 code:=
 (.seq
 (rg [0, 1] [
 vo 4 (.asg (ci 0))])
 (.seq
 (rg [0, 1] [
 mv 6 1,
 mv 7 0,
 vo 8 (.len false 121 (.t 7)),
 vo 9 (.bin false .sub 3 (.t 6) (.t 8)),
 sg 1 9])
 (.seq
 (.seq
 (rg [0, 1, 11] [
 mv 10 1,
 vo 11 (.bin false .lss 3 (.t 10) (ci 0))])
 (.cond (.t 11)
 (.seq
 (rg [4] [
 vo 4 (.asg (ci ((-1))))])
 .ret)
 .skip))
 (.seq
 (.seq
 (rg [0, 1, 5] [
 vo 5 (.asg (ci 0))])
 (.block 0
 l121_0))
 (.seq
 (rg [4] [
 mv 26 1,
 sg 4 26])
 .ret)))))
 modes:=[.lend,.lend]
 rets:=[⟨4,none⟩]}

def b122_1:VC:=
 (.seq
 (.seq
 (rg [1, 2, 3, 5, 45] [
 mv 41 5,
 vo 42 (.fa 98 2 2 1 (.t 1)),
 ld 43 96 42,
 vo 44 (.len false 96 (.t 43)),
 vo 45 (.bin false .lss 3 (.t 41) (.t 44))])
 (.cond (.t 45)
 .skip
 (.exit 2)))
 (.seq
 (.block 3
 (.region true [1, 2, 3, 5] [
 vo 48 (.fa 98 2 2 1 (.t 3)),
 ld 49 96 48,
 ⟨some 50,.fa 98 2 2 1 (.t 1),none,[0,1]⟩,
 ⟨some 51,.load 96 false 1 (.t 50),none,[0,1]⟩,
 ⟨some 52,.mov (.t 5),none,[0,1,2,3]⟩,
 ⟨some 53,.ia 96 102 2 (.t 51) (.t 52),none,[0,1]⟩,
 ⟨some 54,.fa 102 0 0 1 (.t 53),none,[0,1]⟩,
 ⟨some 55,.load 2 false 1 (.t 54),none,[0,1]⟩,
 ⟨some 56,.fa 98 2 2 1 (.t 1),none,[0,1,2,3,4,5,6,7]⟩,
 ⟨some 57,.load 96 false 1 (.t 56),none,[0,1,2,3,4,5,6,7]⟩,
 ⟨some 58,.mov (.t 5),none,[0,1,2,3,4,5,6,7,8,9]⟩,
 ⟨some 59,.ia 96 102 2 (.t 57) (.t 58),none,[0,1,2,3,4,5,6,7]⟩,
 ⟨some 60,.fa 102 1 1 1 (.t 59),none,[0,1,2,3,4,5,6,7]⟩,
 ⟨some 61,.load 100 false 1 (.t 60),none,[0,1,2,3,4,5,6,7]⟩,
 ⟨some 62,.call 149 [(.t 61)],none,[0,1,2,3,4,5,6,7]⟩,
 ⟨some 63,.build 102 [(.val (.int .i64 0)),(.nl 1)] [(0,0,1,(.t 55)),(1,1,1,(.t 62))],none,[0,1]⟩,
 ⟨some 64,.lit 96 102 2 1 [(.val (.int .i64 0)),(.nl 1)] [(0,(.t 63))],none,[0,1]⟩,
 vo 65 (.app 96 102 2 32 (.t 49) (.t 64)),
 vo 66 (.fa 98 2 2 1 (.t 3)),
 vn (.store 96 1 (.t 66) (.t 65))]))
 (rg [1, 2, 3, 5] [
 mv 46 5,
 vo 47 (.bin false .add 3 (.t 46) (ci 1)),
 sg 5 47])))
def l122_1:VC:=.loop b122_1
def b122_0:VC:=
 (.seq
 (.seq
 (rg [1, 2, 3, 4, 13] [
 mv 9 4,
 vo 10 (.fa 98 1 1 1 (.t 1)),
 ld 11 95 10,
 vo 12 (.len false 95 (.t 11)),
 vo 13 (.bin false .lss 3 (.t 9) (.t 12))])
 (.cond (.t 13)
 .skip
 (.exit 0)))
 (.seq
 (.block 1
 (.region true [1, 2, 3, 4] [
 vo 16 (.fa 98 1 1 1 (.t 3)),
 ld 17 95 16,
 ⟨some 18,.fa 98 1 1 1 (.t 1),none,[0,1]⟩,
 ⟨some 19,.load 95 false 1 (.t 18),none,[0,1]⟩,
 ⟨some 20,.mov (.t 4),none,[0,1,2,3]⟩,
 ⟨some 21,.ia 95 130 3 (.t 19) (.t 20),none,[0,1]⟩,
 ⟨some 22,.fa 130 0 0 1 (.t 21),none,[0,1]⟩,
 ⟨some 23,.load 2 false 1 (.t 22),none,[0,1]⟩,
 ⟨some 24,.fa 98 1 1 1 (.t 1),none,[0,1,2,3,4,5,6,7]⟩,
 ⟨some 25,.load 95 false 1 (.t 24),none,[0,1,2,3,4,5,6,7]⟩,
 ⟨some 26,.mov (.t 4),none,[0,1,2,3,4,5,6,7,8,9]⟩,
 ⟨some 27,.ia 95 130 3 (.t 25) (.t 26),none,[0,1,2,3,4,5,6,7]⟩,
 ⟨some 28,.fa 130 1 1 1 (.t 27),none,[0,1,2,3,4,5,6,7]⟩,
 ⟨some 29,.load 2 false 1 (.t 28),none,[0,1,2,3,4,5,6,7]⟩,
 ⟨some 30,.fa 98 1 1 1 (.t 1),none,[0,1,2,3,4,5,6,7,8,9,10,11,12,13]⟩,
 ⟨some 31,.load 95 false 1 (.t 30),none,[0,1,2,3,4,5,6,7,8,9,10,11,12,13]⟩,
 ⟨some 32,.mov (.t 4),none,[0,1,2,3,4,5,6,7,8,9,10,11,12,13,14,15]⟩,
 ⟨some 33,.ia 95 130 3 (.t 31) (.t 32),none,[0,1,2,3,4,5,6,7,8,9,10,11,12,13]⟩,
 ⟨some 34,.fa 130 2 2 1 (.t 33),none,[0,1,2,3,4,5,6,7,8,9,10,11,12,13]⟩,
 ⟨some 35,.load 100 false 1 (.t 34),none,[0,1,2,3,4,5,6,7,8,9,10,11,12,13]⟩,
 ⟨some 36,.call 149 [(.t 35)],none,[0,1,2,3,4,5,6,7,8,9,10,11,12,13]⟩,
 ⟨some 37,.build 130 [(.val (.int .i64 0)),(.val (.int .i64 0)),(.nl 1)] [(0,0,1,(.t 23)),(1,1,1,(.t 29)),(2,2,1,(.t 36))],none,[0,1]⟩,
 ⟨some 38,.lit 95 130 3 1 [(.val (.int .i64 0)),(.val (.int .i64 0)),(.nl 1)] [(0,(.t 37))],none,[0,1]⟩,
 vo 39 (.app 95 130 3 40 (.t 17) (.t 38)),
 vo 40 (.fa 98 1 1 1 (.t 3)),
 vn (.store 95 1 (.t 40) (.t 39))]))
 (rg [1, 2, 3, 4] [
 mv 14 4,
 vo 15 (.bin false .add 3 (.t 14) (ci 1)),
 sg 4 15])))
def l122_0:VC:=.loop b122_0
/-- loop.example/g00539/spec.l3Copy -/
def v122 : VFun := {
 code:=
 (.seq
 (rg [1, 2] [
 vo 1 (.box 98 (.t 0)),
 vo 2 (.alloc 98 [(.val (.int .i64 0)),(.nl 3),(.nl 2)])])
 (.seq
 (rg [1, 2, 3] [
 vo 6 (.fa 98 0 0 1 (.t 1)),
 ld 7 2 6,
 vo 8 (.build 98 [(.val (.int .i64 0)),(.nl 3),(.nl 2)] [(0,0,1,(.t 7))]),
 vo 3 (.alloc 98 [(.val (.int .i64 0)),(.nl 3),(.nl 2)]),
 vn (.store 98 3 (.t 3) (.t 8))])
 (.seq
 (.seq
 (rg [1, 2, 3, 4] [
 vo 4 (.asg (ci 0))])
 (.block 0
 l122_0))
 (.seq
 (.seq
 (rg [1, 2, 3, 5] [
 vo 5 (.asg (ci 0))])
 (.block 2
 l122_1))
 (.seq
 (rg [2] [
 vo 67 (.load 98 true 3 (.t 3)),
 vn (.store 98 3 (.t 2) (.t 67))])
 .ret)))))
 modes:=[.lend]
 rets:=[⟨2,some (true,3)⟩]}

def b123_0:VC:=
 (.seq
 (.seq
 (rg [0, 1, 2, 7, 11] [
 mv 8 7,
 mv 9 0,
 vo 10 (.len false 100 (.t 9)),
 vo 11 (.bin false .lss 3 (.t 8) (.t 10))])
 (.cond (.t 11)
 .skip
 (.exit 0)))
 (.seq
 (.block 1
 (.seq
 (rg [0, 1, 2, 7, 21] [
 mv 14 0,
 mv 15 7,
 vo 16 (.ia 100 2 1 (.t 14) (.t 15)),
 ld 17 2 16,
 mv 18 1,
 mv 19 2,
 vo 20 (.call 36 [(.t 17),(.t 18),(.t 19)]),
 vo 21 (.un .not (.t 20))])
 (.cond (.t 21)
 (.seq
 (rg [6] [
 vo 6 (.asg (.c (.bool false)))])
 .ret)
 .skip)))
 (rg [0, 1, 2, 7] [
 mv 12 7,
 vo 13 (.bin false .add 3 (.t 12) (ci 1)),
 sg 7 13])))
def l123_0:VC:=.loop b123_0
/-- loop.example/g00539/spec.l1All -/
def v123 : VFun := {
 code:=
 (.seq
 (rg [0, 1, 2] [
 vo 6 (.asg (.c (.bool false)))])
 (.seq
 (.seq
 (rg [0, 1, 2, 7] [
 vo 7 (.asg (ci 0))])
 (.block 0
 l123_0))
 (.seq
 (rg [6] [
 vo 6 (.asg (.c (.bool true)))])
 .ret)))
 modes:=[.lend,.lend,.lend]
 rets:=[⟨6,none⟩]}

/-- loop.example/g00539/spec.l1Amount -/
def v124 : VFun := {
 code:=
 (.seq
 (rg [0] [
 vo 2 (.asg (.c (.bool false)))])
 (.seq
 (rg [2] [
 mv 3 0,
 vo 4 (.call 36 [(.t 3),(ci 0),(ci 1000000)]),
 sg 2 4])
 .ret))
 modes:=[.lend]
 rets:=[⟨2,none⟩]}

def b125_0:VC:=
 (.seq
 (.seq
 (rg [0, 3, 10] [
 mv 7 3,
 mv 8 0,
 vo 9 (.len false 100 (.t 8)),
 vo 10 (.bin false .lss 3 (.t 7) (.t 9))])
 (.cond (.t 10)
 .skip
 (.exit 0)))
 (.seq
 (.block 1
 (.seq
 (rg [0, 3, 18] [
 mv 13 0,
 mv 14 3,
 vo 15 (.ia 100 2 1 (.t 13) (.t 14)),
 ld 16 2 15,
 vo 17 (.call 150 [(.t 16)]),
 vo 18 (.un .not (.t 17))])
 (.cond (.t 18)
 (.seq
 (rg [2] [
 vo 2 (.asg (ci 1))])
 .ret)
 .skip)))
 (rg [0, 3] [
 mv 11 3,
 vo 12 (.bin false .add 3 (.t 11) (ci 1)),
 sg 3 12])))
def l125_0:VC:=.loop b125_0
/-- loop.example/g00539/spec.l2Fault -/
def v125 : VFun := {
 code:=
 (.seq
 (rg [0] [
 vo 2 (.asg (ci 0))])
 (.seq
 (.seq
 (rg [0, 6] [
 mv 4 0,
 vo 5 (.len false 100 (.t 4)),
 vo 6 (.bin false .gtr 3 (.t 5) (ci 12))])
 (.cond (.t 6)
 (.seq
 (rg [2] [
 vo 2 (.asg (ci 2))])
 .ret)
 .skip))
 (.seq
 (.seq
 (rg [0, 3] [
 vo 3 (.asg (ci 0))])
 (.block 0
 l125_0))
 (.seq
 (rg [2] [
 vo 2 (.asg (ci 0))])
 .ret))))
 modes:=[.lend]
 rets:=[⟨2,none⟩]}

/-- loop.example/g00539/spec.l4Join -/
def v126 : VFun := {
 code:=
 (.seq
 (rg [0, 1] [
 vo 4 (.asg (ci 0))])
 (.seq
 (rg [4] [
 mv 5 0,
 mv 6 1,
 vo 7 (.lit 100 2 1 2 [(.val (.int .i64 0))] [(0,(.t 5)),(1,(.t 6))]),
 vo 8 (.call 113 [(.t 7)]),
 sg 4 8])
 .ret))
 modes:=[.lend,.lend]
 rets:=[⟨4,none⟩]}

/-- loop.example/g00539/spec.l4Mate -/
def v127 : VFun := {
 code:=
 (.seq
 (rg [0, 1] [
 vo 4 (.asg (ci 0))])
 (.seq
 (rg [0, 1, 5] [
 mv 6 1,
 vo 7 (.bin false .add 3 (.t 6) (ci 1)),
 sg 5 7])
 (.seq
 (.seq
 (rg [0, 1, 5, 10] [
 mv 8 1,
 vo 9 (.bin false .rem 3 (.t 8) (ci 2)),
 vo 10 (.bin false .eql 3 (.t 9) (ci 1))])
 (.cond (.t 10)
 (rg [0, 1, 5] [
 mv 11 1,
 vo 12 (.bin false .sub 3 (.t 11) (ci 1)),
 sg 5 12])
 .skip))
 (.seq
 (.seq
 (rg [0, 1, 5, 16] [
 mv 13 5,
 mv 14 0,
 vo 15 (.len false 100 (.t 14)),
 vo 16 (.bin false .geq 3 (.t 13) (.t 15))])
 (.cond (.t 16)
 (rg [0, 5] [
 mv 17 1,
 sg 5 17])
 .skip))
 (.seq
 (rg [4] [
 mv 18 0,
 mv 19 5,
 vo 20 (.ia 100 2 1 (.t 18) (.t 19)),
 ld 21 2 20,
 sg 4 21])
 .ret)))))
 modes:=[.lend,.lend]
 rets:=[⟨4,none⟩]}

def b128_0:VC:=
 (.seq
 (.seq
 (rg [0, 3, 4, 8] [
 mv 5 4,
 mv 6 0,
 vo 7 (.len false 148 (.t 6)),
 vo 8 (.bin false .lss 3 (.t 5) (.t 7))])
 (.cond (.t 8)
 .skip
 (.exit 0)))
 (.seq
 (.block 1
 (rg [0, 3, 4] [
 mv 11 3,
 vo 12 (.bin false .mul 2 (.t 11) (ci 33)),
 mv 13 0,
 mv 14 4,
 vo 15 (.ia 148 5 1 (.t 13) (.t 14)),
 ld 16 5 15,
 vo 17 (.conv 5 2 .i64 (.t 16)),
 vo 18 (.bin false .add 2 (.t 12) (.t 17)),
 vo 19 (.bin false .add 2 (.t 18) (ci 1)),
 vo 20 (.bin false .rem 2 (.t 19) (ci 2147483647)),
 sg 3 20]))
 (rg [0, 3, 4] [
 mv 9 4,
 vo 10 (.bin false .add 3 (.t 9) (ci 1)),
 sg 4 10])))
def l128_0:VC:=.loop b128_0
/-- loop.example/g00539/spec.l1Sum -/
def v128 : VFun := {
 code:=
 (.seq
 (rg [0] [
 vo 2 (.asg (ci 0))])
 (.seq
 (rg [0, 3] [
 vo 3 (.asg (ci 5381))])
 (.seq
 (.seq
 (rg [0, 3, 4] [
 vo 4 (.asg (ci 0))])
 (.block 0
 l128_0))
 (.seq
 (rg [2] [
 mv 21 3,
 sg 2 21])
 .ret))))
 modes:=[.lend]
 rets:=[⟨2,none⟩]}

def b129_1:VC:=
 (.seq
 (.seq
 (rg [0, 5, 7, 19, 49, 61, 64, 72, 79, 102] [
 mv 73 7,
 mv 74 0,
 vo 75 (.nilc (.t 74)),
 vo 76 (.fa 98 2 2 1 (.t 75)),
 ld 77 96 76,
 vo 78 (.len false 96 (.t 77)),
 vo 79 (.bin false .lss 3 (.t 73) (.t 78))])
 (.cond (.t 79)
 .skip
 (.exit 2)))
 (.seq
 (.block 3
 (.region true [0, 5, 7, 19, 49, 61, 64, 72, 102] [
 mv 82 5,
 ⟨some 83,.mov (.t 0),none,[0]⟩,
 ⟨some 84,.nilc (.t 83),none,[0]⟩,
 ⟨some 85,.fa 98 2 2 1 (.t 84),none,[0]⟩,
 ⟨some 86,.load 96 false 1 (.t 85),none,[0]⟩,
 ⟨some 87,.mov (.t 7),none,[0,1,2,3,4]⟩,
 ⟨some 88,.ia 96 102 2 (.t 86) (.t 87),none,[0]⟩,
 ⟨some 89,.fa 102 0 0 1 (.t 88),none,[0]⟩,
 ⟨some 90,.load 2 false 1 (.t 89),none,[0]⟩,
 ⟨some 91,.call 152 [(.t 90)],none,[0]⟩,
 vo 92 (.app 148 5 1 1 (.t 82) (.t 91)),
 ⟨some 93,.mov (.t 0),none,[0,1,2,3,4,5,6,7,8,9,10]⟩,
 ⟨some 94,.nilc (.t 93),none,[0,1,2,3,4,5,6,7,8,9,10]⟩,
 ⟨some 95,.fa 98 2 2 1 (.t 94),none,[0,1,2,3,4,5,6,7,8,9,10]⟩,
 ⟨some 96,.load 96 false 1 (.t 95),none,[0,1,2,3,4,5,6,7,8,9,10]⟩,
 ⟨some 97,.mov (.t 7),none,[0,1,2,3,4,5,6,7,8,9,10,11,12,13,14]⟩,
 ⟨some 98,.ia 96 102 2 (.t 96) (.t 97),none,[0,1,2,3,4,5,6,7,8,9,10]⟩,
 ⟨some 99,.fa 102 1 1 1 (.t 98),none,[0,1,2,3,4,5,6,7,8,9,10]⟩,
 ⟨some 100,.load 100 false 1 (.t 99),none,[0,1,2,3,4,5,6,7,8,9,10]⟩,
 vo 101 (.call 153 [(.t 100)]),
 vo 102 (.app 148 5 1 1 (.t 92) (.t 101)),
 sg 5 102]))
 (rg [0, 5, 7, 19, 49, 61, 64, 72, 102] [
 mv 80 7,
 vo 81 (.bin false .add 3 (.t 80) (ci 1)),
 sg 7 81])))
def l129_1:VC:=.loop b129_1
def b129_0:VC:=
 (.seq
 (.seq
 (rg [0, 1, 5, 6, 19, 26, 49, 61, 64, 72, 102] [
 mv 20 6,
 mv 21 0,
 vo 22 (.nilc (.t 21)),
 vo 23 (.fa 98 1 1 1 (.t 22)),
 ld 24 95 23,
 vo 25 (.len false 95 (.t 24)),
 vo 26 (.bin false .lss 3 (.t 20) (.t 25))])
 (.cond (.t 26)
 .skip
 (.exit 0)))
 (.seq
 (.block 1
 (.seq
 (.region true [0, 1, 5, 6, 19, 49, 61, 64, 72, 102] [
 mv 29 5,
 ⟨some 30,.mov (.t 0),none,[0]⟩,
 ⟨some 31,.nilc (.t 30),none,[0]⟩,
 ⟨some 32,.fa 98 1 1 1 (.t 31),none,[0]⟩,
 ⟨some 33,.load 95 false 1 (.t 32),none,[0]⟩,
 ⟨some 34,.mov (.t 6),none,[0,1,2,3,4]⟩,
 ⟨some 35,.ia 95 130 3 (.t 33) (.t 34),none,[0]⟩,
 ⟨some 36,.fa 130 0 0 1 (.t 35),none,[0]⟩,
 ⟨some 37,.load 2 false 1 (.t 36),none,[0]⟩,
 ⟨some 38,.call 152 [(.t 37)],none,[0]⟩,
 vo 39 (.app 148 5 1 1 (.t 29) (.t 38)),
 ⟨some 40,.mov (.t 0),none,[0,1,2,3,4,5,6,7,8,9,10]⟩,
 ⟨some 41,.nilc (.t 40),none,[0,1,2,3,4,5,6,7,8,9,10]⟩,
 ⟨some 42,.fa 98 1 1 1 (.t 41),none,[0,1,2,3,4,5,6,7,8,9,10]⟩,
 ⟨some 43,.load 95 false 1 (.t 42),none,[0,1,2,3,4,5,6,7,8,9,10]⟩,
 ⟨some 44,.mov (.t 6),none,[0,1,2,3,4,5,6,7,8,9,10,11,12,13,14]⟩,
 ⟨some 45,.ia 95 130 3 (.t 43) (.t 44),none,[0,1,2,3,4,5,6,7,8,9,10]⟩,
 ⟨some 46,.fa 130 1 1 1 (.t 45),none,[0,1,2,3,4,5,6,7,8,9,10]⟩,
 ⟨some 47,.load 2 false 1 (.t 46),none,[0,1,2,3,4,5,6,7,8,9,10]⟩,
 vo 48 (.call 151 [(.t 47)]),
 vo 49 (.app 148 5 1 1 (.t 39) (.t 48)),
 sg 5 49])
 (.seq
 (rg [0, 1, 5, 6, 19, 49, 50, 61, 64, 72, 102] [
 mv 50 1])
 (.cond (.t 50)
 (rg [0, 1, 5, 6, 19, 49, 61, 64, 72, 102] [
 mv 51 5,
 mv 52 0,
 vo 53 (.nilc (.t 52)),
 vo 54 (.fa 98 1 1 1 (.t 53)),
 ld 55 95 54,
 mv 56 6,
 vo 57 (.ia 95 130 3 (.t 55) (.t 56)),
 vo 58 (.fa 130 2 2 1 (.t 57)),
 ld 59 100 58,
 vo 60 (.call 153 [(.t 59)]),
 vo 61 (.app 148 5 1 1 (.t 51) (.t 60)),
 sg 5 61])
 (rg [0, 1, 5, 6, 19, 49, 61, 64, 72, 102] [
 mv 62 5,
 vo 63 (.lit 148 5 1 1 [(.val (.int .u8 0))] [(0,(.c (.int .u8 0)))]),
 vo 64 (.app 148 5 1 1 (.t 62) (.t 63)),
 sg 5 64])))))
 (rg [0, 1, 5, 6, 19, 49, 61, 64, 72, 102] [
 mv 27 6,
 vo 28 (.bin false .add 3 (.t 27) (ci 1)),
 sg 6 28])))
def l129_0:VC:=.loop b129_0
/-- loop.example/g00539/spec.l3Pack -/
def v129 : VFun := {
 code:=
 (.seq
 (rg [0, 1] [
 vo 4 (.asg (.n 1))])
 (.seq
 (.region true [0, 1, 5, 19, 49, 61, 64, 72, 102] [
 mv 8 0,
 vo 9 (.nilc (.t 8)),
 vo 10 (.fa 98 0 0 1 (.t 9)),
 ld 11 2 10,
 vo 12 (.call 151 [(.t 11)]),
 ⟨some 13,.mov (.t 0),none,[0,1,2,3,4]⟩,
 ⟨some 14,.nilc (.t 13),none,[0,1,2,3,4]⟩,
 ⟨some 15,.fa 98 1 1 1 (.t 14),none,[0,1,2,3,4]⟩,
 ⟨some 16,.load 95 false 1 (.t 15),none,[0,1,2,3,4]⟩,
 ⟨some 17,.len false 95 (.t 16),none,[0,1,2,3,4]⟩,
 vo 18 (.call 151 [(.t 17)]),
 vo 19 (.app 148 5 1 1 (.t 12) (.t 18)),
 sg 5 19])
 (.seq
 (.seq
 (rg [0, 1, 5, 6, 19, 49, 61, 64, 72, 102] [
 vo 6 (.asg (ci 0))])
 (.block 0
 l129_0))
 (.seq
 (rg [0, 5, 19, 49, 61, 64, 72, 102] [
 mv 65 5,
 mv 66 0,
 vo 67 (.nilc (.t 66)),
 vo 68 (.fa 98 2 2 1 (.t 67)),
 ld 69 96 68,
 vo 70 (.len false 96 (.t 69)),
 vo 71 (.call 151 [(.t 70)]),
 vo 72 (.app 148 5 1 1 (.t 65) (.t 71)),
 sg 5 72])
 (.seq
 (.seq
 (rg [0, 5, 7, 19, 49, 61, 64, 72, 102] [
 vo 7 (.asg (ci 0))])
 (.block 2
 l129_1))
 (.seq
 (rg [4, 5, 19, 49, 61, 64, 72, 102] [
 mv 103 5,
 sg 4 103])
 .ret))))))
 modes:=[.lend,.lend]
 rets:=[⟨4,none⟩]}

def b130_0:VC:=
 (.seq
 (.seq
 (rg [0, 3, 4, 7, 11] [
 mv 8 4,
 mv 9 0,
 vo 10 (.len false 120 (.t 9)),
 vo 11 (.bin false .lss 3 (.t 8) (.t 10))])
 (.cond (.t 11)
 .skip
 (.exit 0)))
 (.seq
 (.block 1
 (rg [0, 3, 4, 7] [
 mv 14 3,
 mv 15 4,
 mv 16 0,
 mv 17 4,
 vo 18 (.ia 120 161 3 (.t 16) (.t 17)),
 vo 19 (.load 161 true 3 (.t 18)),
 vo 20 (.call 154 [(.t 19)]),
 vo 21 (.ia 95 130 3 (.t 14) (.t 15)),
 vn (.store 130 3 (.t 21) (.t 20))]))
 (rg [0, 3, 4, 7] [
 mv 12 4,
 vo 13 (.bin false .add 3 (.t 12) (ci 1)),
 sg 4 13])))
def l130_0:VC:=.loop b130_0
/-- loop.example/g00539/laws.toInS -/
def v130 : VFun := {
 code:=
 (.seq
 (rg [0] [
 vo 2 (.asg (.n 3))])
 (.seq
 (rg [0, 3, 7] [
 mv 5 0,
 vo 6 (.len false 120 (.t 5)),
 vo 7 (.mk 95 130 3 40 [(.val (.int .i64 0)),(.val (.int .i64 0)),(.nl 1)] (.t 6) (.t 6)),
 sg 3 7])
 (.seq
 (.seq
 (rg [0, 3, 4, 7] [
 vo 4 (.asg (ci 0))])
 (.block 0
 l130_0))
 (.seq
 (rg [2, 3, 7] [
 mv 22 3,
 sg 2 22])
 .ret))))
 modes:=[.lend]
 rets:=[⟨2,none⟩]}

def b131_0:VC:=
 (.seq
 (.seq
 (rg [0, 3, 4, 7, 11] [
 mv 8 4,
 mv 9 0,
 vo 10 (.len false 121 (.t 9)),
 vo 11 (.bin false .lss 3 (.t 8) (.t 10))])
 (.cond (.t 11)
 .skip
 (.exit 0)))
 (.seq
 (.block 1
 (rg [0, 3, 4, 7] [
 mv 14 3,
 mv 15 4,
 mv 16 0,
 mv 17 4,
 vo 18 (.ia 121 163 2 (.t 16) (.t 17)),
 vo 19 (.load 163 true 2 (.t 18)),
 vo 20 (.call 155 [(.t 19)]),
 vo 21 (.ia 96 102 2 (.t 14) (.t 15)),
 vn (.store 102 2 (.t 21) (.t 20))]))
 (rg [0, 3, 4, 7] [
 mv 12 4,
 vo 13 (.bin false .add 3 (.t 12) (ci 1)),
 sg 4 13])))
def l131_0:VC:=.loop b131_0
/-- loop.example/g00539/laws.toOutS -/
def v131 : VFun := {
 code:=
 (.seq
 (rg [0] [
 vo 2 (.asg (.n 2))])
 (.seq
 (rg [0, 3, 7] [
 mv 5 0,
 vo 6 (.len false 121 (.t 5)),
 vo 7 (.mk 96 102 2 32 [(.val (.int .i64 0)),(.nl 1)] (.t 6) (.t 6)),
 sg 3 7])
 (.seq
 (.seq
 (rg [0, 3, 4, 7] [
 vo 4 (.asg (ci 0))])
 (.block 0
 l131_0))
 (.seq
 (rg [2, 3, 7] [
 mv 22 3,
 sg 2 22])
 .ret))))
 modes:=[.lend]
 rets:=[⟨2,none⟩]}

def b132_1:VC:=
 (.seq
 (rg [1, 2, 3, 30, 31, 32, 33] [
 vo 33 (.bin false .lss 3 (.t 32) (.t 31))])
 (.seq
 (.cond (.t 33)
 .skip
 (.exit 2))
 (.seq
 (.block 3
 (.seq
 (rg [1, 2, 3, 7, 30, 31, 32] [
 vo 34 (.ia 96 102 2 (.t 30) (.t 32)),
 vo 35 (.load 102 true 2 (.t 34)),
 vo 7 (.alloc 102 [(.val (.int .i64 0)),(.nl 1)]),
 vn (.store 102 2 (.t 7) (.t 35))])
 (.seq
 (rg [1, 2, 3, 7, 30, 31, 32] [
 vo 36 (.fa 102 1 1 1 (.t 7)),
 ld 37 100 36,
 vo 38 (.call 156 [(.t 37)]),
 vo 39 (.fa 102 1 1 1 (.t 7)),
 vn (.store 100 1 (.t 39) (.t 38))])
 (rg [1, 2, 3, 30, 31, 32] [
 vo 40 (.fa 98 2 2 1 (.t 3)),
 ld 41 96 40,
 vo 42 (.load 102 true 2 (.t 7)),
 vo 43 (.lit 96 102 2 1 [(.val (.int .i64 0)),(.nl 1)] [(0,(.t 42))]),
 vo 44 (.app 96 102 2 32 (.t 41) (.t 43)),
 vo 45 (.fa 98 2 2 1 (.t 3)),
 vn (.store 96 1 (.t 45) (.t 44))]))))
 (rg [1, 2, 3, 30, 31, 32] [
 vo 46 (.bin false .add 3 (.t 32) (ci 1)),
 mv 32 46]))))
def l132_1:VC:=.loop b132_1
def b132_0:VC:=
 (.seq
 (rg [1, 2, 3, 12, 13, 14, 15] [
 vo 15 (.bin false .lss 3 (.t 14) (.t 13))])
 (.seq
 (.cond (.t 15)
 .skip
 (.exit 0))
 (.seq
 (.block 1
 (.seq
 (rg [1, 2, 3, 5, 12, 13, 14] [
 vo 16 (.ia 95 130 3 (.t 12) (.t 14)),
 vo 17 (.load 130 true 3 (.t 16)),
 vo 5 (.alloc 130 [(.val (.int .i64 0)),(.val (.int .i64 0)),(.nl 1)]),
 vn (.store 130 3 (.t 5) (.t 17))])
 (.seq
 (rg [1, 2, 3, 5, 12, 13, 14] [
 vo 18 (.fa 130 2 2 1 (.t 5)),
 ld 19 100 18,
 vo 20 (.call 156 [(.t 19)]),
 vo 21 (.fa 130 2 2 1 (.t 5)),
 vn (.store 100 1 (.t 21) (.t 20))])
 (rg [1, 2, 3, 12, 13, 14] [
 vo 22 (.fa 98 1 1 1 (.t 3)),
 ld 23 95 22,
 vo 24 (.load 130 true 3 (.t 5)),
 vo 25 (.lit 95 130 3 1 [(.val (.int .i64 0)),(.val (.int .i64 0)),(.nl 1)] [(0,(.t 24))]),
 vo 26 (.app 95 130 3 40 (.t 23) (.t 25)),
 vo 27 (.fa 98 1 1 1 (.t 3)),
 vn (.store 95 1 (.t 27) (.t 26))]))))
 (rg [1, 2, 3, 12, 13, 14] [
 vo 28 (.bin false .add 3 (.t 14) (ci 1)),
 mv 14 28]))))
def l132_0:VC:=.loop b132_0
/-- loop.example/g00539/impl.cloneTx -/
def v132 : VFun := {
 code:=
 (.seq
 (rg [1, 2] [
 vo 1 (.box 98 (.t 0)),
 vo 2 (.alloc 98 [(.val (.int .i64 0)),(.nl 3),(.nl 2)])])
 (.seq
 (rg [1, 2, 3] [
 vo 8 (.fa 98 0 0 1 (.t 1)),
 ld 9 2 8,
 vo 10 (.build 98 [(.val (.int .i64 0)),(.nl 3),(.nl 2)] [(0,0,1,(.t 9))]),
 vo 3 (.alloc 98 [(.val (.int .i64 0)),(.nl 3),(.nl 2)]),
 vn (.store 98 3 (.t 3) (.t 10))])
 (.seq
 (.seq
 (rg [1, 2, 3, 12, 13, 14] [
 vo 11 (.fa 98 1 1 1 (.t 1)),
 ld 12 95 11,
 vo 13 (.len false 95 (.t 12)),
 vo 14 (.mov (ci 0))])
 (.block 0
 l132_0))
 (.seq
 (.seq
 (rg [1, 2, 3, 30, 31, 32] [
 vo 29 (.fa 98 2 2 1 (.t 1)),
 ld 30 96 29,
 vo 31 (.len false 96 (.t 30)),
 vo 32 (.mov (ci 0))])
 (.block 2
 l132_1))
 (.seq
 (rg [2] [
 vo 47 (.load 98 true 3 (.t 3)),
 vn (.store 98 3 (.t 2) (.t 47))])
 .ret)))))
 modes:=[.lend]
 rets:=[⟨2,some (true,3)⟩]}

/-- slices.ContainsFunc[[]int64,int64] -/
def v133 : VFun := {
 code:=
 (.seq
 (rg [0, 1] [
 vo 4 (.asg (.c (.bool false)))])
 (.seq
 (rg [4] [
 mv 5 0,
 mv 6 1,
 vo 7 (.call 157 [(.t 5),(.t 6)]),
 vo 8 (.bin false .geq 3 (.t 7) (ci 0)),
 sg 4 8])
 .ret))
 modes:=[.lend,.lend]
 rets:=[⟨4,none⟩]}

/-- loop.example/g00539/impl.badCell -/
def v134 : VFun := {
 code:=
 (.seq
 (rg [0] [
 vo 2 (.asg (.c (.bool false)))])
 (.seq
 (rg [2] [
 mv 3 0,
 vo 4 (.call 41 [(.t 3),(ci 0),(ci 9999)]),
 vo 5 (.un .not (.t 4)),
 sg 2 5])
 .ret))
 modes:=[.lend]
 rets:=[⟨2,none⟩]}

/-- slices.ContainsFunc[[]loop.example/g00539/impl.In,loop.example/g00539/impl.In] -/
def v135 : VFun := {
 code:=
 (.seq
 (rg [0, 1] [
 vo 4 (.asg (.c (.bool false)))])
 (.seq
 (rg [4] [
 mv 5 0,
 mv 6 1,
 vo 7 (.call 158 [(.t 5),(.t 6)]),
 vo 8 (.bin false .geq 3 (.t 7) (ci 0)),
 sg 4 8])
 .ret))
 modes:=[.lend,.lend]
 rets:=[⟨4,none⟩]}

/-- loop.example/g00539/impl.inFault$1 -/
def v136 : VFun := {
 code:=
 (.seq
 (rg [1, 2] [
 vo 2 (.box 130 (.t 0)),
 vo 3 (.asg (.c (.bool false)))])
 (.seq
 (rg [3] [
 vo 4 (.fa 130 0 0 1 (.t 1)),
 ld 5 2 4,
 vo 6 (.fa 130 0 0 1 (.t 2)),
 ld 7 2 6,
 vo 8 (.bin false .eql 2 (.t 5) (.t 7)),
 mv 9 8,
 og 10 (.fa 130 1 1 1 (.t 1)) 9 true,
 og 11 (.load 2 false 1 (.t 10)) 9 true,
 og 12 (.fa 130 1 1 1 (.t 2)) 9 true,
 og 13 (.load 2 false 1 (.t 12)) 9 true,
 og 14 (.bin false .eql 2 (.t 11) (.t 13)) 9 true,
 vo 15 (.pick (.t 9) (.t 14) (.c (.bool false))),
 sg 3 15])
 .ret))
 modes:=[.lend,.lend]
 rets:=[⟨3,none⟩]}

/-- loop.example/g00539/impl.ProgramFault$1 -/
def v137 : VFun := {
 code:=
 (.seq
 (rg [0] [
 vo 2 (.asg (.c (.bool false)))])
 (.seq
 (rg [2] [
 mv 3 0,
 vo 4 (.call 41 [(.t 3),(ci 1),(ci 9)]),
 vo 5 (.un .not (.t 4)),
 mv 6 5,
 og 7 (.mov (.t 0)) 6 true,
 og 8 (.call 41 [(.t 7),(ci 100),(ci 1099)]) 6 true,
 og 9 (.un .not (.t 8)) 6 true,
 vo 10 (.pick (.t 6) (.t 9) (.c (.bool false))),
 sg 2 10])
 .ret))
 modes:=[.lend]
 rets:=[⟨2,none⟩]}

/-- loop.example/g00539/impl.sumsFault -/
def v138 : VFun := {
 code:=
 (.seq
 (rg [0] [
 vo 2 (.asg (ci 0))])
 (.seq
 (.seq
 (rg [4] [
 mv 3 0,
 vo 4 (.call 133 [(.t 3),(.f 159)])])
 (.cond (.t 4)
 (.seq
 (rg [2] [
 vo 2 (.asg (ci 3))])
 .ret)
 .skip))
 (.seq
 (rg [2] [
 vo 2 (.asg (ci 0))])
 .ret)))
 modes:=[.lend]
 rets:=[⟨2,none⟩]}

/-- loop.example/g00539/impl.partner -/
def v139 : VFun := {
 code:=
 (.seq
 (rg [0, 1] [
 vo 4 (.asg (ci 0))])
 (.seq
 (.seq
 (rg [0, 1, 9] [
 mv 5 1,
 vo 6 (.bin false .xor 3 (.t 5) (ci 1)),
 mv 7 0,
 vo 8 (.len false 100 (.t 7)),
 vo 9 (.bin false .lss 3 (.t 6) (.t 8))])
 (.cond (.t 9)
 (.seq
 (rg [4] [
 mv 10 0,
 mv 11 1,
 vo 12 (.bin false .xor 3 (.t 11) (ci 1)),
 vo 13 (.ia 100 2 1 (.t 10) (.t 12)),
 ld 14 2 13,
 sg 4 14])
 .ret)
 .skip))
 (.seq
 (rg [4] [
 mv 15 0,
 mv 16 1,
 vo 17 (.ia 100 2 1 (.t 15) (.t 16)),
 ld 18 2 17,
 sg 4 18])
 .ret)))
 modes:=[.lend,.lend]
 rets:=[⟨4,none⟩]}

def b140_0:VC:=
 (.seq
 (rg [3, 6, 7, 8, 9] [
 vo 9 (.bin false .lss 3 (.t 8) (.t 7))])
 (.seq
 (.cond (.t 9)
 .skip
 (.exit 0))
 (.seq
 (.block 1
 (.seq
 (rg [3, 5, 6, 7, 8] [
 vo 10 (.ia 148 5 1 (.t 6) (.t 8)),
 ld 11 5 10,
 sg 5 11])
 (rg [3, 6, 7, 8] [
 mv 12 3,
 vo 13 (.bin false .mul 2 (ci 33) (.t 12)),
 mv 14 5,
 vo 15 (.conv 5 2 .i64 (.t 14)),
 vo 16 (.bin false .add 2 (.t 13) (.t 15)),
 vo 17 (.bin false .add 2 (.t 16) (ci 1)),
 vo 18 (.bin false .rem 2 (.t 17) (ci 2147483647)),
 sg 3 18])))
 (rg [3, 6, 7, 8] [
 vo 19 (.bin false .add 3 (.t 8) (ci 1)),
 mv 8 19]))))
def l140_0:VC:=.loop b140_0
/-- loop.example/g00539/impl.sumOf -/
def v140 : VFun := {
 code:=
 (.seq
 (rg [0] [
 vo 2 (.asg (ci 0))])
 (.seq
 (rg [0, 3] [
 vo 3 (.asg (ci 5381))])
 (.seq
 (.seq
 (rg [3, 6, 7, 8] [
 mv 6 0,
 vo 7 (.len false 148 (.t 6)),
 vo 8 (.mov (ci 0))])
 (.block 0
 l140_0))
 (.seq
 (rg [2] [
 mv 20 3,
 sg 2 20])
 .ret))))
 modes:=[.lend]
 rets:=[⟨2,none⟩]}

def b141_1:VC:=
 (.seq
 (rg [1, 3, 15, 34, 41, 43, 44, 45, 46, 57] [
 vo 46 (.bin false .lss 3 (.t 45) (.t 44))])
 (.seq
 (.cond (.t 46)
 .skip
 (.exit 2))
 (.seq
 (.block 3
 (.seq
 (rg [1, 3, 7, 15, 34, 41, 43, 44, 45, 57] [
 vo 47 (.ia 96 102 2 (.t 43) (.t 45)),
 vo 48 (.load 102 true 2 (.t 47)),
 vo 7 (.alloc 102 [(.val (.int .i64 0)),(.nl 1)]),
 vn (.store 102 2 (.t 7) (.t 48))])
 (.region true [1, 3, 15, 34, 41, 43, 44, 45, 57] [
 mv 49 3,
 ⟨some 50,.fa 102 0 0 1 (.t 7),none,[0]⟩,
 ⟨some 51,.load 2 false 1 (.t 50),none,[0]⟩,
 ⟨some 52,.call 162 [(.t 51)],none,[0]⟩,
 ⟨some 53,.fa 102 1 1 1 (.t 7),none,[0,1,2,3]⟩,
 ⟨some 54,.load 100 false 1 (.t 53),none,[0,1,2,3]⟩,
 ⟨some 55,.call 163 [(.t 54)],none,[0]⟩,
 vo 56 (.lit 172 148 1 3 [(.nl 1)] [(0,(.t 49)),(1,(.t 52)),(2,(.t 55))]),
 vo 57 (.call 161 [(.t 56)]),
 sg 3 57])))
 (rg [1, 3, 15, 34, 41, 43, 44, 45, 57] [
 vo 58 (.bin false .add 3 (.t 45) (ci 1)),
 mv 45 58]))))
def l141_1:VC:=.loop b141_1
def b141_0:VC:=
 (.seq
 (rg [1, 3, 15, 17, 18, 19, 20, 34, 41, 57] [
 vo 20 (.bin false .lss 3 (.t 19) (.t 18))])
 (.seq
 (.cond (.t 20)
 .skip
 (.exit 0))
 (.seq
 (.block 1
 (.seq
 (rg [1, 3, 5, 15, 17, 18, 19, 34, 41, 57] [
 vo 21 (.ia 95 130 3 (.t 17) (.t 19)),
 vo 22 (.load 130 true 3 (.t 21)),
 vo 5 (.alloc 130 [(.val (.int .i64 0)),(.val (.int .i64 0)),(.nl 1)]),
 vn (.store 130 3 (.t 5) (.t 22))])
 (.region true [1, 3, 15, 17, 18, 19, 34, 41, 57] [
 mv 23 3,
 ⟨some 24,.fa 130 0 0 1 (.t 5),none,[0]⟩,
 ⟨some 25,.load 2 false 1 (.t 24),none,[0]⟩,
 ⟨some 26,.call 162 [(.t 25)],none,[0]⟩,
 ⟨some 27,.fa 130 1 1 1 (.t 5),none,[0,1,2,3]⟩,
 ⟨some 28,.load 2 false 1 (.t 27),none,[0,1,2,3]⟩,
 ⟨some 29,.call 160 [(.t 28)],none,[0]⟩,
 ⟨some 30,.fa 130 2 2 1 (.t 5),none,[0,1,2,3,4,5,6]⟩,
 ⟨some 31,.load 100 false 1 (.t 30),none,[0,1,2,3,4,5,6]⟩,
 ⟨some 32,.call 163 [(.t 31)],none,[0]⟩,
 vo 33 (.lit 172 148 1 4 [(.nl 1)] [(0,(.t 23)),(1,(.t 26)),(2,(.t 29)),(3,(.t 32))]),
 vo 34 (.call 161 [(.t 33)]),
 sg 3 34])))
 (rg [1, 3, 15, 17, 18, 19, 34, 41, 57] [
 vo 35 (.bin false .add 3 (.t 19) (ci 1)),
 mv 19 35]))))
def l141_0:VC:=.loop b141_0
/-- loop.example/g00539/impl.packTx -/
def v141 : VFun := {
 code:=
 (.seq
 (rg [1] [
 vo 1 (.box 98 (.t 0)),
 vo 2 (.asg (.n 1))])
 (.seq
 (.region true [1, 3, 15, 34, 41, 57] [
 vo 8 (.fa 98 0 0 1 (.t 1)),
 ld 9 2 8,
 vo 10 (.call 160 [(.t 9)]),
 ⟨some 11,.fa 98 1 1 1 (.t 1),none,[0,1,2]⟩,
 ⟨some 12,.load 95 false 1 (.t 11),none,[0,1,2]⟩,
 ⟨some 13,.len false 95 (.t 12),none,[0,1,2]⟩,
 vo 14 (.call 160 [(.t 13)]),
 vo 15 (.app 148 5 1 1 (.t 10) (.t 14)),
 sg 3 15])
 (.seq
 (.seq
 (rg [1, 3, 15, 17, 18, 19, 34, 41, 57] [
 vo 16 (.fa 98 1 1 1 (.t 1)),
 ld 17 95 16,
 vo 18 (.len false 95 (.t 17)),
 vo 19 (.mov (ci 0))])
 (.block 0
 l141_0))
 (.seq
 (rg [1, 3, 15, 34, 41, 57] [
 mv 36 3,
 vo 37 (.fa 98 2 2 1 (.t 1)),
 ld 38 96 37,
 vo 39 (.len false 96 (.t 38)),
 vo 40 (.call 160 [(.t 39)]),
 vo 41 (.app 148 5 1 1 (.t 36) (.t 40)),
 sg 3 41])
 (.seq
 (.seq
 (rg [1, 3, 15, 34, 41, 43, 44, 45, 57] [
 vo 42 (.fa 98 2 2 1 (.t 1)),
 ld 43 96 42,
 vo 44 (.len false 96 (.t 43)),
 vo 45 (.mov (ci 0))])
 (.block 2
 l141_1))
 (.seq
 (rg [2, 3, 15, 34, 41, 57] [
 mv 59 3,
 sg 2 59])
 .ret))))))
 modes:=[.lend]
 rets:=[⟨2,none⟩]}

def b142_0:VC:=
 (.seq
 (.seq
 (rg [0, 1, 5, 14] [
 mv 11 5,
 mv 12 0,
 vo 13 (.len false 95 (.t 12)),
 vo 14 (.bin false .lss 3 (.t 11) (.t 13))])
 (.cond (.t 14)
 .skip
 (.exit 0)))
 (.seq
 (.block 1
 (.seq
 (.region true [0, 1, 5, 26] [
 mv 17 0,
 ⟨some 18,.mov (.t 5),none,[0]⟩,
 vo 19 (.ia 95 130 3 (.t 17) (.t 18)),
 vo 20 (.load 130 true 3 (.t 19)),
 ⟨some 21,.mov (.t 1),none,[0,1,2,3]⟩,
 ⟨some 22,.mov (.t 5),none,[0,1,2,3,4]⟩,
 ⟨some 23,.ia 95 130 3 (.t 21) (.t 22),none,[0,1,2,3]⟩,
 ⟨some 24,.load 130 true 3 (.t 23),none,[0,1,2,3]⟩,
 vo 25 (.call 164 [(.t 20),(.t 24)]),
 vo 26 (.un .not (.t 25))])
 (.cond (.t 26)
 (.seq
 (rg [4] [
 vo 4 (.asg (.c (.bool false)))])
 .ret)
 .skip)))
 (rg [0, 1, 5] [
 mv 15 5,
 vo 16 (.bin false .add 3 (.t 15) (ci 1)),
 sg 5 16])))
def l142_0:VC:=.loop b142_0
/-- loop.example/g00539/laws.eqInS -/
def v142 : VFun := {
 code:=
 (.seq
 (rg [0, 1] [
 vo 4 (.asg (.c (.bool false)))])
 (.seq
 (.seq
 (rg [0, 1, 10] [
 mv 6 0,
 vo 7 (.len false 95 (.t 6)),
 mv 8 1,
 vo 9 (.len false 95 (.t 8)),
 vo 10 (.bin false .neq 3 (.t 7) (.t 9))])
 (.cond (.t 10)
 (.seq
 (rg [4] [
 vo 4 (.asg (.c (.bool false)))])
 .ret)
 .skip))
 (.seq
 (.seq
 (rg [0, 1, 5] [
 vo 5 (.asg (ci 0))])
 (.block 0
 l142_0))
 (.seq
 (rg [4] [
 vo 4 (.asg (.c (.bool true)))])
 .ret))))
 modes:=[.lend,.lend]
 rets:=[⟨4,none⟩]}

def b143_0:VC:=
 (.seq
 (.seq
 (rg [0, 1, 5, 14] [
 mv 11 5,
 mv 12 0,
 vo 13 (.len false 96 (.t 12)),
 vo 14 (.bin false .lss 3 (.t 11) (.t 13))])
 (.cond (.t 14)
 .skip
 (.exit 0)))
 (.seq
 (.block 1
 (.seq
 (.region true [0, 1, 5, 26] [
 mv 17 0,
 ⟨some 18,.mov (.t 5),none,[0]⟩,
 vo 19 (.ia 96 102 2 (.t 17) (.t 18)),
 vo 20 (.load 102 true 2 (.t 19)),
 ⟨some 21,.mov (.t 1),none,[0,1,2,3]⟩,
 ⟨some 22,.mov (.t 5),none,[0,1,2,3,4]⟩,
 ⟨some 23,.ia 96 102 2 (.t 21) (.t 22),none,[0,1,2,3]⟩,
 ⟨some 24,.load 102 true 2 (.t 23),none,[0,1,2,3]⟩,
 vo 25 (.call 165 [(.t 20),(.t 24)]),
 vo 26 (.un .not (.t 25))])
 (.cond (.t 26)
 (.seq
 (rg [4] [
 vo 4 (.asg (.c (.bool false)))])
 .ret)
 .skip)))
 (rg [0, 1, 5] [
 mv 15 5,
 vo 16 (.bin false .add 3 (.t 15) (ci 1)),
 sg 5 16])))
def l143_0:VC:=.loop b143_0
/-- loop.example/g00539/laws.eqOutS -/
def v143 : VFun := {
 code:=
 (.seq
 (rg [0, 1] [
 vo 4 (.asg (.c (.bool false)))])
 (.seq
 (.seq
 (rg [0, 1, 10] [
 mv 6 0,
 vo 7 (.len false 96 (.t 6)),
 mv 8 1,
 vo 9 (.len false 96 (.t 8)),
 vo 10 (.bin false .neq 3 (.t 7) (.t 9))])
 (.cond (.t 10)
 (.seq
 (rg [4] [
 vo 4 (.asg (.c (.bool false)))])
 .ret)
 .skip))
 (.seq
 (.seq
 (rg [0, 1, 5] [
 vo 5 (.asg (ci 0))])
 (.block 0
 l143_0))
 (.seq
 (rg [4] [
 vo 4 (.asg (.c (.bool true)))])
 .ret))))
 modes:=[.lend,.lend]
 rets:=[⟨4,none⟩]}

def b144_0:VC:=
 (.seq
 (.seq
 (rg [0, 1, 5, 9] [
 mv 6 5,
 mv 7 0,
 vo 8 (.len false 100 (.t 7)),
 vo 9 (.bin false .lss 3 (.t 6) (.t 8))])
 (.cond (.t 9)
 .skip
 (.exit 0)))
 (.seq
 (.block 1
 (.seq
 (.seq
 (rg [0, 1, 5, 17] [
 mv 12 0,
 mv 13 5,
 vo 14 (.ia 100 2 1 (.t 12) (.t 13)),
 ld 15 2 14,
 mv 16 1,
 vo 17 (.bin false .neq 2 (.t 15) (.t 16))])
 (.cond (.t 17)
 (.seq
 (rg [4] [
 vo 4 (.asg (ci ((-1))))])
 .ret)
 .skip))
 (rg [0, 1, 5] [
 mv 18 1,
 vo 19 (.bin false .add 3 (.t 18) (ci 1)),
 sg 1 19])))
 (rg [0, 1, 5] [
 mv 10 5,
 vo 11 (.bin false .add 3 (.t 10) (ci 1)),
 sg 5 11])))
def l144_0:VC:=.loop b144_0
/-- loop.example/g00539/laws.heldInt64S -/
def v144 : VFun := {
 code:=
 (.seq
 (rg [0, 1] [
 vo 4 (.asg (ci 0))])
 (.seq
 (.seq
 (rg [0, 1, 5] [
 vo 5 (.asg (ci 0))])
 (.block 0
 l144_0))
 (.seq
 (rg [4] [
 mv 20 1,
 sg 4 20])
 .ret)))
 modes:=[.lend,.lend]
 rets:=[⟨4,none⟩]}

/-- loop.example/g00539/spec.l1Four -/
def v145 : VFun := {
 code:=
 (.seq
 (rg [0] [
 vo 2 (.asg (.n 1))])
 (.seq
 (rg [2, 14] [
 mv 3 0,
 vo 4 (.bin false .shr 2 (.t 3) (.c (.int .u64 24))),
 vo 5 (.conv 2 5 .u8 (.t 4)),
 mv 6 0,
 vo 7 (.bin false .shr 2 (.t 6) (.c (.int .u64 16))),
 vo 8 (.conv 2 5 .u8 (.t 7)),
 mv 9 0,
 vo 10 (.bin false .shr 2 (.t 9) (.c (.int .u64 8))),
 vo 11 (.conv 2 5 .u8 (.t 10)),
 mv 12 0,
 vo 13 (.conv 2 5 .u8 (.t 12)),
 vo 14 (.lit 148 5 1 4 [(.val (.int .u8 0))] [(0,(.t 5)),(1,(.t 8)),(2,(.t 11)),(3,(.t 13))]),
 sg 2 14])
 .ret))
 modes:=[.lend]
 rets:=[⟨2,none⟩]}

def b146_0:VC:=
 (.seq
 (.seq
 (rg [0, 5, 6, 8, 12] [
 mv 11 6,
 vo 12 (.bin false .geq 3 (.t 11) (ci 0))])
 (.cond (.t 12)
 .skip
 (.exit 0)))
 (.seq
 (.block 1
 (.seq
 (rg [0, 5, 6, 8] [
 mv 15 5,
 mv 16 6,
 mv 17 0,
 vo 18 (.conv 2 5 .u8 (.t 17)),
 vo 19 (.ia 148 5 1 (.t 15) (.t 16)),
 vn (.store 5 1 (.t 19) (.t 18))])
 (rg [0, 5, 6, 8] [
 mv 20 0,
 vo 21 (.bin false .shr 2 (.t 20) (.c (.int .u64 8))),
 sg 0 21])))
 (rg [0, 5, 6, 8] [
 mv 13 6,
 vo 14 (.bin false .sub 3 (.t 13) (ci 1)),
 sg 6 14])))
def l146_0:VC:=.loop b146_0
/-- loop.example/g00539/impl.high -/
def v146 : VFun := {
 code:=
 (.seq
 (rg [0, 1] [
 vo 4 (.asg (.n 1))])
 (.seq
 (rg [0, 1, 5, 8] [
 mv 7 1,
 vo 8 (.mk 148 5 1 1 [(.val (.int .u8 0))] (.t 7) (.t 7)),
 sg 5 8])
 (.seq
 (.seq
 (rg [0, 5, 6, 8] [
 mv 9 1,
 vo 10 (.bin false .sub 3 (.t 9) (ci 1)),
 sg 6 10])
 (.block 0
 l146_0))
 (.seq
 (rg [4, 5, 8] [
 mv 22 5,
 sg 4 22])
 .ret))))
 modes:=[.lend,.lend]
 rets:=[⟨4,none⟩]}

/-- loop.example/g00539/laws.szIn -/
def v147 : VFun := {
 code:=
 (.seq
 (rg [1, 2] [
 vo 2 (.box 161 (.t 0)),
 vo 4 (.asg (ci 0))])
 (.seq
 (rg [1] [
 vo 5 (.fa 161 2 2 1 (.t 2)),
 ld 6 100 5,
 mv 7 1,
 vo 8 (.call 166 [(.t 6),(.t 7)]),
 sg 1 8])
 (.seq
 (.seq
 (rg [1, 10] [
 mv 9 1,
 vo 10 (.bin false .lss 3 (.t 9) (ci 0))])
 (.cond (.t 10)
 (.seq
 (rg [4] [
 vo 4 (.asg (ci ((-1))))])
 .ret)
 .skip))
 (.seq
 (rg [4] [
 mv 11 1,
 sg 4 11])
 .ret))))
 modes:=[.lend,.lend]
 rets:=[⟨4,none⟩]}

/-- loop.example/g00539/laws.szOut -/
def v148 : VFun := {
 code:=
 (.seq
 (rg [1, 2] [
 vo 2 (.box 163 (.t 0)),
 vo 4 (.asg (ci 0))])
 (.seq
 (rg [1] [
 vo 5 (.fa 163 1 1 1 (.t 2)),
 ld 6 100 5,
 mv 7 1,
 vo 8 (.call 166 [(.t 6),(.t 7)]),
 sg 1 8])
 (.seq
 (.seq
 (rg [1, 10] [
 mv 9 1,
 vo 10 (.bin false .lss 3 (.t 9) (ci 0))])
 (.cond (.t 10)
 (.seq
 (rg [4] [
 vo 4 (.asg (ci ((-1))))])
 .ret)
 .skip))
 (.seq
 (rg [4] [
 mv 11 1,
 sg 4 11])
 .ret))))
 modes:=[.lend,.lend]
 rets:=[⟨4,none⟩]}

/-- loop.example/g00539/spec.l1Ints -/
def v149 : VFun := {
 code:=
 (.seq
 (rg [0] [
 vo 2 (.asg (.n 1))])
 (.seq
 (rg [2, 5] [
 vo 3 (.lit 100 2 1 0 [(.val (.int .i64 0))] []),
 mv 4 0,
 vo 5 (.app 100 2 1 8 (.t 3) (.t 4)),
 sg 2 5])
 .ret))
 modes:=[.lend]
 rets:=[⟨2,none⟩]}

/-- loop.example/g00539/spec.l2Op -/
def v150 : VFun := {
 code:=
 (.seq
 (rg [0] [
 vo 2 (.asg (.c (.bool false)))])
 (.seq
 (rg [2] [
 mv 3 0,
 vo 4 (.call 36 [(.t 3),(ci 1),(ci 9)]),
 mv 5 4,
 og 6 (.mov (.t 0)) 5 false,
 og 7 (.call 36 [(.t 6),(ci 100),(ci 1099)]) 5 false,
 vo 8 (.pick (.t 5) (.c (.bool true)) (.t 7)),
 sg 2 8])
 .ret))
 modes:=[.lend]
 rets:=[⟨2,none⟩]}

/-- loop.example/g00539/spec.l3Put -/
def v151 : VFun := {
 code:=
 (.seq
 (rg [0] [
 vo 2 (.asg (.n 1))])
 (.seq
 (.seq
 (rg [0, 4] [
 mv 3 0,
 vo 4 (.bin false .lss 2 (.t 3) (ci 253))])
 (.cond (.t 4)
 (.seq
 (rg [2, 7, 14] [
 mv 5 0,
 vo 6 (.conv 2 5 .u8 (.t 5)),
 vo 7 (.lit 148 5 1 1 [(.val (.int .u8 0))] [(0,(.t 6))]),
 sg 2 7])
 .ret)
 .skip))
 (.seq
 (rg [2, 7, 14] [
 mv 8 0,
 vo 9 (.bin false .rem 2 (.t 8) (ci 256)),
 vo 10 (.conv 2 5 .u8 (.t 9)),
 mv 11 0,
 vo 12 (.bin false .quo 2 (.t 11) (ci 256)),
 vo 13 (.conv 2 5 .u8 (.t 12)),
 vo 14 (.lit 148 5 1 3 [(.val (.int .u8 0))] [(0,(.c (.int .u8 253))),(1,(.t 10)),(2,(.t 13))]),
 sg 2 14])
 .ret)))
 modes:=[.lend]
 rets:=[⟨2,none⟩]}

/-- loop.example/g00539/spec.l3Big -/
def v152 : VFun := {
 code:=
 (.seq
 (rg [0] [
 vo 2 (.asg (.n 1))])
 (.seq
 (rg [2, 9] [
 mv 3 0,
 vo 4 (.bin false .rem 2 (.t 3) (ci 65536)),
 vo 5 (.call 151 [(.t 4)]),
 mv 6 0,
 vo 7 (.bin false .quo 2 (.t 6) (ci 65536)),
 vo 8 (.call 151 [(.t 7)]),
 vo 9 (.app 148 5 1 1 (.t 5) (.t 8)),
 sg 2 9])
 .ret))
 modes:=[.lend]
 rets:=[⟨2,none⟩]}

def b153_0:VC:=
 (.seq
 (.seq
 (rg [0, 3, 4, 7, 11, 20] [
 mv 8 4,
 mv 9 0,
 vo 10 (.len false 100 (.t 9)),
 vo 11 (.bin false .lss 3 (.t 8) (.t 10))])
 (.cond (.t 11)
 .skip
 (.exit 0)))
 (.seq
 (.block 1
 (rg [0, 3, 4, 7, 20] [
 mv 14 3,
 mv 15 0,
 mv 16 4,
 vo 17 (.ia 100 2 1 (.t 15) (.t 16)),
 ld 18 2 17,
 vo 19 (.call 151 [(.t 18)]),
 vo 20 (.app 148 5 1 1 (.t 14) (.t 19)),
 sg 3 20]))
 (rg [0, 3, 4, 7, 20] [
 mv 12 4,
 vo 13 (.bin false .add 3 (.t 12) (ci 1)),
 sg 4 13])))
def l153_0:VC:=.loop b153_0
/-- loop.example/g00539/spec.l3List -/
def v153 : VFun := {
 code:=
 (.seq
 (rg [0] [
 vo 2 (.asg (.n 1))])
 (.seq
 (rg [0, 3, 7, 20] [
 mv 5 0,
 vo 6 (.len false 100 (.t 5)),
 vo 7 (.call 151 [(.t 6)]),
 sg 3 7])
 (.seq
 (.seq
 (rg [0, 3, 4, 7, 20] [
 vo 4 (.asg (ci 0))])
 (.block 0
 l153_0))
 (.seq
 (rg [2, 3, 7, 20] [
 mv 21 3,
 sg 2 21])
 .ret))))
 modes:=[.lend]
 rets:=[⟨2,none⟩]}

/-- loop.example/g00539/laws.toIn -/
def v154 : VFun := {
 code:=
 (.seq
 (rg [1, 2] [
 vo 1 (.box 161 (.t 0)),
 vo 2 (.alloc 130 [(.val (.int .i64 0)),(.val (.int .i64 0)),(.nl 1)])])
 (.seq
 (rg [1, 2, 3] [
 vo 3 (.alloc 130 [(.val (.int .i64 0)),(.val (.int .i64 0)),(.nl 1)])])
 (.seq
 (rg [1, 2, 3] [
 vo 4 (.fa 161 0 0 1 (.t 1)),
 ld 5 2 4,
 vo 6 (.fa 130 0 0 1 (.t 3)),
 vn (.store 2 1 (.t 6) (.t 5))])
 (.seq
 (rg [1, 2, 3] [
 vo 7 (.fa 161 1 1 1 (.t 1)),
 ld 8 2 7,
 vo 9 (.fa 130 1 1 1 (.t 3)),
 vn (.store 2 1 (.t 9) (.t 8))])
 (.seq
 (rg [2, 3] [
 vo 10 (.fa 161 2 2 1 (.t 1)),
 ld 11 100 10,
 vo 12 (.call 167 [(.t 11)]),
 vo 13 (.fa 130 2 2 1 (.t 3)),
 vn (.store 100 1 (.t 13) (.t 12))])
 (.seq
 (rg [2] [
 vo 14 (.load 130 true 3 (.t 3)),
 vn (.store 130 3 (.t 2) (.t 14))])
 .ret))))))
 modes:=[.lend]
 rets:=[⟨2,some (true,3)⟩]}

/-- loop.example/g00539/laws.toOut -/
def v155 : VFun := {
 code:=
 (.seq
 (rg [1, 2] [
 vo 1 (.box 163 (.t 0)),
 vo 2 (.alloc 102 [(.val (.int .i64 0)),(.nl 1)])])
 (.seq
 (rg [1, 2, 3] [
 vo 3 (.alloc 102 [(.val (.int .i64 0)),(.nl 1)])])
 (.seq
 (rg [1, 2, 3] [
 vo 4 (.fa 163 0 0 1 (.t 1)),
 ld 5 2 4,
 vo 6 (.fa 102 0 0 1 (.t 3)),
 vn (.store 2 1 (.t 6) (.t 5))])
 (.seq
 (rg [2, 3] [
 vo 7 (.fa 163 1 1 1 (.t 1)),
 ld 8 100 7,
 vo 9 (.call 167 [(.t 8)]),
 vo 10 (.fa 102 1 1 1 (.t 3)),
 vn (.store 100 1 (.t 10) (.t 9))])
 (.seq
 (rg [2] [
 vo 11 (.load 102 true 2 (.t 3)),
 vn (.store 102 2 (.t 2) (.t 11))])
 .ret)))))
 modes:=[.lend]
 rets:=[⟨2,some (true,2)⟩]}

def b157_0:VC:=
 (.seq
 (rg [0, 1, 7, 8, 9] [
 vo 9 (.bin false .lss 3 (.t 8) (.t 7))])
 (.seq
 (.cond (.t 9)
 .skip
 (.exit 0))
 (.seq
 (.block 1
 (.seq
 (rg [0, 1, 5, 7, 8] [
 mv 10 8,
 sg 5 10])
 (.seq
 (rg [0, 1, 5, 7, 8, 16] [
 mv 11 1,
 mv 12 0,
 mv 13 5,
 vo 14 (.ia 100 2 1 (.t 12) (.t 13)),
 ld 15 2 14,
 vo 16 (.callv (.t 11) [(.t 15)])])
 (.cond (.t 16)
 (.seq
 (rg [4] [
 mv 17 5,
 sg 4 17])
 .ret)
 .skip))))
 (rg [0, 1, 7, 8] [
 vo 18 (.bin false .add 3 (.t 8) (ci 1)),
 mv 8 18]))))
def l157_0:VC:=.loop b157_0
/-- slices.IndexFunc[[]int64,int64] -/
def v157 : VFun := {
 code:=
 (.seq
 (rg [0, 1] [
 vo 4 (.asg (ci 0))])
 (.seq
 (.seq
 (rg [0, 1, 7, 8] [
 mv 6 0,
 vo 7 (.len false 100 (.t 6)),
 vo 8 (.mov (ci 0))])
 (.block 0
 l157_0))
 (.seq
 (rg [4] [
 vo 4 (.asg (ci ((-1))))])
 .ret)))
 modes:=[.lend,.lend]
 rets:=[⟨4,none⟩]}

def b158_0:VC:=
 (.seq
 (rg [0, 1, 7, 8, 9] [
 vo 9 (.bin false .lss 3 (.t 8) (.t 7))])
 (.seq
 (.cond (.t 9)
 .skip
 (.exit 0))
 (.seq
 (.block 1
 (.seq
 (rg [0, 1, 5, 7, 8] [
 mv 10 8,
 sg 5 10])
 (.seq
 (rg [0, 1, 5, 7, 8, 16] [
 mv 11 1,
 mv 12 0,
 mv 13 5,
 vo 14 (.ia 95 130 3 (.t 12) (.t 13)),
 vo 15 (.load 130 true 3 (.t 14)),
 vo 16 (.callv (.t 11) [(.t 15)])])
 (.cond (.t 16)
 (.seq
 (rg [4] [
 mv 17 5,
 sg 4 17])
 .ret)
 .skip))))
 (rg [0, 1, 7, 8] [
 vo 18 (.bin false .add 3 (.t 8) (ci 1)),
 mv 8 18]))))
def l158_0:VC:=.loop b158_0
/-- slices.IndexFunc[[]loop.example/g00539/impl.In,loop.example/g00539/impl.In] -/
def v158 : VFun := {
 code:=
 (.seq
 (rg [0, 1] [
 vo 4 (.asg (ci 0))])
 (.seq
 (.seq
 (rg [0, 1, 7, 8] [
 mv 6 0,
 vo 7 (.len false 95 (.t 6)),
 vo 8 (.mov (ci 0))])
 (.block 0
 l158_0))
 (.seq
 (rg [4] [
 vo 4 (.asg (ci ((-1))))])
 .ret)))
 modes:=[.lend,.lend]
 rets:=[⟨4,none⟩]}

/-- loop.example/g00539/impl.sumsFault$1 -/
def v159 : VFun := {
 code:=
 (.seq
 (rg [0] [
 vo 2 (.asg (.c (.bool false)))])
 (.seq
 (rg [2] [
 mv 3 0,
 vo 4 (.call 74 [(.t 3)]),
 vo 5 (.un .not (.t 4)),
 sg 2 5])
 .ret))
 modes:=[.lend]
 rets:=[⟨2,none⟩]}

/-- loop.example/g00539/impl.putVar -/
def v160 : VFun := {
 code:=
 (.seq
 (rg [0] [
 vo 2 (.asg (.n 1))])
 (.seq
 (.seq
 (rg [0, 4] [
 mv 3 0,
 vo 4 (.bin false .lss 2 (.t 3) (ci 253))])
 (.cond (.t 4)
 (.seq
 (rg [2, 7, 13] [
 mv 5 0,
 vo 6 (.conv 2 5 .u8 (.t 5)),
 vo 7 (.lit 148 5 1 1 [(.val (.int .u8 0))] [(0,(.t 6))]),
 sg 2 7])
 .ret)
 .skip))
 (.seq
 (rg [2, 7, 13] [
 mv 8 0,
 vo 9 (.conv 2 5 .u8 (.t 8)),
 mv 10 0,
 vo 11 (.bin false .shr 2 (.t 10) (.c (.int .u64 8))),
 vo 12 (.conv 2 5 .u8 (.t 11)),
 vo 13 (.lit 148 5 1 3 [(.val (.int .u8 0))] [(0,(.c (.int .u8 253))),(1,(.t 9)),(2,(.t 12))]),
 sg 2 13])
 .ret)))
 modes:=[.lend]
 rets:=[⟨2,none⟩]}

def b161_1:VC:=
 (.seq
 (rg [6, 24, 25, 26, 27, 28, 33] [
 vo 28 (.bin false .lss 3 (.t 27) (.t 26))])
 (.seq
 (.cond (.t 28)
 .skip
 (.exit 2))
 (.seq
 (.block 3
 (.seq
 (rg [6, 8, 24, 25, 26, 27, 33] [
 vo 29 (.ia 172 148 1 (.t 25) (.t 27)),
 ld 30 148 29,
 sg 8 30])
 (rg [6, 24, 25, 26, 27, 33] [
 mv 31 6,
 mv 32 8,
 vo 33 (.app 148 5 1 1 (.t 31) (.t 32)),
 sg 6 33])))
 (rg [6, 24, 25, 26, 27, 33] [
 vo 34 (.bin false .add 3 (.t 27) (ci 1)),
 mv 27 34]))))
def l161_1:VC:=.loop b161_1
def b161_0:VC:=
 (.seq
 (rg [0, 3, 9, 10, 11, 12] [
 vo 12 (.bin false .lss 3 (.t 11) (.t 10))])
 (.seq
 (.cond (.t 12)
 .skip
 (.exit 0))
 (.seq
 (.block 1
 (.seq
 (rg [0, 3, 5, 9, 10, 11] [
 vo 13 (.ia 172 148 1 (.t 9) (.t 11)),
 ld 14 148 13,
 sg 5 14])
 (.seq
 (rg [0, 3, 9, 10, 11] [
 mv 15 3,
 mv 16 5,
 vo 17 (.len false 148 (.t 16)),
 vo 18 (.bin false .add 3 (.t 15) (.t 17)),
 sg 3 18])
 (.seq
 (rg [0, 3, 9, 10, 11, 20] [
 mv 19 3,
 vo 20 (.bin false .lss 3 (.t 19) (ci 0))])
 (.cond (.t 20)
 .any
 .skip)))))
 (rg [0, 3, 9, 10, 11] [
 vo 22 (.bin false .add 3 (.t 11) (ci 1)),
 mv 11 22]))))
def l161_0:VC:=.loop b161_0
/-- slices.Concat[[]byte,byte] -/
def v161 : VFun := {
 code:=
 (.seq
 (rg [0] [
 vo 2 (.asg (.n 1))])
 (.seq
 (rg [0, 3] [
 vo 3 (.asg (ci 0))])
 (.seq
 (.seq
 (rg [0, 3, 9, 10, 11] [
 mv 9 0,
 vo 10 (.len false 172 (.t 9)),
 vo 11 (.mov (ci 0))])
 (.block 0
 l161_0))
 (.seq
 (rg [0, 6, 24, 33] [
 mv 23 3,
 vo 24 (.call 168 [(.n 1),(.t 23)]),
 sg 6 24])
 (.seq
 (.seq
 (rg [6, 24, 25, 26, 27, 33] [
 mv 25 0,
 vo 26 (.len false 172 (.t 25)),
 vo 27 (.mov (ci 0))])
 (.block 2
 l161_1))
 (.seq
 (rg [2, 6, 24, 33] [
 mv 35 6,
 sg 2 35])
 .ret))))))
 modes:=[.lend]
 rets:=[⟨2,none⟩]}

/-- loop.example/g00539/impl.halves -/
def v162 : VFun := {
 code:=
 (.seq
 (rg [0] [
 vo 2 (.asg (.n 1))])
 (.seq
 (rg [2, 9] [
 mv 3 0,
 vo 4 (.bin false .rem 2 (.t 3) (ci 65536)),
 vo 5 (.call 160 [(.t 4)]),
 mv 6 0,
 vo 7 (.bin false .quo 2 (.t 6) (ci 65536)),
 vo 8 (.call 160 [(.t 7)]),
 vo 9 (.app 148 5 1 1 (.t 5) (.t 8)),
 sg 2 9])
 .ret))
 modes:=[.lend]
 rets:=[⟨2,none⟩]}

def b163_0:VC:=
 (.seq
 (rg [3, 8, 9, 10, 11, 12, 18] [
 vo 12 (.bin false .lss 3 (.t 11) (.t 10))])
 (.seq
 (.cond (.t 12)
 .skip
 (.exit 0))
 (.seq
 (.block 1
 (.seq
 (rg [3, 5, 8, 9, 10, 11, 18] [
 vo 13 (.ia 100 2 1 (.t 9) (.t 11)),
 ld 14 2 13,
 sg 5 14])
 (rg [3, 8, 9, 10, 11, 18] [
 mv 15 3,
 mv 16 5,
 vo 17 (.call 160 [(.t 16)]),
 vo 18 (.app 148 5 1 1 (.t 15) (.t 17)),
 sg 3 18])))
 (rg [3, 8, 9, 10, 11, 18] [
 vo 19 (.bin false .add 3 (.t 11) (ci 1)),
 mv 11 19]))))
def l163_0:VC:=.loop b163_0
/-- loop.example/g00539/impl.numbers -/
def v163 : VFun := {
 code:=
 (.seq
 (rg [0] [
 vo 2 (.asg (.n 1))])
 (.seq
 (rg [0, 3, 8, 18] [
 mv 6 0,
 vo 7 (.len false 100 (.t 6)),
 vo 8 (.call 160 [(.t 7)]),
 sg 3 8])
 (.seq
 (.seq
 (rg [3, 8, 9, 10, 11, 18] [
 mv 9 0,
 vo 10 (.len false 100 (.t 9)),
 vo 11 (.mov (ci 0))])
 (.block 0
 l163_0))
 (.seq
 (rg [2, 3, 8, 18] [
 mv 20 3,
 sg 2 20])
 .ret))))
 modes:=[.lend]
 rets:=[⟨2,none⟩]}

/-- loop.example/g00539/laws.eqIn -/
def v164 : VFun := {
 code:=
 (.seq
 (rg [2, 3] [
 vo 2 (.box 130 (.t 0)),
 vo 3 (.box 130 (.t 1)),
 vo 4 (.asg (.c (.bool false)))])
 (.seq
 (.seq
 (rg [2, 3, 9] [
 vo 5 (.fa 130 0 0 1 (.t 2)),
 ld 6 2 5,
 vo 7 (.fa 130 0 0 1 (.t 3)),
 ld 8 2 7,
 vo 9 (.bin false .neq 2 (.t 6) (.t 8))])
 (.cond (.t 9)
 (.seq
 (rg [4] [
 vo 4 (.asg (.c (.bool false)))])
 .ret)
 .skip))
 (.seq
 (.seq
 (rg [2, 3, 14] [
 vo 10 (.fa 130 1 1 1 (.t 2)),
 ld 11 2 10,
 vo 12 (.fa 130 1 1 1 (.t 3)),
 ld 13 2 12,
 vo 14 (.bin false .neq 2 (.t 11) (.t 13))])
 (.cond (.t 14)
 (.seq
 (rg [4] [
 vo 4 (.asg (.c (.bool false)))])
 .ret)
 .skip))
 (.seq
 (.seq
 (rg [20] [
 vo 15 (.fa 130 2 2 1 (.t 2)),
 ld 16 100 15,
 vo 17 (.fa 130 2 2 1 (.t 3)),
 ld 18 100 17,
 vo 19 (.call 169 [(.t 16),(.t 18)]),
 vo 20 (.un .not (.t 19))])
 (.cond (.t 20)
 (.seq
 (rg [4] [
 vo 4 (.asg (.c (.bool false)))])
 .ret)
 .skip))
 (.seq
 (rg [4] [
 vo 4 (.asg (.c (.bool true)))])
 .ret)))))
 modes:=[.lend,.lend]
 rets:=[⟨4,none⟩]}

/-- loop.example/g00539/laws.eqOut -/
def v165 : VFun := {
 code:=
 (.seq
 (rg [2, 3] [
 vo 2 (.box 102 (.t 0)),
 vo 3 (.box 102 (.t 1)),
 vo 4 (.asg (.c (.bool false)))])
 (.seq
 (.seq
 (rg [2, 3, 9] [
 vo 5 (.fa 102 0 0 1 (.t 2)),
 ld 6 2 5,
 vo 7 (.fa 102 0 0 1 (.t 3)),
 ld 8 2 7,
 vo 9 (.bin false .neq 2 (.t 6) (.t 8))])
 (.cond (.t 9)
 (.seq
 (rg [4] [
 vo 4 (.asg (.c (.bool false)))])
 .ret)
 .skip))
 (.seq
 (.seq
 (rg [15] [
 vo 10 (.fa 102 1 1 1 (.t 2)),
 ld 11 100 10,
 vo 12 (.fa 102 1 1 1 (.t 3)),
 ld 13 100 12,
 vo 14 (.call 169 [(.t 11),(.t 13)]),
 vo 15 (.un .not (.t 14))])
 (.cond (.t 15)
 (.seq
 (rg [4] [
 vo 4 (.asg (.c (.bool false)))])
 .ret)
 .skip))
 (.seq
 (rg [4] [
 vo 4 (.asg (.c (.bool true)))])
 .ret))))
 modes:=[.lend,.lend]
 rets:=[⟨4,none⟩]}

/-- loop.example/g00539/laws.szInt64S -/
def v166 : VFun := {
 code:=
 (.seq
 (rg [0, 1] [
 vo 4 (.asg (ci 0))])
 (.seq
 (rg [1] [
 mv 5 1,
 mv 6 0,
 vo 7 (.len false 100 (.t 6)),
 vo 8 (.bin false .sub 3 (.t 5) (.t 7)),
 sg 1 8])
 (.seq
 (.seq
 (rg [1, 10] [
 mv 9 1,
 vo 10 (.bin false .lss 3 (.t 9) (ci 0))])
 (.cond (.t 10)
 (.seq
 (rg [4] [
 vo 4 (.asg (ci ((-1))))])
 .ret)
 .skip))
 (.seq
 (rg [4] [
 mv 11 1,
 sg 4 11])
 .ret))))
 modes:=[.lend,.lend]
 rets:=[⟨4,none⟩]}

def b167_0:VC:=
 (.seq
 (.seq
 (rg [0, 3, 4, 7, 11] [
 mv 8 4,
 mv 9 0,
 vo 10 (.len false 100 (.t 9)),
 vo 11 (.bin false .lss 3 (.t 8) (.t 10))])
 (.cond (.t 11)
 .skip
 (.exit 0)))
 (.seq
 (.block 1
 (rg [0, 3, 4, 7] [
 mv 14 3,
 mv 15 4,
 mv 16 0,
 mv 17 4,
 vo 18 (.ia 100 2 1 (.t 16) (.t 17)),
 ld 19 2 18,
 vo 20 (.ia 100 2 1 (.t 14) (.t 15)),
 vn (.store 2 1 (.t 20) (.t 19))]))
 (rg [0, 3, 4, 7] [
 mv 12 4,
 vo 13 (.bin false .add 3 (.t 12) (ci 1)),
 sg 4 13])))
def l167_0:VC:=.loop b167_0
/-- loop.example/g00539/laws.toInt64S -/
def v167 : VFun := {
 code:=
 (.seq
 (rg [0] [
 vo 2 (.asg (.n 1))])
 (.seq
 (rg [0, 3, 7] [
 mv 5 0,
 vo 6 (.len false 100 (.t 5)),
 vo 7 (.mk 100 2 1 8 [(.val (.int .i64 0))] (.t 6) (.t 6)),
 sg 3 7])
 (.seq
 (.seq
 (rg [0, 3, 4, 7] [
 vo 4 (.asg (ci 0))])
 (.block 0
 l167_0))
 (.seq
 (rg [2, 3, 7] [
 mv 21 3,
 sg 2 21])
 .ret))))
 modes:=[.lend]
 rets:=[⟨2,none⟩]}

/-- slices.Grow[[]byte,byte] -/
def v168 : VFun := {
 code:=
 (.seq
 (rg [0, 1, 25] [
 vo 4 (.asg (.n 1))])
 (.seq
 (.seq
 (rg [0, 1, 6, 25] [
 mv 5 1,
 vo 6 (.bin false .lss 3 (.t 5) (ci 0))])
 (.cond (.t 6)
 .any
 .skip))
 (.seq
 (.seq
 (rg [0, 1, 25] [
 mv 8 1,
 mv 9 0,
 vo 10 (.capn 148 (.t 9)),
 mv 11 0,
 vo 12 (.len false 148 (.t 11)),
 vo 13 (.bin false .sub 3 (.t 10) (.t 12)),
 vo 14 (.bin false .sub 3 (.t 8) (.t 13)),
 sg 1 14])
 (.seq
 (rg [0, 1, 16, 25] [
 mv 15 1,
 vo 16 (.bin false .gtr 3 (.t 15) (ci 0))])
 (.cond (.t 16)
 (rg [0, 25] [
 mv 17 0,
 mv 18 0,
 vo 19 (.capn 148 (.t 18)),
 vo 20 (.cut 148 (some 5) 1 (.t 17) none (some (.t 19))),
 mv 21 1,
 vo 22 (.appn 148 5 1 1 [(.val (.int .u8 0))] (.t 20) (.t 21)),
 mv 23 0,
 vo 24 (.len false 148 (.t 23)),
 vo 25 (.trunc 148 5 1 (.t 22) (.t 24)),
 sg 0 25])
 .skip)))
 (.seq
 (rg [0, 4, 25] [
 mv 26 0,
 sg 4 26])
 .ret))))
 modes:=[.nl,.lend]
 rets:=[⟨4,none⟩]}

def b169_0:VC:=
 (.seq
 (.seq
 (rg [0, 1, 5, 14] [
 mv 11 5,
 mv 12 0,
 vo 13 (.len false 100 (.t 12)),
 vo 14 (.bin false .lss 3 (.t 11) (.t 13))])
 (.cond (.t 14)
 .skip
 (.exit 0)))
 (.seq
 (.block 1
 (.seq
 (.region true [0, 1, 5, 25] [
 mv 17 0,
 ⟨some 18,.mov (.t 5),none,[0]⟩,
 vo 19 (.ia 100 2 1 (.t 17) (.t 18)),
 ld 20 2 19,
 ⟨some 21,.mov (.t 1),none,[0,1,2,3]⟩,
 ⟨some 22,.mov (.t 5),none,[0,1,2,3,4]⟩,
 ⟨some 23,.ia 100 2 1 (.t 21) (.t 22),none,[0,1,2,3]⟩,
 ⟨some 24,.load 2 false 1 (.t 23),none,[0,1,2,3]⟩,
 vo 25 (.bin false .neq 2 (.t 20) (.t 24))])
 (.cond (.t 25)
 (.seq
 (rg [4] [
 vo 4 (.asg (.c (.bool false)))])
 .ret)
 .skip)))
 (rg [0, 1, 5] [
 mv 15 5,
 vo 16 (.bin false .add 3 (.t 15) (ci 1)),
 sg 5 16])))
def l169_0:VC:=.loop b169_0
/-- loop.example/g00539/laws.eqInt64S -/
def v169 : VFun := {
 code:=
 (.seq
 (rg [0, 1] [
 vo 4 (.asg (.c (.bool false)))])
 (.seq
 (.seq
 (rg [0, 1, 10] [
 mv 6 0,
 vo 7 (.len false 100 (.t 6)),
 mv 8 1,
 vo 9 (.len false 100 (.t 8)),
 vo 10 (.bin false .neq 3 (.t 7) (.t 9))])
 (.cond (.t 10)
 (.seq
 (rg [4] [
 vo 4 (.asg (.c (.bool false)))])
 .ret)
 .skip))
 (.seq
 (.seq
 (rg [0, 1, 5] [
 vo 5 (.asg (ci 0))])
 (.block 0
 l169_0))
 (.seq
 (rg [4] [
 vo 4 (.asg (.c (.bool true)))])
 .ret))))
 modes:=[.lend,.lend]
 rets:=[⟨4,none⟩]}

def tab:List (Nat × VFun):=[(3,v3),(6,v6),(7,v7),(8,v8),(9,v9),(10,v10),(11,v11),(12,v12),(13,v13),(14,v14),(34,v34),(35,v35),(36,v36),(37,v37),(38,v38),(39,v39),(40,v40),(41,v41),(42,v42),(43,v43),(44,v44),(45,v45),(46,v46),(51,v51),(63,v63),(64,v64),(65,v65),(66,v66),(67,v67),(68,v68),(69,v69),(70,v70),(71,v71),(72,v72),(73,v73),(74,v74),(75,v75),(76,v76),(77,v77),(78,v78),(79,v79),(80,v80),(81,v81),(83,v83),(84,v84),(94,v94),(95,v95),(96,v96),(97,v97),(98,v98),(99,v99),(100,v100),(101,v101),(102,v102),(103,v103),(104,v104),(105,v105),(106,v106),(107,v107),(108,v108),(109,v109),(110,v110),(111,v111),(112,v112),(113,v113),(118,v118),(120,v120),(121,v121),(122,v122),(123,v123),(124,v124),(125,v125),(126,v126),(127,v127),(128,v128),(129,v129),(130,v130),(131,v131),(132,v132),(133,v133),(134,v134),(135,v135),(136,v136),(137,v137),(138,v138),(139,v139),(140,v140),(141,v141),(142,v142),(143,v143),(144,v144),(145,v145),(146,v146),(147,v147),(148,v148),(149,v149),(150,v150),(151,v151),(152,v152),(153,v153),(154,v154),(155,v155),(157,v157),(158,v158),(159,v159),(160,v160),(161,v161),(162,v162),(163,v163),(164,v164),(165,v165),(166,v166),(167,v167),(168,v168),(169,v169)]
def F (f:FuncId):Option VFun:=getA none (tab.map fun x=>(x.1,some x.2)) f
theorem tab_ok:tab.all (fun x=>matchFun Tryz.prog x.1 x.2)=true:=by kernel_rfl
theorem F_mem {f:FuncId} {fn:VFun}:∀ {l:List (Nat × VFun)},getA none (l.map fun x=>(x.1,some x.2)) f=some fn→(f,fn)∈l
  |[],h=>by simp[getA] at h
  |(k,v)::l,h=>by
    simp only[List.map_cons,getA] at h
    split at h
    · rename_i e
      injection h with h
      subst e; subst h
      exact List.mem_cons_self ..
    · exact List.mem_cons_of_mem _ (F_mem h)
theorem F_ok (f:FuncId) (fn:VFun) (h:F f=some fn):matchFun Tryz.prog f fn=true:=List.all_eq_true.1 tab_ok _ (F_mem h)
end Go.Proofs.YtmdocdnidilaiaaGreat.ShareBlock
