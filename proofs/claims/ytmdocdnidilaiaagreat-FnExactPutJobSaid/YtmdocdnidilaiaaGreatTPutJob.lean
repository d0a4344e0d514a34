/- V's text of the functions that this law reaches. -/
import Derived.Test.YtmdocdnidilaiaaGreatVCode
import Derived.Test.YtmdocdnidilaiaaGreatRows
import Derived.KernelRfl
namespace Go.Proofs.YtmdocdnidilaiaaGreat.PutJob
open Go Go.Proofs.YtmdocdnidilaiaaGreat.V
set_option maxRecDepth 20000
def vo (d:Nat) (x:VOp):VO:=⟨some d,x,none,[]⟩
def wo (l:List Nat) (d:Nat) (x:VOp):VO:=⟨some d,x,none,l⟩
def vn (x:VOp):VO:=⟨none,x,none,[]⟩
def mv (d x:Nat):VO:=vo d (.mov (.t x))
def ld (d t x:Nat):VO:=vo d (.load t false 1 (.t x))
def sg (d x:Nat):VO:=vo d (.asg (.t x))
def og (d:Nat) (x:VOp) (g:Nat) (b:Bool):VO:=⟨some d,x,some (g,b),[]⟩
def ci (x:Int):VX:=.c (.int .i64 x)
def rg (k:List Nat) (o:List VO):VC:=.region false k o
def cl (d f:Nat) (l:List Nat):VO:=vo d (.call f (l.map .t))
def tA (a:Nat):VO:=vo a (.asg (ci 0))
def tB (a b:Nat):VO:=vo a (.bin false .add 3 (.t b) (ci 1))
def tC (a:Nat):VO:=vo a (.asg (.c (.bool false)))
def tD (a b c:Nat):VO:=vo a (.bin false .lss 3 (.t b) (.t c))
def tE (a:List Nat) (b c:Nat):VO:=wo a b (.mov (.t c))
def tF (a b:Nat):VO:=vo a (.un .not (.t b))
def tG (a:Nat):VO:=vo a (.asg (ci ((-1))))
def tH (a b:Nat):VO:=vo a (.len false 100 (.t b))
def tI0 (a b:Nat):VO:=vo a (.bin false .lss 3 (.t b) (ci 0))
def tJ (a b:Nat):VO:=vo a (.nilc (.t b))
def tK (a b:Nat):VO:=vo a (.fa 98 1 1 1 (.t b))
def tL (a b:Nat):VO:=vo a (.fa 30 4 4 1 (.t b))
def tM (a b c:Nat):VO:=vo a (.bin false .neq 2 (.t b) (.t c))
def tN (a b:Nat):VO:=vo a (.fa 98 2 2 1 (.t b))
def tO (a:Nat):VO:=vo a (.mov (ci 0))
def tP (a b:Nat):VO:=vn (.store 2 1 (.t a) (.t b))
def tQ (a:Nat):VO:=vo a (.asg (.c (.bool true)))
def tR (a b:Nat):VO:=vo a (.fa 35 1 1 5 (.t b))
def tS0 (a:List Nat) (b c:Nat):VO:=wo a b (.load 2 false 1 (.t c))
def tT (a:Nat):VO:=vo a (.asg (.n 1))
def tU (a b c:Nat):VO:=vo a (.ia 44 35 6 (.t b) (.t c))
def tV (a b:Nat):VO:=vo a (.len false 95 (.t b))
def tW (a b c:Nat):VO:=vo a (.ia 100 2 1 (.t b) (.t c))
def tX (a b c:Nat):VO:=vo a (.app 148 5 1 1 (.t b) (.t c))
def tY (a b:Nat):VO:=vo a (.len false 96 (.t b))
def tZ (a b c:Nat):VO:=vo a (.ia 28 98 3 (.t b) (.t c))
def tAA (a b c:Nat):VO:=vo a (.ia 95 130 3 (.t b) (.t c))
def tAB (a b c:Nat):VO:=vo a (.pick (.t b) (.c (.bool true)) (.t c))
def tAC (a b:Nat):VO:=vo a (.len false 44 (.t b))
def tAD (a b:Nat):VO:=vo a (.len false 28 (.t b))
def tAE (a b:Nat):VO:=vo a (.bin false .neq 2 (.t b) (ci 0))
def tAF (a b:Nat):VO:=vo a (.load 98 true 3 (.t b))
def tAG (a:Nat):VO:=vo a (.asg (ci 3))
def tAH (a b c:Nat):VO:=vo a (.ia 96 102 2 (.t b) (.t c))
def tAI (a:Nat):VO:=vo a (.asg (ci 1))
def tAJ (a b:Nat):VO:=vo a (.fa 98 0 0 1 (.t b))
def tAK (a b:Nat):VO:=vo a (.fa 130 2 2 1 (.t b))
def tAL (a b:Nat):VO:=vn (.store 46 2 (.t a) (.t b))
def tAM (a:Nat):VO:=vo a (.asg (ci 2))
def tAN (a:Nat):VO:=vo a (.alloc 98 [(.val (.int .i64 0)),(.nl 3),(.nl 2)])
def tAO (a b:Nat):VO:=vn (.store 98 3 (.t a) (.t b))
def tAP (a b:Nat):VO:=vo a (.fa 130 0 0 1 (.t b))
def tAQ (a b:Nat):VO:=vo a (.conv 2 5 .u8 (.t b))
def tAR (a b c:Nat):VO:=vo a (.pick (.t b) (.t c) (.c (.bool false)))
def tAS (a b:Nat):VO:=vo a (.load 35 true 6 (.t b))
def tAT (a b:Nat):VO:=vo a (.fa 102 0 0 1 (.t b))
def tAU (a b:Nat):VO:=vo a (.fa 102 1 1 1 (.t b))
def tAV (a b:Nat):VO:=vo a (.load 130 true 3 (.t b))
def tAW (a b:Nat):VO:=vo a (.load 30 true 5 (.t b))
def tAX (a:List Nat) (b c:Nat):VO:=wo a b (.fa 98 1 1 1 (.t c))
def tAY (a:List Nat) (b c:Nat):VO:=wo a b (.load 95 false 1 (.t c))
def tAZ (a b:Nat):VO:=vo a (.box 98 (.t b))
def tBA (a b:Nat):VO:=vo a (.load 46 true 2 (.t b))
def tBB (a b c:Nat):VO:=vo a (.bin false .neq 3 (.t b) (.t c))
def tBC (a b:Nat):VO:=vo a (.fa 35 0 0 1 (.t b))
def tBD (a b c:Nat):VO:=vo a (.bin false .sub 3 (.t b) (.t c))
def tBE (a b:Nat):VO:=vo a (.fa 30 0 0 1 (.t b))
def tBF (a b:Nat):VO:=vo a (.box 30 (.t b))
def tBG (a b:Nat):VO:=vo a (.load 102 true 2 (.t b))
def tBH (a b:Nat):VO:=vo a (.box 35 (.t b))
def tBI (a:Nat):VO:=vo a (.alloc 102 [(.val (.int .i64 0)),(.nl 1)])
def tBJ (a b:Nat):VO:=vn (.store 102 2 (.t a) (.t b))
def tBK (a:Nat):VO:=vo a (.alloc 130 [(.val (.int .i64 0)),(.val (.int .i64 0)),(.nl 1)])
def tBL (a b:Nat):VO:=vn (.store 130 3 (.t a) (.t b))
def tBM (a b:Nat):VO:=vo a (.fa 130 1 1 1 (.t b))
def tBN (a:List Nat) (b c:Nat):VO:=wo a b (.nilc (.t c))
def tBO (a:List Nat) (b c d:Nat):VO:=wo a b (.ia 95 130 3 (.t c) (.t d))
def tBP (a:Nat):VO:=vo a (.alloc 35 [(.val (.int .i64 0)),(.val (.int .i64 0)),(.val (.int .i64 0)),(.val (.int .i64 0)),(.val (.int .i64 0)),(.nl 3)])
def tBQ (a b:Nat):VO:=vn (.store 35 6 (.t a) (.t b))
def tBR (a b:Nat):VO:=vo a (.bin false .gtr 3 (.t b) (ci 4))
def tBS (a b:Nat):VO:=vo a (.fa 30 1 1 1 (.t b))
def tBT (a b:Nat):VO:=vo a (.fa 30 2 2 1 (.t b))
def tBU (a b:Nat):VO:=vo a (.fa 30 3 3 1 (.t b))
def tBV (a:List Nat) (b c d:Nat):VO:=wo a b (.ia 100 2 1 (.t c) (.t d))
def tBW (a b c:Nat):VO:=vo a (.app 100 2 1 8 (.t b) (.t c))
def tBX (a:Nat):VO:=vo a (.lit 100 2 1 0 [(.val (.int .i64 0))] [])
def tBY (a:List Nat) (b c d:Nat):VO:=wo a b (.ia 96 102 2 (.t c) (.t d))
def tBZ (a:List Nat) (b c:Nat):VO:=wo a b (.load 100 false 1 (.t c))
def tCA (a b:Nat):VO:=vo a (.len false 148 (.t b))
def tCB (a b:Nat):VO:=vo a (.load 26 true 6 (.t b))
def tCC (a b:Nat):VO:=vn (.store 30 5 (.t a) (.t b))
def tCD (a b:Nat):VO:=vo a (.len false 42 (.t b))
def tCE (a b:Nat):VO:=vo a (.bin false .gtr 3 (.t b) (ci 0))
def tCF (a b c:Nat):VO:=vo a (.app 44 35 6 64 (.t b) (.t c))
def tCG (a b:Nat):VO:=vo a (.fa 46 1 1 1 (.t b))
def tCH (a b:Nat):VO:=og a (.mov (.t b)) 10 true
def tCI (a:Nat):VO:=vo a (.alloc 30 [(.val (.int .i64 0)),(.val (.int .i64 0)),(.val (.int .i64 0)),(.val (.int .i64 0)),(.nl 3)])
def tCJ (a b:Nat):VO:=vo a (.bin false .eql 3 (.t b) (ci 0))
def tCK (a b:Nat):VO:=vo a (.len false 22 (.t b))
def tCL (a b c:Nat):VO:=vo a (.bin false .eql 2 (.t b) (.t c))
def tCM (a b:Nat):VO:=vo a (.bin false .add 3 (.t b) (ci 2))
def tCN (a:List Nat) (b c:Nat):VO:=wo a b (.fa 130 0 0 1 (.t c))
def tCO (a b c:Nat):VO:=vo a (.bin false .add 2 (.t b) (.t c))
def tCP (a b:Nat):VO:=vn (.store 95 1 (.t a) (.t b))
def tCQ (a b:Nat):VO:=vo a (.len false 120 (.t b))
def tCR (a b:Nat):VO:=vo a (.len false 121 (.t b))
def tCS (a:List Nat) (b c:Nat):VO:=wo a b (.fa 98 2 2 1 (.t c))
def tCT (a:List Nat) (b c:Nat):VO:=wo a b (.load 96 false 1 (.t c))
def tCU (a b:Nat):VO:=vn (.store 100 1 (.t a) (.t b))
def tCV (a:Nat):VO:=vo a (.alloc 46 [(.val (.int .i64 0)),(.nl 6)])
def tCW (a b:Nat):VO:=vo a (.bin false .sub 3 (.t b) (ci 1))
def tCX (a b:Nat):VO:=vo a (.bin false .geq 3 (.t b) (ci 0))
def tCY (a b:Nat):VO:=vo a (.bin false .shr 2 (.t b) (.c (.int .u64 8)))
def tCZ (a:Nat):VO:=vo a (.build 46 [(.val (.int .i64 0)),(.nl 6)] [(0,0,1,(ci 6))])
def tDA (a:List Nat) (b:Nat):VO:=wo a b (.build 35 [(.val (.int .i64 0)),(.val (.int .i64 0)),(.val (.int .i64 0)),(.val (.int .i64 0)),(.val (.int .i64 0)),(.nl 3)] [(0,0,1,(.t 15)),(1,1,5,(.t 18))])
def tDB (a:List Nat) (b:Nat):VO:=wo a b (.lit 44 35 6 1 [(.val (.int .i64 0)),(.val (.int .i64 0)),(.val (.int .i64 0)),(.val (.int .i64 0)),(.val (.int .i64 0)),(.nl 3)] [(0,(.t 19))])
def tDC (a:Nat):VO:=vo a (.lit 44 35 6 0 [(.val (.int .i64 0)),(.val (.int .i64 0)),(.val (.int .i64 0)),(.val (.int .i64 0)),(.val (.int .i64 0)),(.nl 3)] [])
def tDD (a:Nat):VO:=vo a (.lit 28 98 3 0 [(.val (.int .i64 0)),(.nl 3),(.nl 2)] [])
def tDE (a:Nat):VO:=vo a (.lit 95 130 3 1 [(.val (.int .i64 0)),(.val (.int .i64 0)),(.nl 1)] [(0,(.t 24))])
def tDF (a:Nat):VO:=vo a (.lit 148 5 1 1 [(.val (.int .u8 0))] [(0,(.t 6))])
def tDG (a b c d e f:Nat):VO:=vo a (.fa b c d e (.t f))
def tDH (a b c:Nat):VO:=vo a (.box b (.t c))
def tDI (a:List Nat) (b c d e f g:Nat):VO:=wo a b (.fa c d e f (.t g))
def tDJ (a b c d e f:Nat):VO:=vo a (.ia b c d (.t e) (.t f))
def tDK (a b c d e f g:Nat):VO:=og a (.fa b c d e (.t f)) g false
def tDL (a b c d e:Nat):VO:=og a (.load b false c (.t d)) e false
def tDM (a:List Nat) (b c d e:Nat):VO:=wo a b (.load c true d (.t e))
def tDN (a b c:Nat):VO:=og a (.un .not (.t b)) c false
def tDO (a b c:Nat):VO:=og a (.mov (.t b)) c false
def tDP (a b:Nat):VO:=vo a (.call b [(.t 6),(.t 7)])
def tDQ (a b:Nat):VO:=vo a (.asg (.n b))
def tDR (a b c d:Nat):VO:=vo a (.load b true c (.t d))
def tDS (a b c d e f g:Nat):VO:=og a (.fa b c d e (.t f)) g true
def tDT (a b c d e:Nat):VO:=og a (.load b false c (.t d)) e true
def tDU (a b:Nat):VO:=vo a (.call b [(.t 16)])
def tDV (a b c:Nat):VO:=og a (.nilc (.t b)) c false
def tDW (a b c d:Nat):VO:=vn (.store a b (.t c) (.t d))
def tDX (a b c d e f g:Nat):VO:=vo a (.app b c d e (.t f) (.t g))
def tDY (a b:Nat):VO:=vo a (.call b [(.t 19)])
def tDZ (a b c:Nat):VO:=og a (.mov (.t b)) c true
def tEA (a b:Nat):VO:=vo a (.call b [(.t 7)])
def tEB (a b:Nat):VO:=vo a (.call b [(.t 8)])
def tEC (a b c d e:Nat):VO:=og a (.bin false .leq b (.t c) (.t d)) e true
def tED (a b:Nat):VO:=vo a (.call b [(.t 4)])
def tEE (a b:Nat):VO:=vo a (.call b [(.t 11),(.t 13)])
def tEF (a b:Nat):VO:=vo a (.call b [(.t 21),(.t 22)])
def tEG (a b:Nat):VO:=vo a (.call b [(.t 20),(.t 24)])
def tEH (a b c d:Nat):VO:=og a (.len false b (.t c)) d false

def v4 : VFun := {
 code:=
 (.seq
 (rg [0,3] [
 tDH 3 26 1,
 tC 4])
 (.seq
 (rg [0,3,5] [
 vo 5 (.asg (ci 1048576))])
 (.seq
 (rg [0,3,5] [
 mv 14 0,
 mv 15 5,
 cl 16 15 [14,15],
 sg 5 16])
 (.seq
 (.seq
 (rg [0,3,5,18] [
 mv 17 5,
 tI0 18 17])
 (.cond (.t 18)
 (.seq
 (rg [4] [
 tQ 4])
 .ret)
 .skip))
 (.seq
 (rg [0,3,5] [
 tCB 19 3,
 mv 20 5,
 cl 21 6 [19,20],
 sg 5 21])
 (.seq
 (.seq
 (rg [0,3,23] [
 mv 22 5,
 tI0 23 22])
 (.cond (.t 23)
 (.seq
 (rg [4] [
 tQ 4])
 .ret)
 .skip))
 (.seq
 (.region true [0,3,6] [
 mv 24 0,
 cl 25 17 [24],
 tDM [0,1] 26 26 6 3,
 cl 27 8 [26],
 cl 28 16 [25,27],
 wo [0,1,2,3,4] 6 (.alloc 46 [(.val (.int .i64 0)),(.nl 6)]),
 tAL 6 28])
 (.seq
 (rg [0,3,6,7,30] [
 mv 29 0,
 cl 30 17 [29],
 sg 7 30])
 (.seq
 (rg [0,3,6,7,8,30] [
 tCB 31 3,
 cl 32 8 [31],
 tBP 8,
 tBQ 8 32])
 (.seq
 (rg [0,3,6,7,8,9,30] [
 mv 33 7,
 tAS 34 8,
 cl 35 18 [33,34],
 tCV 9,
 tAL 9 35])
 (.seq
 (.seq
 (rg [0,3,6,7,8,9,30,39] [
 tBA 36 9,
 tBA 37 6,
 cl 38 19 [36,37],
 tF 39 38])
 (.cond (.t 39)
 (.seq
 (rg [4] [
 tC 4])
 .ret)
 .skip))
 (.seq
 (.seq
 (rg [0,3,6,7,8,9,30,44] [
 mv 40 7,
 mv 41 0,
 cl 42 17 [41],
 cl 43 20 [40,42],
 tF 44 43])
 (.cond (.t 44)
 (.seq
 (rg [4] [
 tC 4])
 .ret)
 .skip))
 (.seq
 (.seq
 (.region true [0,3,6,7,8,9,30,49] [
 tAS 45 8,
 tDM [0] 46 26 6 3,
 wo [0] 47 (.call 8 [(.t 46)]),
 cl 48 11 [45,47],
 tF 49 48])
 (.cond (.t 49)
 (.seq
 (rg [4] [
 tC 4])
 .ret)
 .skip))
 (.seq
 (rg [0,3,6,7,8,9,10,30] [
 tAI 10])
 (.seq
 (rg [0,3,6,8,9,10] [
 mv 50 7,
 mv 51 10,
 cl 52 21 [50,51],
 sg 10 52])
 (.seq
 (rg [0,3,6,9,10] [
 tAS 53 8,
 mv 54 10,
 cl 55 12 [53,54],
 sg 10 55])
 (.seq
 (.seq
 (rg [0,3,6,9,63] [
 mv 56 10,
 tI0 57 56,
 mv 58 57,
 og 59 (.load 46 true 2 (.t 9)) 58 false,
 og 60 (.load 46 true 2 (.t 6)) 58 false,
 og 61 (.call 19 [(.t 59),(.t 60)]) 58 false,
 tDN 62 61 58,
 tAB 63 58 62])
 (.cond (.t 63)
 (.seq
 (rg [4] [
 tC 4])
 .ret)
 .skip))
 (.seq
 (rg [0,3,6,9,11] [
 tAI 11])
 (.seq
 (rg [0,3,6,9,11] [
 tBA 64 9,
 mv 65 11,
 cl 66 22 [64,65],
 sg 11 66])
 (.seq
 (rg [0,3,6,9,11,12] [
 tAI 12])
 (.seq
 (rg [0,3,6,9,11,12] [
 tBA 67 9,
 mv 68 12,
 cl 69 23 [67,68],
 sg 12 69])
 (.seq
 (.seq
 (rg [0,3,6,9,11,12,71] [
 mv 70 12,
 tI0 71 70])
 (.cond (.t 71)
 (.seq
 (rg [4] [
 tC 4])
 .ret)
 .skip))
 (.seq
 (.seq
 (rg [0,3,6,9,11,74] [
 mv 72 12,
 mv 73 11,
 tBB 74 72 73])
 (.cond (.t 74)
 (.seq
 (rg [4] [
 tC 4])
 .ret)
 .skip))
 (.seq
 (.region true [6,9,11,13] [
 mv 75 0,
 cl 76 17 [75],
 tDM [0,1] 77 26 6 3,
 cl 78 8 [77],
 cl 79 18 [76,78],
 wo [0,1,2,3,4] 13 (.alloc 46 [(.val (.int .i64 0)),(.nl 6)]),
 tAL 13 79])
 (.seq
 (.seq
 (rg [9,11,83] [
 tBA 80 13,
 tBA 81 6,
 cl 82 19 [80,81],
 tF 83 82])
 (.cond (.t 83)
 (.seq
 (rg [4] [
 tC 4])
 .ret)
 .skip))
 (.seq
 (rg [9,11,12] [
 tAI 12])
 (.seq
 (rg [11,12] [
 tBA 84 9,
 mv 85 12,
 cl 86 23 [84,85],
 sg 12 86])
 (.seq
 (.seq
 (rg [11,12,88] [
 mv 87 12,
 tI0 88 87])
 (.cond (.t 88)
 (.seq
 (rg [4] [
 tC 4])
 .ret)
 .skip))
 (.seq
 (.seq
 (rg [91] [
 mv 89 12,
 mv 90 11,
 tBB 91 89 90])
 (.cond (.t 91)
 (.seq
 (rg [4] [
 tC 4])
 .ret)
 .skip))
 (.seq
 (rg [4] [
 tQ 4])
 .ret))))))))))))))))))))))))))))))
 modes:=[.lend,.lend]
 rets:=[⟨4,none⟩]}

def v6 : VFun := {
 code:=
 (.seq
 (rg [1,2] [
 tDH 2 26 0,
 tA 4])
 (.seq
 (rg [1] [
 tDG 5 26 1 1 5 2,
 tDR 6 24 5 5,
 mv 7 1,
 tDP 8 34,
 sg 1 8])
 (.seq
 (.seq
 (rg [1,10] [
 mv 9 1,
 tI0 10 9])
 (.cond (.t 10)
 (.seq
 (rg [4] [
 tG 4])
 .ret)
 .skip))
 (.seq
 (rg [4] [
 mv 11 1,
 sg 4 11])
 .ret))))
 modes:=[.lend,.lend]
 rets:=[⟨4,none⟩]}

def v8 : VFun := {
 code:=
 (.seq
 (rg [1,2] [
 tDH 1 26 0,
 tBP 2])
 (.seq
 (rg [1,2,3] [
 tBP 3])
 (.seq
 (rg [1,2,3] [
 tDG 4 26 0 0 1 1,
 ld 5 2 4,
 tBC 6 3,
 tP 6 5])
 (.seq
 (rg [2,3] [
 tDG 7 26 1 1 5 1,
 tDR 8 24 5 7,
 tEB 9 39,
 tR 10 3,
 tCC 10 9])
 (.seq
 (rg [2] [
 tAS 11 3,
 tBQ 2 11])
 .ret)))))
 modes:=[.lend]
 rets:=[⟨2,some (true,6)⟩]}

def v11 : VFun := {
 code:=
 (.seq
 (rg [2,3] [
 tBH 2 0,
 tBH 3 1,
 tC 4])
 (.seq
 (.seq
 (rg [2,3,9] [
 tBC 5 2,
 ld 6 2 5,
 tBC 7 3,
 ld 8 2 7,
 tM 9 6 8])
 (.cond (.t 9)
 (.seq
 (rg [4] [
 tC 4])
 .ret)
 .skip))
 (.seq
 (.seq
 (rg [15] [
 tR 10 2,
 tAW 11 10,
 tR 12 3,
 tAW 13 12,
 tEE 14 44,
 tF 15 14])
 (.cond (.t 15)
 (.seq
 (rg [4] [
 tC 4])
 .ret)
 .skip))
 (.seq
 (rg [4] [
 tQ 4])
 .ret))))
 modes:=[.lend,.lend]
 rets:=[⟨4,none⟩]}

def v12 : VFun := {
 code:=
 (.seq
 (rg [0,1,2] [
 tBH 2 0,
 tA 4])
 (.seq
 (rg [0,1,2] [
 tR 5 2,
 tAW 6 5,
 mv 7 1,
 tDP 8 45,
 sg 1 8])
 (.seq
 (rg [0,2,4] [
 mv 9 1,
 sg 4 9])
 .ret)))
 modes:=[.io,.lend]
 rets:=[⟨4,none⟩]}

def b15_0:VC:=
 (.seq
 (.seq
 (rg [0,1,5,15] [
 mv 12 5,
 mv 13 0,
 tCD 14 13,
 tD 15 12 14])
 (.cond (.t 15)
 .skip
 (.exit 0)))
 (.seq
 (.block 1
 (.seq
 (rg [0,1,5] [
 mv 18 0,
 mv 19 5,
 tDJ 20 42 26 6 18 19,
 tCB 21 20,
 mv 22 1,
 tEF 23 6,
 sg 1 23])
 (.seq
 (rg [0,1,5,25] [
 mv 24 1,
 tI0 25 24])
 (.cond (.t 25)
 (.seq
 (rg [4] [
 tG 4])
 .ret)
 .skip))))
 (rg [0,1,5] [
 mv 16 5,
 tB 17 16,
 sg 5 17])))
def l15_0:VC:=.loop b15_0
def v15 : VFun := {
 code:=
 (.seq
 (rg [0,1] [
 tA 4])
 (.seq
 (rg [0,1] [
 mv 6 1,
 mv 7 0,
 tCD 8 7,
 tBD 9 6 8,
 sg 1 9])
 (.seq
 (.seq
 (rg [0,1,11] [
 mv 10 1,
 tI0 11 10])
 (.cond (.t 11)
 (.seq
 (rg [4] [
 tG 4])
 .ret)
 .skip))
 (.seq
 (.seq
 (rg [0,1,5] [
 tA 5])
 (.block 0
 l15_0))
 (.seq
 (rg [4] [
 mv 26 1,
 sg 4 26])
 .ret)))))
 modes:=[.lend,.lend]
 rets:=[⟨4,none⟩]}

def v16 : VFun := {
 code:=
 (.seq
 (rg [0,3,4] [
 tBH 3 1,
 tCV 4])
 (.seq
 (.seq
 (rg [0,3,4,5] [
 mv 8 0,
 tEB 9 47,
 sg 5 9])
 (.seq
 (rg [0,3,4,5,11] [
 mv 10 5,
 tAE 11 10])
 (.cond (.t 11)
 (.seq
 (rg [4] [
 mv 12 5,
 vo 13 (.build 46 [(.val (.int .i64 0)),(.nl 6)] [(0,0,1,(.t 12))]),
 tAL 4 13])
 .ret)
 .skip)))
 (.seq
 (.seq
 (rg [0,3,4,6] [
 cl 14 35 [3],
 sg 6 14])
 (.seq
 (rg [0,3,4,6,16] [
 mv 15 6,
 tAE 16 15])
 (.cond (.t 16)
 (.seq
 (rg [4] [
 mv 17 6,
 vo 18 (.build 46 [(.val (.int .i64 0)),(.nl 6)] [(0,0,1,(.t 17))]),
 tAL 4 18])
 .ret)
 .skip)))
 (.seq
 (.seq
 (rg [0,3,4,7] [
 mv 19 0,
 tAC 20 19,
 sg 7 20])
 (.seq
 (.region true [0,3,4,33] [
 mv 21 7,
 tCE 22 21,
 mv 23 22,
 tDS 24 35 0 0 1 3 23,
 tDT 25 2 1 24 23,
 ⟨some 26,.mov (.t 0),some (23,true),[3,4]⟩,
 ⟨some 27,.mov (.t 7),some (23,true),[3,4,5]⟩,
 ⟨some 28,.bin false .sub 3 (.t 27) (ci 1),some (23,true),[3,4,5]⟩,
 ⟨some 29,.ia 44 35 6 (.t 26) (.t 28),some (23,true),[3,4]⟩,
 ⟨some 30,.fa 35 0 0 1 (.t 29),some (23,true),[3,4]⟩,
 ⟨some 31,.load 2 false 1 (.t 30),some (23,true),[3,4]⟩,
 tEC 32 2 25 31 23,
 tAR 33 23 32])
 (.cond (.t 33)
 (.seq
 (rg [4] [
 tCZ 34,
 tAL 4 34])
 .ret)
 .skip)))
 (.seq
 (rg [4] [
 mv 35 0,
 tAS 36 3,
 cl 37 48 [35,36],
 vo 38 (.build 46 [(.val (.int .i64 0)),(.nl 6)] [(1,1,1,(.t 37))]),
 tAL 4 38])
 .ret)))))
 modes:=[.lend,.lend]
 rets:=[⟨4,some (true,2)⟩]}

def b17_0:VC:=
 (.seq
 (.seq
 (rg [0,3,4,7,11] [
 mv 8 4,
 mv 9 0,
 tCD 10 9,
 tD 11 8 10])
 (.cond (.t 11)
 .skip
 (.exit 0)))
 (.seq
 (.block 1
 (rg [0,3,4,7] [
 mv 14 3,
 mv 15 4,
 mv 16 0,
 mv 17 4,
 tDJ 18 42 26 6 16 17,
 tCB 19 18,
 tDY 20 8,
 tU 21 14 15,
 tBQ 21 20]))
 (rg [0,3,4,7] [
 mv 12 4,
 tB 13 12,
 sg 4 13])))
def l17_0:VC:=.loop b17_0
def v17 : VFun := {
 code:=
 (.seq
 (rg [0] [
 tDQ 2 6])
 (.seq
 (rg [0,3,7] [
 mv 5 0,
 tCD 6 5,
 vo 7 (.mk 44 35 6 64 [(.val (.int .i64 0)),(.val (.int .i64 0)),(.val (.int .i64 0)),(.val (.int .i64 0)),(.val (.int .i64 0)),(.nl 3)] (.t 6) (.t 6)),
 sg 3 7])
 (.seq
 (.seq
 (rg [0,3,4,7] [
 tA 4])
 (.block 0
 l17_0))
 (.seq
 (rg [2,3,7] [
 mv 22 3,
 sg 2 22])
 .ret))))
 modes:=[.lend]
 rets:=[⟨2,none⟩]}

def v18 : VFun := {
 code:=
 (.seq
 (rg [0,3,4] [
 tBH 3 1,
 tCV 4])
 (.seq
 (.seq
 (rg [0,3,4,5] [
 mv 9 0,
 cl 10 40 [9],
 sg 5 10])
 (.seq
 (rg [0,3,4,5,12] [
 mv 11 5,
 tAE 12 11])
 (.cond (.t 12)
 (.seq
 (rg [4] [
 mv 13 5,
 vo 14 (.build 46 [(.val (.int .i64 0)),(.nl 6)] [(0,0,1,(.t 13))]),
 tAL 4 14])
 .ret)
 .skip)))
 (.seq
 (.seq
 (rg [0,3,4,6] [
 tAS 15 3,
 vo 16 (.lit 44 35 6 1 [(.val (.int .i64 0)),(.val (.int .i64 0)),(.val (.int .i64 0)),(.val (.int .i64 0)),(.val (.int .i64 0)),(.nl 3)] [(0,(.t 15))]),
 tDU 17 40,
 sg 6 17])
 (.seq
 (rg [0,3,4,6,19] [
 mv 18 6,
 tAE 19 18])
 (.cond (.t 19)
 (.seq
 (rg [4] [
 mv 20 6,
 vo 21 (.build 46 [(.val (.int .i64 0)),(.nl 6)] [(0,0,1,(.t 20))]),
 tAL 4 21])
 .ret)
 .skip)))
 (.seq
 (.seq
 (rg [0,3,4,7] [
 mv 22 0,
 tAC 23 22,
 sg 7 23])
 (.seq
 (.region true [0,3,4,36] [
 mv 24 7,
 tCE 25 24,
 mv 26 25,
 tDS 27 35 0 0 1 3 26,
 tDT 28 2 1 27 26,
 ⟨some 29,.mov (.t 0),some (26,true),[3,4]⟩,
 ⟨some 30,.mov (.t 7),some (26,true),[3,4,5]⟩,
 ⟨some 31,.bin false .sub 3 (.t 30) (ci 1),some (26,true),[3,4,5]⟩,
 ⟨some 32,.ia 44 35 6 (.t 29) (.t 31),some (26,true),[3,4]⟩,
 ⟨some 33,.fa 35 0 0 1 (.t 32),some (26,true),[3,4]⟩,
 ⟨some 34,.load 2 false 1 (.t 33),some (26,true),[3,4]⟩,
 tEC 35 2 28 34 26,
 tAR 36 26 35])
 (.cond (.t 36)
 (.seq
 (rg [4] [
 tCZ 37,
 tAL 4 37])
 .ret)
 .skip)))
 (.seq
 (.region true [4,8,43,48] [
 mv 38 0,
 cl 39 49 [38],
 tDM [0,1] 40 35 6 3,
 wo [0,1] 41 (.lit 44 35 6 1 [(.val (.int .i64 0)),(.val (.int .i64 0)),(.val (.int .i64 0)),(.val (.int .i64 0)),(.val (.int .i64 0)),(.nl 3)] [(0,(.t 40))]),
 cl 42 49 [41],
 tCF 43 39 42,
 sg 8 43])
 (.seq
 (.seq
 (rg [4,8,43,46,48] [
 mv 44 8,
 tAC 45 44,
 tBR 46 45])
 (.cond (.t 46)
 (rg [4,8,43,48] [
 mv 47 8,
 vo 48 (.call 50 [(.t 47),(ci 0),(ci 1)]),
 sg 8 48])
 .skip))
 (.seq
 (rg [4] [
 mv 49 8,
 vo 50 (.build 46 [(.val (.int .i64 0)),(.nl 6)] [(0,0,1,(ci 0)),(1,1,1,(.t 49))]),
 tAL 4 50])
 .ret)))))))
 modes:=[.lend,.lend]
 rets:=[⟨4,some (true,2)⟩]}

def v19 : VFun := {
 code:=
 (.seq
 (rg [2,3] [
 tDH 2 46 0,
 tDH 3 46 1,
 tC 4])
 (.seq
 (.seq
 (rg [2,3,9] [
 tDG 5 46 0 0 1 2,
 ld 6 2 5,
 tDG 7 46 0 0 1 3,
 ld 8 2 7,
 tM 9 6 8])
 (.cond (.t 9)
 (.seq
 (rg [4] [
 tC 4])
 .ret)
 .skip))
 (.seq
 (.seq
 (rg [15] [
 tCG 10 2,
 ld 11 44 10,
 tCG 12 3,
 ld 13 44 12,
 tEE 14 20,
 tF 15 14])
 (.cond (.t 15)
 (.seq
 (rg [4] [
 tC 4])
 .ret)
 .skip))
 (.seq
 (rg [4] [
 tQ 4])
 .ret))))
 modes:=[.lend,.lend]
 rets:=[⟨4,none⟩]}

def b20_0:VC:=
 (.seq
 (.seq
 (rg [0,1,5,14] [
 mv 11 5,
 mv 12 0,
 tAC 13 12,
 tD 14 11 13])
 (.cond (.t 14)
 .skip
 (.exit 0)))
 (.seq
 (.block 1
 (.seq
 (.region true [0,1,5,26] [
 mv 17 0,
 tE [0] 18 5,
 tU 19 17 18,
 tAS 20 19,
 tE [0,1,2,3] 21 1,
 tE [0,1,2,3,4] 22 5,
 wo [0,1,2,3] 23 (.ia 44 35 6 (.t 21) (.t 22)),
 tDM [0,1,2,3] 24 35 6 23,
 tEG 25 11,
 tF 26 25])
 (.cond (.t 26)
 (.seq
 (rg [4] [
 tC 4])
 .ret)
 .skip)))
 (rg [0,1,5] [
 mv 15 5,
 tB 16 15,
 sg 5 16])))
def l20_0:VC:=.loop b20_0
def v20 : VFun := {
 code:=
 (.seq
 (rg [0,1] [
 tC 4])
 (.seq
 (.seq
 (rg [0,1,10] [
 mv 6 0,
 tAC 7 6,
 mv 8 1,
 tAC 9 8,
 tBB 10 7 9])
 (.cond (.t 10)
 (.seq
 (rg [4] [
 tC 4])
 .ret)
 .skip))
 (.seq
 (.seq
 (rg [0,1,5] [
 tA 5])
 (.block 0
 l20_0))
 (.seq
 (rg [4] [
 tQ 4])
 .ret))))
 modes:=[.lend,.lend]
 rets:=[⟨4,none⟩]}

def b21_0:VC:=
 (.seq
 (.seq
 (rg [0,1,5,9] [
 mv 6 5,
 mv 7 0,
 tAC 8 7,
 tD 9 6 8])
 (.cond (.t 9)
 .skip
 (.exit 0)))
 (.seq
 (.block 1
 (.seq
 (rg [0,1,5] [
 mv 12 0,
 mv 13 5,
 mv 14 1,
 tU 15 12 13,
 tBC 16 15,
 tP 16 14])
 (.seq
 (rg [0,1,5] [
 mv 17 1,
 tB 18 17,
 sg 1 18])
 (.seq
 (rg [0,1,5] [
 mv 19 0,
 mv 20 5,
 mv 21 1,
 tU 22 19 20,
 tR 23 22,
 tBE 24 23,
 tP 24 21])
 (.seq
 (rg [0,1,5] [
 mv 25 1,
 tB 26 25,
 sg 1 26])
 (.seq
 (rg [0,1,5] [
 mv 27 0,
 mv 28 5,
 mv 29 1,
 tU 30 27 28,
 tR 31 30,
 tBS 32 31,
 tP 32 29])
 (.seq
 (rg [0,1,5] [
 mv 33 1,
 tB 34 33,
 sg 1 34])
 (.seq
 (rg [0,1,5] [
 mv 35 0,
 mv 36 5,
 mv 37 1,
 tU 38 35 36,
 tR 39 38,
 tBT 40 39,
 tP 40 37])
 (.seq
 (rg [0,1,5] [
 mv 41 1,
 tB 42 41,
 sg 1 42])
 (.seq
 (rg [0,1,5] [
 mv 43 0,
 mv 44 5,
 mv 45 1,
 tU 46 43 44,
 tR 47 46,
 tBU 48 47,
 tP 48 45])
 (.seq
 (rg [0,1,5] [
 mv 49 1,
 tB 50 49,
 sg 1 50])
 (rg [0,1,5] [
 mv 51 0,
 mv 52 5,
 tU 53 51 52,
 tR 54 53,
 tL 55 54,
 ld 56 28 55,
 mv 57 1,
 cl 58 51 [56,57],
 sg 1 58]))))))))))))
 (rg [0,1,5] [
 mv 10 5,
 tB 11 10,
 sg 5 11])))
def l21_0:VC:=.loop b21_0
def v21 : VFun := {
 code:=
 (.seq
 (rg [0,1] [
 tA 4])
 (.seq
 (.seq
 (rg [0,1,5] [
 tA 5])
 (.block 0
 l21_0))
 (.seq
 (rg [0,4] [
 mv 59 1,
 sg 4 59])
 .ret)))
 modes:=[.io,.lend]
 rets:=[⟨4,none⟩]}

def v22 : VFun := {
 code:=
 (.seq
 (rg [0,1,2] [
 tDH 2 46 0,
 tA 4])
 (.seq
 (rg [0,1,2] [
 tCG 5 2,
 ld 6 44 5,
 mv 7 1,
 tDP 8 21,
 sg 1 8])
 (.seq
 (rg [0,2,4] [
 mv 9 1,
 sg 4 9])
 .ret)))
 modes:=[.io,.lend]
 rets:=[⟨4,none⟩]}

def v23 : VFun := {
 code:=
 (.seq
 (rg [1,2] [
 tDH 2 46 0,
 tA 4])
 (.seq
 (rg [1] [
 tCG 5 2,
 ld 6 44 5,
 mv 7 1,
 tDP 8 52,
 sg 1 8])
 (.seq
 (.seq
 (rg [1,10] [
 mv 9 1,
 tI0 10 9])
 (.cond (.t 10)
 (.seq
 (rg [4] [
 tG 4])
 .ret)
 .skip))
 (.seq
 (rg [4] [
 mv 11 1,
 sg 4 11])
 .ret))))
 modes:=[.lend,.lend]
 rets:=[⟨4,none⟩]}

def v34 : VFun := {
 code:=
 (.seq
 (rg [1,2] [
 tDH 2 24 0,
 tA 4])
 (.seq
 (rg [1] [
 tDG 5 24 4 4 1 2,
 ld 6 22 5,
 mv 7 1,
 tDP 8 63,
 sg 1 8])
 (.seq
 (.seq
 (rg [1,10] [
 mv 9 1,
 tI0 10 9])
 (.cond (.t 10)
 (.seq
 (rg [4] [
 tG 4])
 .ret)
 .skip))
 (.seq
 (rg [4] [
 mv 11 1,
 sg 4 11])
 .ret))))
 modes:=[.lend,.lend]
 rets:=[⟨4,none⟩]}

def v35 : VFun := {
 code:=
 (.seq
 (rg [0] [
 tA 2])
 (.seq
 (.seq
 (rg [0,9] [
 mv 4 0,
 tJ 5 4,
 tBC 6 5,
 ld 7 2 6,
 vo 8 (.call 36 [(.t 7),(ci 0),(ci 9999)]),
 tF 9 8])
 (.cond (.t 9)
 (.seq
 (rg [2] [
 tAG 2])
 .ret)
 .skip))
 (.seq
 (.seq
 (rg [0,3] [
 mv 10 0,
 tJ 11 10,
 tR 12 11,
 cl 13 38 [12],
 sg 3 13])
 (.seq
 (rg [0,3,15] [
 mv 14 3,
 tAE 15 14])
 (.cond (.t 15)
 (.seq
 (rg [2] [
 mv 16 3,
 sg 2 16])
 .ret)
 .skip)))
 (.seq
 (.seq
 (rg [26] [
 mv 17 0,
 tJ 18 17,
 tR 19 18,
 tL 20 19,
 ld 21 28 20,
 vo 22 (.ia 28 98 3 (.t 21) (ci 0)),
 tN 23 22,
 ld 24 96 23,
 tY 25 24,
 vo 26 (.bin false .neq 3 (.t 25) (ci 2))])
 (.cond (.t 26)
 (.seq
 (rg [2] [
 tAI 2])
 .ret)
 .skip))
 (.seq
 (rg [2] [
 tA 2])
 .ret)))))
 modes:=[.lend]
 rets:=[⟨2,none⟩]}

def v36 : VFun := {
 code:=
 (.seq
 (rg [0,1,2] [
 tC 6])
 (.seq
 (rg [6] [
 mv 7 0,
 mv 8 1,
 vo 9 (.bin false .geq 2 (.t 7) (.t 8)),
 mv 10 9,
 tCH 11 0,
 tCH 12 2,
 tEC 13 2 11 12 10,
 tAR 14 10 13,
 sg 6 14])
 .ret))
 modes:=[.lend,.lend,.lend]
 rets:=[⟨6,none⟩]}

def b38_0:VC:=
 (.seq
 (.seq
 (rg [0,3,55] [
 mv 49 3,
 mv 50 0,
 tJ 51 50,
 tL 52 51,
 ld 53 28 52,
 tAD 54 53,
 tD 55 49 54])
 (.cond (.t 55)
 .skip
 (.exit 0)))
 (.seq
 (.block 1
 (.seq
 (rg [0,3,4] [
 mv 58 0,
 tJ 59 58,
 tL 60 59,
 ld 61 28 60,
 mv 62 3,
 tZ 63 61 62,
 cl 64 67 [63],
 sg 4 64])
 (.seq
 (rg [0,3,4,66] [
 mv 65 4,
 tAE 66 65])
 (.cond (.t 66)
 (.seq
 (rg [2] [
 mv 67 4,
 sg 2 67])
 .ret)
 .skip))))
 (rg [0,3] [
 mv 56 3,
 tB 57 56,
 sg 3 57])))
def l38_0:VC:=.loop b38_0
def v38 : VFun := {
 code:=
 (.seq
 (rg [0] [
 tA 2])
 (.seq
 (.seq
 (rg [0,34] [
 mv 5 0,
 tJ 6 5,
 tBE 7 6,
 ld 8 2 7,
 tEB 9 65,
 tF 10 9,
 mv 11 10,
 tDO 12 0 11,
 tDV 13 12 11,
 tDK 14 30 1 1 1 13 11,
 tDL 15 2 1 14 11,
 og 16 (.call 36 [(.t 15),(ci 1),(ci 99999)]) 11 false,
 tDN 17 16 11,
 tAB 18 11 17,
 mv 19 18,
 tDO 20 0 19,
 tDV 21 20 19,
 tDK 22 30 2 2 1 21 19,
 tDL 23 2 1 22 19,
 og 24 (.call 66 [(.t 23)]) 19 false,
 tDN 25 24 19,
 tAB 26 19 25,
 mv 27 26,
 tDO 28 0 27,
 tDV 29 28 27,
 tDK 30 30 3 3 1 29 27,
 tDL 31 2 1 30 27,
 og 32 (.call 36 [(.t 31),(ci 0),(ci 65535)]) 27 false,
 tDN 33 32 27,
 tAB 34 27 33])
 (.cond (.t 34)
 (.seq
 (rg [2] [
 tAG 2])
 .ret)
 .skip))
 (.seq
 (.seq
 (rg [0,48] [
 mv 35 0,
 tJ 36 35,
 tL 37 36,
 ld 38 28 37,
 tAD 39 38,
 vo 40 (.bin false .lss 3 (.t 39) (ci 1)),
 mv 41 40,
 tDO 42 0 41,
 tDV 43 42 41,
 tDK 44 30 4 4 1 43 41,
 tDL 45 28 1 44 41,
 tEH 46 28 45 41,
 og 47 (.bin false .gtr 3 (.t 46) (ci 4)) 41 false,
 tAB 48 41 47])
 (.cond (.t 48)
 (.seq
 (rg [2] [
 tAM 2])
 .ret)
 .skip))
 (.seq
 (.seq
 (rg [0,3] [
 tA 3])
 (.block 0
 l38_0))
 (.seq
 (.seq
 (rg [0,70] [
 mv 68 0,
 cl 69 68 [68],
 tF 70 69])
 (.cond (.t 70)
 (.seq
 (rg [2] [
 tAI 2])
 .ret)
 .skip))
 (.seq
 (.seq
 (rg [73] [
 mv 71 0,
 cl 72 70 [71],
 cl 73 69 [72]])
 (.cond (.t 73)
 (.seq
 (rg [2] [
 vo 2 (.asg (ci 6))])
 .ret)
 .skip))
 (.seq
 (rg [2] [
 tA 2])
 .ret)))))))
 modes:=[.lend]
 rets:=[⟨2,none⟩]}

def v39 : VFun := {
 code:=
 (.seq
 (rg [1,2] [
 tDH 1 24 0,
 tCI 2])
 (.seq
 (rg [1,2,3] [
 tCI 3])
 (.seq
 (rg [1,2,3] [
 tDG 4 24 0 0 1 1,
 ld 5 2 4,
 tBE 6 3,
 tP 6 5])
 (.seq
 (rg [1,2,3] [
 tDG 7 24 1 1 1 1,
 ld 8 2 7,
 tBS 9 3,
 tP 9 8])
 (.seq
 (rg [1,2,3] [
 tDG 10 24 2 2 1 1,
 ld 11 2 10,
 tBT 12 3,
 tP 12 11])
 (.seq
 (rg [1,2,3] [
 tDG 13 24 3 3 1 1,
 ld 14 2 13,
 tBU 15 3,
 tP 15 14])
 (.seq
 (rg [2,3] [
 tDG 16 24 4 4 1 1,
 ld 17 22 16,
 cl 18 71 [17],
 tL 19 3,
 tDW 28 1 19 18])
 (.seq
 (rg [2] [
 tAW 20 3,
 tCC 2 20])
 .ret))))))))
 modes:=[.lend]
 rets:=[⟨2,some (true,5)⟩]}

def b40_0:VC:=
 (.seq
 (rg [0,9,10,11,12] [
 tD 12 11 10])
 (.seq
 (.cond (.t 12)
 .skip
 (.exit 0))
 (.seq
 (.block 1
 (.seq
 (rg [0,3,4,9,10,11] [
 mv 13 11,
 tU 14 9 11,
 tAS 15 14,
 tBP 4,
 sg 3 13,
 tBQ 4 15])
 (.seq
 (.seq
 (rg [0,3,4,9,10,11,19] [
 tBC 16 4,
 ld 17 2 16,
 cl 18 72 [17],
 tF 19 18])
 (.cond (.t 19)
 (.seq
 (rg [2] [
 tAG 2])
 .ret)
 .skip))
 (.seq
 (.seq
 (rg [0,3,4,5,9,10,11] [
 tR 20 4,
 tAW 21 20,
 cl 22 43 [21],
 sg 5 22])
 (.seq
 (rg [0,3,4,5,9,10,11,24] [
 mv 23 5,
 tAE 24 23])
 (.cond (.t 24)
 (.seq
 (rg [2] [
 mv 25 5,
 sg 2 25])
 .ret)
 .skip)))
 (.seq
 (.region true [0,9,10,11,48] [
 tR 26 4,
 tL 27 26,
 ld 28 28 27,
 vo 29 (.ia 28 98 3 (.t 28) (ci 0)),
 tN 30 29,
 ld 31 96 30,
 tY 32 31,
 vo 33 (.bin false .neq 3 (.t 32) (ci 2)),
 mv 34 33,
 tDO 35 3 34,
 og 36 (.bin false .gtr 3 (.t 35) (ci 0)) 34 false,
 tDO 37 36 34,
 tDZ 38 0 37,
 ⟨some 39,.mov (.t 3),some (37,true),[12]⟩,
 ⟨some 40,.bin false .sub 3 (.t 39) (ci 1),some (37,true),[12]⟩,
 og 41 (.ia 44 35 6 (.t 38) (.t 40)) 37 true,
 tDS 42 35 0 0 1 41 37,
 tDT 43 2 1 42 37,
 ⟨some 44,.fa 35 0 0 1 (.t 4),some (37,true),[12,13,14,15,16,17]⟩,
 ⟨some 45,.load 2 false 1 (.t 44),some (37,true),[12,13,14,15,16,17]⟩,
 og 46 (.bin false .geq 2 (.t 43) (.t 45)) 37 true,
 og 47 (.pick (.t 37) (.t 46) (.c (.bool false))) 34 false,
 tAB 48 34 47])
 (.cond (.t 48)
 (.seq
 (rg [2] [
 tAI 2])
 .ret)
 .skip))))))
 (rg [0,9,10,11] [
 tB 49 11,
 mv 11 49]))))
def l40_0:VC:=.loop b40_0
def v40 : VFun := {
 code:=
 (.seq
 (rg [0] [
 tA 2])
 (.seq
 (.seq
 (rg [0,8] [
 mv 6 0,
 tAC 7 6,
 tBR 8 7])
 (.cond (.t 8)
 (.seq
 (rg [2] [
 tAM 2])
 .ret)
 .skip))
 (.seq
 (.seq
 (rg [0,9,10,11] [
 mv 9 0,
 tAC 10 9,
 tO 11])
 (.block 0
 l40_0))
 (.seq
 (rg [2] [
 tA 2])
 .ret))))
 modes:=[.lend]
 rets:=[⟨2,none⟩]}

def v41 : VFun := {
 code:=
 (.seq
 (rg [0,1,2] [
 tC 6])
 (.seq
 (rg [6] [
 mv 7 0,
 mv 8 1,
 vo 9 (.bin false .geq 2 (.t 7) (.t 8)),
 mv 10 9,
 tCH 11 0,
 tCH 12 2,
 tEC 13 2 11 12 10,
 tAR 14 10 13,
 sg 6 14])
 .ret))
 modes:=[.lend,.lend,.lend]
 rets:=[⟨6,none⟩]}

def b43_1:VC:=
 (.seq
 (rg [1,51,52,53,54] [
 tD 54 53 52])
 (.seq
 (.cond (.t 54)
 .skip
 (.exit 3))
 (.seq
 (.block 4
 (.seq
 (rg [1,6,7,51,52,53] [
 mv 55 53,
 tZ 56 51 53,
 tAF 57 56,
 tAN 7,
 sg 6 55,
 tAO 7 57])
 (.seq
 (rg [1,51,52,53,62] [
 tAF 58 7,
 cl 59 77 [58],
 mv 60 6,
 tCJ 61 60,
 vo 62 (.bin true .neq 4 (.t 59) (.t 61))])
 (.cond (.t 62)
 (.seq
 (rg [2] [
 tAI 2])
 .ret)
 .skip))))
 (rg [1,51,52,53] [
 tB 63 53,
 mv 53 63]))))
def l43_1:VC:=.loop b43_1
def b43_0:VC:=
 (.seq
 (rg [1,38,39,40,41] [
 tD 41 40 39])
 (.seq
 (.cond (.t 41)
 .skip
 (.exit 1))
 (.seq
 (.block 2
 (.seq
 (rg [1,4,38,39,40] [
 tZ 42 38 40,
 tAF 43 42,
 tAN 4,
 tAO 4 43])
 (.seq
 (rg [1,5,38,39,40] [
 tAF 44 4,
 cl 45 76 [44],
 sg 5 45])
 (.seq
 (rg [1,5,38,39,40,47] [
 mv 46 5,
 tAE 47 46])
 (.cond (.t 47)
 (.seq
 (rg [2] [
 mv 48 5,
 sg 2 48])
 .ret)
 .skip)))))
 (rg [1,38,39,40] [
 tB 49 40,
 mv 40 49]))))
def l43_0:VC:=.loop b43_0
def v43 : VFun := {
 code:=
 (.seq
 (rg [1] [
 tBF 1 0,
 tA 2])
 (.seq
 (.block 0
 (.seq
 (rg [1,8] [
 tBE 9 1,
 ld 10 2 9,
 cl 11 74 [10],
 tF 12 11,
 mv 13 12,
 tDK 14 30 1 1 1 1 13,
 tDL 15 2 1 14 13,
 og 16 (.call 41 [(.t 15),(ci 1),(ci 99999)]) 13 false,
 tDN 17 16 13,
 tAB 18 13 17,
 mv 19 18,
 tDK 20 30 2 2 1 1 19,
 tDL 21 2 1 20 19,
 og 22 (.call 75 [(.t 21)]) 19 false,
 tDN 23 22 19,
 tAB 24 19 23,
 mv 25 24,
 tDK 26 30 3 3 1 1 25,
 tDL 27 2 1 26 25,
 og 28 (.call 41 [(.t 27),(ci 0),(ci 65535)]) 25 false,
 tDN 29 28 25,
 tAB 30 25 29,
 sg 8 30])
 (.cond (.t 8)
 (.seq
 (rg [2] [
 tAG 2])
 .ret)
 (.seq
 (rg [1,31] [
 tL 32 1,
 ld 33 28 32,
 tAD 34 33,
 vo 35 (.call 41 [(.t 34),(ci 1),(ci 4)]),
 tF 36 35,
 sg 31 36])
 (.cond (.t 31)
 (.seq
 (rg [2] [
 tAM 2])
 .ret)
 .skip)))))
 (.seq
 (.seq
 (rg [1,38,39,40] [
 tL 37 1,
 ld 38 28 37,
 tAD 39 38,
 tO 40])
 (.block 1
 l43_0))
 (.seq
 (.seq
 (rg [1,51,52,53] [
 tL 50 1,
 ld 51 28 50,
 tAD 52 51,
 tO 53])
 (.block 3
 l43_1))
 (.seq
 (.seq
 (rg [66] [
 tAW 64 1,
 cl 65 79 [64],
 cl 66 78 [65]])
 (.cond (.t 66)
 (.seq
 (rg [2] [
 vo 2 (.asg (ci 6))])
 .ret)
 .skip))
 (.seq
 (rg [2] [
 tA 2])
 .ret))))))
 modes:=[.lend]
 rets:=[⟨2,none⟩]}

def v44 : VFun := {
 code:=
 (.seq
 (rg [2,3] [
 tBF 2 0,
 tBF 3 1,
 tC 4])
 (.seq
 (.seq
 (rg [2,3,9] [
 tBE 5 2,
 ld 6 2 5,
 tBE 7 3,
 ld 8 2 7,
 tM 9 6 8])
 (.cond (.t 9)
 (.seq
 (rg [4] [
 tC 4])
 .ret)
 .skip))
 (.seq
 (.seq
 (rg [2,3,14] [
 tBS 10 2,
 ld 11 2 10,
 tBS 12 3,
 ld 13 2 12,
 tM 14 11 13])
 (.cond (.t 14)
 (.seq
 (rg [4] [
 tC 4])
 .ret)
 .skip))
 (.seq
 (.seq
 (rg [2,3,19] [
 tBT 15 2,
 ld 16 2 15,
 tBT 17 3,
 ld 18 2 17,
 tM 19 16 18])
 (.cond (.t 19)
 (.seq
 (rg [4] [
 tC 4])
 .ret)
 .skip))
 (.seq
 (.seq
 (rg [2,3,24] [
 tBU 20 2,
 ld 21 2 20,
 tBU 22 3,
 ld 23 2 22,
 tM 24 21 23])
 (.cond (.t 24)
 (.seq
 (rg [4] [
 tC 4])
 .ret)
 .skip))
 (.seq
 (.seq
 (rg [30] [
 tL 25 2,
 ld 26 28 25,
 tL 27 3,
 ld 28 28 27,
 cl 29 80 [26,28],
 tF 30 29])
 (.cond (.t 30)
 (.seq
 (rg [4] [
 tC 4])
 .ret)
 .skip))
 (.seq
 (rg [4] [
 tQ 4])
 .ret)))))))
 modes:=[.lend,.lend]
 rets:=[⟨4,none⟩]}

def v45 : VFun := {
 code:=
 (.seq
 (rg [0,1,2] [
 tBF 2 0,
 tA 4])
 (.seq
 (rg [0,1,2] [
 tL 5 2,
 ld 6 28 5,
 mv 7 1,
 tDP 8 51,
 sg 1 8])
 (.seq
 (rg [0,2,4] [
 mv 9 1,
 sg 4 9])
 .ret)))
 modes:=[.io,.lend]
 rets:=[⟨4,none⟩]}

def b47_0:VC:=
 (.seq
 (.seq
 (rg [0,3,11] [
 mv 8 3,
 mv 9 0,
 tAC 10 9,
 tD 11 8 10])
 (.cond (.t 11)
 .skip
 (.exit 0)))
 (.seq
 (.block 1
 (.seq
 (.seq
 (rg [0,3,4] [
 mv 14 0,
 mv 15 3,
 tU 16 14 15,
 tDU 17 35,
 sg 4 17])
 (.seq
 (rg [0,3,4,19] [
 mv 18 4,
 tAE 19 18])
 (.cond (.t 19)
 (.seq
 (rg [2] [
 mv 20 4,
 sg 2 20])
 .ret)
 .skip)))
 (.seq
 (.region true [0,3,36] [
 mv 21 3,
 tCE 22 21,
 mv 23 22,
 tDZ 24 0 23,
 ⟨some 25,.mov (.t 3),some (23,true),[3]⟩,
 og 26 (.ia 44 35 6 (.t 24) (.t 25)) 23 true,
 tDS 27 35 0 0 1 26 23,
 tDT 28 2 1 27 23,
 ⟨some 29,.mov (.t 0),some (23,true),[3,4,5,6,7]⟩,
 ⟨some 30,.mov (.t 3),some (23,true),[3,4,5,6,7,8]⟩,
 ⟨some 31,.bin false .sub 3 (.t 30) (ci 1),some (23,true),[3,4,5,6,7,8]⟩,
 ⟨some 32,.ia 44 35 6 (.t 29) (.t 31),some (23,true),[3,4,5,6,7]⟩,
 ⟨some 33,.fa 35 0 0 1 (.t 32),some (23,true),[3,4,5,6,7]⟩,
 ⟨some 34,.load 2 false 1 (.t 33),some (23,true),[3,4,5,6,7]⟩,
 tEC 35 2 28 34 23,
 tAR 36 23 35])
 (.cond (.t 36)
 (.seq
 (rg [2] [
 tAI 2])
 .ret)
 .skip))))
 (rg [0,3] [
 mv 12 3,
 tB 13 12,
 sg 3 13])))
def l47_0:VC:=.loop b47_0
def v47 : VFun := {
 code:=
 (.seq
 (rg [0] [
 tA 2])
 (.seq
 (.seq
 (rg [0,7] [
 mv 5 0,
 tAC 6 5,
 tBR 7 6])
 (.cond (.t 7)
 (.seq
 (rg [2] [
 tAM 2])
 .ret)
 .skip))
 (.seq
 (.seq
 (rg [0,3] [
 tA 3])
 (.block 0
 l47_0))
 (.seq
 (rg [2] [
 tA 2])
 .ret))))
 modes:=[.lend]
 rets:=[⟨2,none⟩]}

def v48 : VFun := {
 code:=
 (.seq
 (rg [0,3] [
 tBH 3 1,
 tDQ 4 6])
 (.seq
 (rg [3,5,7] [
 mv 6 0,
 cl 7 82 [6],
 sg 5 7])
 (.seq
 (.seq
 (rg [3,5,7,10] [
 mv 8 5,
 tAC 9 8,
 vo 10 (.bin false .geq 3 (.t 9) (ci 4))])
 (.cond (.t 10)
 (rg [3,5,7] [
 mv 11 5,
 vo 12 (.cut 44 (some 35) 6 (.t 11) (some (ci 1)) none),
 sg 5 12])
 .skip))
 (.seq
 (.region true [4,21] [
 mv 13 5,
 tDI [0] 14 35 0 0 1 3,
 tS0 [0] 15 14,
 tDI [0,1,2] 16 35 1 1 5 3,
 tDM [0,1,2] 17 30 5 16,
 wo [0,1,2] 18 (.call 64 [(.t 17)]),
 tDA [0] 19,
 tDB [0] 20,
 tCF 21 13 20,
 sg 4 21])
 .ret))))
 modes:=[.lend,.lend]
 rets:=[⟨4,none⟩]}

def b49_0:VC:=
 (.seq
 (rg [3,6,7,8,9,10,21] [
 tD 10 9 8])
 (.seq
 (.cond (.t 10)
 .skip
 (.exit 0))
 (.seq
 (.block 1
 (.seq
 (rg [3,5,6,7,8,9,21] [
 tU 11 7 9,
 tAS 12 11,
 tBP 5,
 tBQ 5 12])
 (.region true [3,6,7,8,9,21] [
 mv 13 3,
 tDI [0] 14 35 0 0 1 5,
 tS0 [0] 15 14,
 tDI [0,1,2] 16 35 1 1 5 5,
 tDM [0,1,2] 17 30 5 16,
 wo [0,1,2] 18 (.call 73 [(.t 17)]),
 tDA [0] 19,
 tDB [0] 20,
 tCF 21 13 20,
 sg 3 21])))
 (rg [3,6,7,8,9,21] [
 tB 22 9,
 mv 9 22]))))
def l49_0:VC:=.loop b49_0
def v49 : VFun := {
 code:=
 (.seq
 (rg [0] [
 tDQ 2 6])
 (.seq
 (rg [0,3,6,21] [
 tDC 6,
 sg 3 6])
 (.seq
 (.seq
 (rg [3,6,7,8,9,21] [
 mv 7 0,
 tAC 8 7,
 tO 9])
 (.block 0
 l49_0))
 (.seq
 (rg [2,3,6,21] [
 mv 23 3,
 sg 2 23])
 .ret))))
 modes:=[.lend]
 rets:=[⟨2,none⟩]}

def v50 : VFun := {
 code:=
 .any
 modes:=[.eat,.lend,.lend]
 rets:=[⟨6,none⟩]}

def b51_0:VC:=
 (.seq
 (.seq
 (rg [0,1,5,9] [
 mv 6 5,
 mv 7 0,
 tAD 8 7,
 tD 9 6 8])
 (.cond (.t 9)
 .skip
 (.exit 0)))
 (.seq
 (.block 1
 (.seq
 (rg [0,1,5] [
 mv 12 0,
 mv 13 5,
 mv 14 1,
 tZ 15 12 13,
 tAJ 16 15,
 tP 16 14])
 (.seq
 (rg [0,1,5] [
 mv 17 1,
 tB 18 17,
 sg 1 18])
 (.seq
 (rg [0,1,5] [
 mv 19 0,
 mv 20 5,
 tZ 21 19 20,
 tK 22 21,
 ld 23 95 22,
 mv 24 1,
 cl 25 83 [23,24],
 sg 1 25])
 (rg [0,1,5] [
 mv 26 0,
 mv 27 5,
 tZ 28 26 27,
 tN 29 28,
 ld 30 96 29,
 mv 31 1,
 cl 32 84 [30,31],
 sg 1 32])))))
 (rg [0,1,5] [
 mv 10 5,
 tB 11 10,
 sg 5 11])))
def l51_0:VC:=.loop b51_0
def v51 : VFun := {
 code:=
 (.seq
 (rg [0,1] [
 tA 4])
 (.seq
 (.seq
 (rg [0,1,5] [
 tA 5])
 (.block 0
 l51_0))
 (.seq
 (rg [0,4] [
 mv 33 1,
 sg 4 33])
 .ret)))
 modes:=[.io,.lend]
 rets:=[⟨4,none⟩]}

def b52_0:VC:=
 (.seq
 (.seq
 (rg [0,1,5,9] [
 mv 6 5,
 mv 7 0,
 tAC 8 7,
 tD 9 6 8])
 (.cond (.t 9)
 .skip
 (.exit 0)))
 (.seq
 (.block 1
 (.seq
 (.seq
 (rg [0,1,5,18] [
 mv 12 0,
 mv 13 5,
 tU 14 12 13,
 tBC 15 14,
 ld 16 2 15,
 mv 17 1,
 tM 18 16 17])
 (.cond (.t 18)
 (.seq
 (rg [4] [
 tG 4])
 .ret)
 .skip))
 (.seq
 (rg [0,1,5] [
 mv 19 1,
 tB 20 19,
 sg 1 20])
 (.seq
 (.seq
 (rg [0,1,5,28] [
 mv 21 0,
 mv 22 5,
 tU 23 21 22,
 tR 24 23,
 tBE 25 24,
 ld 26 2 25,
 mv 27 1,
 tM 28 26 27])
 (.cond (.t 28)
 (.seq
 (rg [4] [
 tG 4])
 .ret)
 .skip))
 (.seq
 (rg [0,1,5] [
 mv 29 1,
 tB 30 29,
 sg 1 30])
 (.seq
 (.seq
 (rg [0,1,5,38] [
 mv 31 0,
 mv 32 5,
 tU 33 31 32,
 tR 34 33,
 tBS 35 34,
 ld 36 2 35,
 mv 37 1,
 tM 38 36 37])
 (.cond (.t 38)
 (.seq
 (rg [4] [
 tG 4])
 .ret)
 .skip))
 (.seq
 (rg [0,1,5] [
 mv 39 1,
 tB 40 39,
 sg 1 40])
 (.seq
 (.seq
 (rg [0,1,5,48] [
 mv 41 0,
 mv 42 5,
 tU 43 41 42,
 tR 44 43,
 tBT 45 44,
 ld 46 2 45,
 mv 47 1,
 tM 48 46 47])
 (.cond (.t 48)
 (.seq
 (rg [4] [
 tG 4])
 .ret)
 .skip))
 (.seq
 (rg [0,1,5] [
 mv 49 1,
 tB 50 49,
 sg 1 50])
 (.seq
 (.seq
 (rg [0,1,5,58] [
 mv 51 0,
 mv 52 5,
 tU 53 51 52,
 tR 54 53,
 tBU 55 54,
 ld 56 2 55,
 mv 57 1,
 tM 58 56 57])
 (.cond (.t 58)
 (.seq
 (rg [4] [
 tG 4])
 .ret)
 .skip))
 (.seq
 (rg [0,1,5] [
 mv 59 1,
 tB 60 59,
 sg 1 60])
 (.seq
 (rg [0,1,5] [
 mv 61 0,
 mv 62 5,
 tU 63 61 62,
 tR 64 63,
 tL 65 64,
 ld 66 28 65,
 mv 67 1,
 cl 68 81 [66,67],
 sg 1 68])
 (.seq
 (rg [0,1,5,70] [
 mv 69 1,
 tI0 70 69])
 (.cond (.t 70)
 (.seq
 (rg [4] [
 tG 4])
 .ret)
 .skip))))))))))))))
 (rg [0,1,5] [
 mv 10 5,
 tB 11 10,
 sg 5 11])))
def l52_0:VC:=.loop b52_0
def v52 : VFun := {
 code:=
 (.seq
 (rg [0,1] [
 tA 4])
 (.seq
 (.seq
 (rg [0,1,5] [
 tA 5])
 (.block 0
 l52_0))
 (.seq
 (rg [4] [
 mv 71 1,
 sg 4 71])
 .ret)))
 modes:=[.lend,.lend]
 rets:=[⟨4,none⟩]}

def b63_0:VC:=
 (.seq
 (.seq
 (rg [0,1,5,15] [
 mv 12 5,
 mv 13 0,
 tCK 14 13,
 tD 15 12 14])
 (.cond (.t 15)
 .skip
 (.exit 0)))
 (.seq
 (.block 1
 (.seq
 (rg [0,1,5] [
 mv 18 0,
 mv 19 5,
 tDJ 20 22 123 3 18 19,
 tDR 21 123 3 20,
 mv 22 1,
 tEF 23 94,
 sg 1 23])
 (.seq
 (rg [0,1,5,25] [
 mv 24 1,
 tI0 25 24])
 (.cond (.t 25)
 (.seq
 (rg [4] [
 tG 4])
 .ret)
 .skip))))
 (rg [0,1,5] [
 mv 16 5,
 tB 17 16,
 sg 5 17])))
def l63_0:VC:=.loop b63_0
def v63 : VFun := {
 code:=
 (.seq
 (rg [0,1] [
 tA 4])
 (.seq
 (rg [0,1] [
 mv 6 1,
 mv 7 0,
 tCK 8 7,
 tBD 9 6 8,
 sg 1 9])
 (.seq
 (.seq
 (rg [0,1,11] [
 mv 10 1,
 tI0 11 10])
 (.cond (.t 11)
 (.seq
 (rg [4] [
 tG 4])
 .ret)
 .skip))
 (.seq
 (.seq
 (rg [0,1,5] [
 tA 5])
 (.block 0
 l63_0))
 (.seq
 (rg [4] [
 mv 26 1,
 sg 4 26])
 .ret)))))
 modes:=[.lend,.lend]
 rets:=[⟨4,none⟩]}

def v64 : VFun := {
 code:=
 (.seq
 (rg [1,2] [
 tBF 1 0,
 tCI 2])
 (.seq
 (rg [1,2] [
 tL 3 1,
 ld 4 28 3,
 tED 5 95,
 tL 6 1,
 tDW 28 1 6 5])
 (.seq
 (rg [2] [
 tAW 7 1,
 tCC 2 7])
 .ret)))
 modes:=[.lend]
 rets:=[⟨2,some (true,5)⟩]}

def v65 : VFun := {
 code:=
 (.seq
 (rg [0] [
 tC 2])
 (.seq
 (rg [2] [
 mv 3 0,
 vo 4 (.call 36 [(.t 3),(ci 0),(ci 2147483646)]),
 sg 2 4])
 .ret))
 modes:=[.lend]
 rets:=[⟨2,none⟩]}

def v66 : VFun := {
 code:=
 (.seq
 (rg [0] [
 tC 2])
 (.seq
 (rg [2] [
 mv 3 0,
 vo 4 (.call 36 [(.t 3),(ci 1),(ci 1023)]),
 mv 5 4,
 tDZ 6 0 5,
 og 7 (.bin false .rem 2 (.t 6) (ci 256)) 5 true,
 og 8 (.bin false .gtr 2 (.t 7) (ci 0)) 5 true,
 tAR 9 5 8,
 sg 2 9])
 .ret))
 modes:=[.lend]
 rets:=[⟨2,none⟩]}

def b67_0:VC:=
 (.seq
 (.seq
 (rg [0,3,39] [
 mv 33 3,
 mv 34 0,
 tJ 35 34,
 tK 36 35,
 ld 37 95 36,
 tV 38 37,
 tD 39 33 38])
 (.cond (.t 39)
 .skip
 (.exit 0)))
 (.seq
 (.block 1
 (.seq
 (rg [0,3,4] [
 mv 42 0,
 tJ 43 42,
 tK 44 43,
 ld 45 95 44,
 mv 46 3,
 cl 47 96 [45,46],
 sg 4 47])
 (.seq
 (rg [0,3,4,49] [
 mv 48 4,
 tAE 49 48])
 (.cond (.t 49)
 (.seq
 (rg [2] [
 mv 50 4,
 sg 2 50])
 .ret)
 .skip))))
 (rg [0,3] [
 mv 40 3,
 tB 41 40,
 sg 3 41])))
def l67_0:VC:=.loop b67_0
def v67 : VFun := {
 code:=
 (.seq
 (rg [0] [
 tA 2])
 (.seq
 (.seq
 (rg [0,10] [
 mv 5 0,
 tJ 6 5,
 tAJ 7 6,
 ld 8 2 7,
 vo 9 (.call 36 [(.t 8),(ci 0),(ci 65535)]),
 tF 10 9])
 (.cond (.t 10)
 (.seq
 (rg [2] [
 tAG 2])
 .ret)
 .skip))
 (.seq
 (.seq
 (rg [0,32] [
 mv 11 0,
 tJ 12 11,
 tK 13 12,
 ld 14 95 13,
 tV 15 14,
 tBR 16 15,
 mv 17 16,
 tDO 18 0 17,
 tDV 19 18 17,
 tDK 20 98 2 2 1 19 17,
 tDL 21 96 1 20 17,
 tEH 22 96 21 17,
 og 23 (.bin false .lss 3 (.t 22) (ci 1)) 17 false,
 tAB 24 17 23,
 mv 25 24,
 tDO 26 0 25,
 tDV 27 26 25,
 tDK 28 98 2 2 1 27 25,
 tDL 29 96 1 28 25,
 tEH 30 96 29 25,
 og 31 (.bin false .gtr 3 (.t 30) (ci 4)) 25 false,
 tAB 32 25 31])
 (.cond (.t 32)
 (.seq
 (rg [2] [
 tAM 2])
 .ret)
 .skip))
 (.seq
 (.seq
 (rg [0,3] [
 tA 3])
 (.block 0
 l67_0))
 (.seq
 (rg [2] [
 mv 51 0,
 tJ 52 51,
 tN 53 52,
 ld 54 96 53,
 cl 55 97 [54],
 sg 2 55])
 .ret)))))
 modes:=[.lend]
 rets:=[⟨2,none⟩]}

def b68_0:VC:=
 (.seq
 (.seq
 (rg [0,3,10] [
 mv 4 3,
 mv 5 0,
 tJ 6 5,
 tL 7 6,
 ld 8 28 7,
 tAD 9 8,
 tD 10 4 9])
 (.cond (.t 10)
 .skip
 (.exit 0)))
 (.seq
 (.block 1
 (.seq
 (rg [0,3,25] [
 mv 13 0,
 tJ 14 13,
 tL 15 14,
 ld 16 28 15,
 mv 17 3,
 tZ 18 16 17,
 tK 19 18,
 ld 20 95 19,
 tV 21 20,
 tCJ 22 21,
 mv 23 3,
 tCJ 24 23,
 vo 25 (.bin true .neq 4 (.t 22) (.t 24))])
 (.cond (.t 25)
 (.seq
 (rg [2] [
 tC 2])
 .ret)
 .skip)))
 (rg [0,3] [
 mv 11 3,
 tB 12 11,
 sg 3 12])))
def l68_0:VC:=.loop b68_0
def v68 : VFun := {
 code:=
 (.seq
 (rg [0] [
 tC 2])
 (.seq
 (.seq
 (rg [0,3] [
 tA 3])
 (.block 0
 l68_0))
 (.seq
 (rg [2] [
 tQ 2])
 .ret)))
 modes:=[.lend]
 rets:=[⟨2,none⟩]}

def b69_1:VC:=
 (.seq
 (.seq
 (rg [0,3,4,13,27] [
 mv 9 4,
 tB 10 9,
 mv 11 3,
 tH 12 11,
 tD 13 10 12])
 (.cond (.t 13)
 .skip
 (.exit 2)))
 (.seq
 (.block 3
 (.seq
 (.region true [0,3,4,25,27] [
 mv 16 3,
 tE [0] 17 4,
 tW 18 16 17,
 ld 19 2 18,
 tE [0,1,2,3] 20 3,
 tE [0,1,2,3,4] 21 4,
 wo [0,1,2,3,4] 22 (.bin false .add 3 (.t 21) (ci 1)),
 tBV [0,1,2,3] 23 20 22,
 tS0 [0,1,2,3] 24 23,
 tCL 25 19 24])
 (.cond (.t 25)
 (.seq
 (rg [2] [
 tQ 2])
 .ret)
 .skip)))
 (rg [0,3,4,27] [
 mv 14 4,
 tCM 15 14,
 sg 4 15])))
def l69_1:VC:=.loop b69_1
def b69_0:VC:=
 (.seq
 (.seq
 (rg [0,3,8,27] [
 mv 6 3,
 tH 7 6,
 vo 8 (.bin false .gtr 3 (.t 7) (ci 1))])
 (.cond (.t 8)
 .skip
 (.exit 0)))
 (.block 1
 (.seq
 (.seq
 (rg [0,3,4,27] [
 tA 4])
 (.block 2
 l69_1))
 (rg [0,3,27] [
 mv 26 3,
 cl 27 98 [26],
 vo 3 (.asgn (.t 27))]))))
def l69_0:VC:=.loop b69_0
def v69 : VFun := {
 code:=
 (.seq
 (rg [0] [
 tC 2])
 (.seq
 (rg [0,3,27] [
 mv 5 0,
 vo 3 (.asgn (.t 5))])
 (.seq
 (.block 0
 l69_0)
 (.seq
 (rg [2] [
 tC 2])
 .ret))))
 modes:=[.eat]
 rets:=[⟨2,none⟩]}

def b70_0:VC:=
 (.seq
 (.seq
 (rg [0,3,4,5,12,24] [
 mv 6 4,
 mv 7 0,
 tJ 8 7,
 tL 9 8,
 ld 10 28 9,
 tAD 11 10,
 tD 12 6 11])
 (.cond (.t 12)
 .skip
 (.exit 0)))
 (.seq
 (.block 1
 (rg [0,3,4,5,24] [
 mv 15 3,
 mv 16 0,
 tJ 17 16,
 tL 18 17,
 ld 19 28 18,
 mv 20 4,
 tZ 21 19 20,
 cl 22 99 [21],
 vo 23 (.lit 100 2 1 1 [(.val (.int .i64 0))] [(0,(.t 22))]),
 tBW 24 15 23,
 sg 3 24]))
 (rg [0,3,4,5,24] [
 mv 13 4,
 tB 14 13,
 sg 4 14])))
def l70_0:VC:=.loop b70_0
def v70 : VFun := {
 code:=
 (.seq
 (rg [0] [
 tT 2])
 (.seq
 (rg [0,3,5,24] [
 tBX 5,
 sg 3 5])
 (.seq
 (.seq
 (rg [0,3,4,5,24] [
 tA 4])
 (.block 0
 l70_0))
 (.seq
 (rg [2,3,5,24] [
 mv 25 3,
 sg 2 25])
 .ret))))
 modes:=[.lend]
 rets:=[⟨2,none⟩]}

def b71_0:VC:=
 (.seq
 (.seq
 (rg [0,3,4,7,11] [
 mv 8 4,
 mv 9 0,
 tCK 10 9,
 tD 11 8 10])
 (.cond (.t 11)
 .skip
 (.exit 0)))
 (.seq
 (.block 1
 (rg [0,3,4,7] [
 mv 14 3,
 mv 15 4,
 mv 16 0,
 mv 17 4,
 tDJ 18 22 123 3 16 17,
 tDR 19 123 3 18,
 tDY 20 100,
 tZ 21 14 15,
 tAO 21 20]))
 (rg [0,3,4,7] [
 mv 12 4,
 tB 13 12,
 sg 4 13])))
def l71_0:VC:=.loop b71_0
def v71 : VFun := {
 code:=
 (.seq
 (rg [0] [
 tDQ 2 3])
 (.seq
 (rg [0,3,7] [
 mv 5 0,
 tCK 6 5,
 vo 7 (.mk 28 98 3 56 [(.val (.int .i64 0)),(.nl 3),(.nl 2)] (.t 6) (.t 6)),
 sg 3 7])
 (.seq
 (.seq
 (rg [0,3,4,7] [
 tA 4])
 (.block 0
 l71_0))
 (.seq
 (rg [2,3,7] [
 mv 22 3,
 sg 2 22])
 .ret))))
 modes:=[.lend]
 rets:=[⟨2,none⟩]}

def v72 : VFun := {
 code:=
 (.seq
 (rg [0] [
 tC 2])
 (.seq
 (rg [2] [
 mv 3 0,
 vo 4 (.call 41 [(.t 3),(ci 0),(ci 9999)]),
 sg 2 4])
 .ret))
 modes:=[.lend]
 rets:=[⟨2,none⟩]}

def v73 : VFun := {
 code:=
 (.seq
 (rg [1,2] [
 tBF 1 0,
 tCI 2])
 (.seq
 (rg [1,2] [
 tL 3 1,
 ld 4 28 3,
 tED 5 101,
 tL 6 1,
 tDW 28 1 6 5])
 (.seq
 (rg [2] [
 tAW 7 1,
 tCC 2 7])
 .ret)))
 modes:=[.lend]
 rets:=[⟨2,some (true,5)⟩]}

def v74 : VFun := {
 code:=
 (.seq
 (rg [0] [
 tC 2])
 (.seq
 (rg [2] [
 mv 3 0,
 vo 4 (.call 41 [(.t 3),(ci 0),(ci 2147483646)]),
 sg 2 4])
 .ret))
 modes:=[.lend]
 rets:=[⟨2,none⟩]}

def v75 : VFun := {
 code:=
 (.seq
 (rg [0] [
 tC 2])
 (.seq
 (rg [2] [
 mv 3 0,
 vo 4 (.call 41 [(.t 3),(ci 1),(ci 1023)]),
 mv 5 4,
 tDZ 6 0 5,
 og 7 (.bin false .rem 2 (.t 6) (ci 256)) 5 true,
 og 8 (.bin false .gtr 2 (.t 7) (ci 0)) 5 true,
 tAR 9 5 8,
 sg 2 9])
 .ret))
 modes:=[.lend]
 rets:=[⟨2,none⟩]}

def b76_1:VC:=
 (.seq
 (rg [1,45,46,47,48] [
 tD 48 47 46])
 (.seq
 (.cond (.t 48)
 .skip
 (.exit 3))
 (.seq
 (.block 4
 (.seq
 (rg [1,7,45,46,47] [
 tAH 49 45 47,
 tBG 50 49,
 tBI 7,
 tBJ 7 50])
 (.seq
 (.seq
 (rg [1,7,45,46,47,54] [
 tAT 51 7,
 ld 52 2 51,
 cl 53 103 [52],
 tF 54 53])
 (.cond (.t 54)
 (.seq
 (rg [2] [
 tAG 2])
 .ret)
 .skip))
 (.seq
 (rg [1,8,45,46,47] [
 tAU 55 7,
 ld 56 100 55,
 cl 57 104 [56],
 sg 8 57])
 (.seq
 (rg [1,8,45,46,47,59] [
 mv 58 8,
 tAE 59 58])
 (.cond (.t 59)
 (.seq
 (rg [2] [
 mv 60 8,
 sg 2 60])
 .ret)
 .skip))))))
 (rg [1,45,46,47] [
 tB 61 47,
 mv 47 61]))))
def l76_1:VC:=.loop b76_1
def b76_0:VC:=
 (.seq
 (rg [1,27,28,29,30] [
 tD 30 29 28])
 (.seq
 (.cond (.t 30)
 .skip
 (.exit 1))
 (.seq
 (.block 2
 (.seq
 (rg [1,3,4,27,28,29] [
 mv 31 29,
 tAA 32 27 29,
 tAV 33 32,
 tBK 4,
 sg 3 31,
 tBL 4 33])
 (.seq
 (.region true [1,5,27,28,29] [
 tAV 34 4,
 tAX [0] 35 1,
 tAY [0] 36 35,
 tE [0,1,2] 37 3,
 wo [0] 38 (.cut 95 (some 130) 3 (.t 36) none (some (.t 37))),
 cl 39 102 [34,38],
 sg 5 39])
 (.seq
 (rg [1,5,27,28,29,41] [
 mv 40 5,
 tAE 41 40])
 (.cond (.t 41)
 (.seq
 (rg [2] [
 mv 42 5,
 sg 2 42])
 .ret)
 .skip)))))
 (rg [1,27,28,29] [
 tB 43 29,
 mv 29 43]))))
def l76_0:VC:=.loop b76_0
def v76 : VFun := {
 code:=
 (.seq
 (rg [1] [
 tAZ 1 0,
 tA 2])
 (.seq
 (.block 0
 (.seq
 (rg [1,9] [
 tAJ 10 1,
 ld 11 2 10,
 vo 12 (.call 41 [(.t 11),(ci 0),(ci 65535)]),
 tF 13 12,
 sg 9 13])
 (.cond (.t 9)
 (.seq
 (rg [2] [
 tAG 2])
 .ret)
 (.seq
 (rg [1,14] [
 tK 15 1,
 ld 16 95 15,
 tV 17 16,
 tBR 18 17,
 mv 19 18,
 tDK 20 98 2 2 1 1 19,
 tDL 21 96 1 20 19,
 tEH 22 96 21 19,
 og 23 (.call 41 [(.t 22),(ci 1),(ci 4)]) 19 false,
 tDN 24 23 19,
 tAB 25 19 24,
 sg 14 25])
 (.cond (.t 14)
 (.seq
 (rg [2] [
 tAM 2])
 .ret)
 .skip)))))
 (.seq
 (.seq
 (rg [1,27,28,29] [
 tK 26 1,
 ld 27 95 26,
 tV 28 27,
 tO 29])
 (.block 1
 l76_0))
 (.seq
 (.seq
 (rg [1,45,46,47] [
 tN 44 1,
 ld 45 96 44,
 tY 46 45,
 tO 47])
 (.block 3
 l76_1))
 (.seq
 (.seq
 (rg [66] [
 tN 62 1,
 ld 63 96 62,
 cl 64 105 [63],
 cl 65 103 [64],
 tF 66 65])
 (.cond (.t 66)
 (.seq
 (rg [2] [
 vo 2 (.asg (ci 7))])
 .ret)
 .skip))
 (.seq
 (rg [2] [
 tA 2])
 .ret))))))
 modes:=[.lend]
 rets:=[⟨2,none⟩]}

def v77 : VFun := {
 code:=
 (.seq
 (rg [1] [
 tAZ 1 0,
 tC 2])
 (.seq
 (rg [2] [
 tK 3 1,
 ld 4 95 3,
 tV 5 4,
 tCJ 6 5,
 sg 2 6])
 .ret))
 modes:=[.lend]
 rets:=[⟨2,none⟩]}

def b78_1:VC:=
 (.seq
 (.seq
 (rg [0,3,4,13,17] [
 mv 14 4,
 mv 15 3,
 tH 16 15,
 tD 17 14 16])
 (.cond (.t 17)
 .skip
 (.exit 2)))
 (.seq
 (.block 3
 (.seq
 (.region true [0,3,4,13,29] [
 mv 20 3,
 tE [0] 21 4,
 wo [0] 22 (.bin false .sub 3 (.t 21) (ci 1)),
 tW 23 20 22,
 ld 24 2 23,
 tE [0,1,2,3,4] 25 3,
 tE [0,1,2,3,4,5] 26 4,
 tBV [0,1,2,3,4] 27 25 26,
 tS0 [0,1,2,3,4] 28 27,
 tCL 29 24 28])
 (.cond (.t 29)
 (.seq
 (rg [2] [
 tQ 2])
 .ret)
 .skip)))
 (rg [0,3,4,13] [
 mv 18 4,
 tCM 19 18,
 sg 4 19])))
def l78_1:VC:=.loop b78_1
def b78_0:VC:=
 (.seq
 (.seq
 (rg [0,3,11,13] [
 mv 9 3,
 tH 10 9,
 vo 11 (.bin false .gtr 3 (.t 10) (ci 1))])
 (.cond (.t 11)
 .skip
 (.exit 0)))
 (.seq
 (.block 1
 (.seq
 (rg [0,3,4,13] [
 tAI 4])
 (.block 2
 l78_1)))
 (rg [0,3,13] [
 mv 12 3,
 cl 13 107 [12],
 vo 3 (.asgn (.t 13))])))
def l78_0:VC:=.loop b78_0
def v78 : VFun := {
 code:=
 (.seq
 (rg [0] [
 tC 2])
 (.seq
 (.seq
 (rg [0,7] [
 mv 5 0,
 cl 6 106 [5],
 tAE 7 6])
 (.cond (.t 7)
 (.seq
 (rg [2] [
 tC 2])
 .ret)
 .skip))
 (.seq
 (.seq
 (rg [0,3,13] [
 mv 8 0,
 vo 3 (.asgn (.t 8))])
 (.block 0
 l78_0))
 (.seq
 (rg [2] [
 tC 2])
 .ret))))
 modes:=[.eat]
 rets:=[⟨2,none⟩]}

def b79_0:VC:=
 (.seq
 (rg [1,3,6,8,9,10,11,18] [
 tD 11 10 9])
 (.seq
 (.cond (.t 11)
 .skip
 (.exit 0))
 (.seq
 (.block 1
 (.seq
 (rg [1,3,5,6,8,9,10,18] [
 tZ 12 8 10,
 tAF 13 12,
 tAN 5,
 tAO 5 13])
 (rg [1,3,6,8,9,10,18] [
 mv 14 3,
 tAF 15 5,
 cl 16 108 [15],
 vo 17 (.lit 100 2 1 1 [(.val (.int .i64 0))] [(0,(.t 16))]),
 tBW 18 14 17,
 sg 3 18])))
 (rg [1,3,6,8,9,10,18] [
 tB 19 10,
 mv 10 19]))))
def l79_0:VC:=.loop b79_0
def v79 : VFun := {
 code:=
 (.seq
 (rg [1] [
 tBF 1 0,
 tT 2])
 (.seq
 (rg [1,3,6,18] [
 tBX 6,
 sg 3 6])
 (.seq
 (.seq
 (rg [1,3,6,8,9,10,18] [
 tL 7 1,
 ld 8 28 7,
 tAD 9 8,
 tO 10])
 (.block 0
 l79_0))
 (.seq
 (rg [2,3,6,18] [
 mv 20 3,
 sg 2 20])
 .ret))))
 modes:=[.lend]
 rets:=[⟨2,none⟩]}

def b80_0:VC:=
 (.seq
 (.seq
 (rg [0,1,5,14] [
 mv 11 5,
 mv 12 0,
 tAD 13 12,
 tD 14 11 13])
 (.cond (.t 14)
 .skip
 (.exit 0)))
 (.seq
 (.block 1
 (.seq
 (.region true [0,1,5,26] [
 mv 17 0,
 tE [0] 18 5,
 tZ 19 17 18,
 tAF 20 19,
 tE [0,1,2,3] 21 1,
 tE [0,1,2,3,4] 22 5,
 wo [0,1,2,3] 23 (.ia 28 98 3 (.t 21) (.t 22)),
 tDM [0,1,2,3] 24 98 3 23,
 tEG 25 109,
 tF 26 25])
 (.cond (.t 26)
 (.seq
 (rg [4] [
 tC 4])
 .ret)
 .skip)))
 (rg [0,1,5] [
 mv 15 5,
 tB 16 15,
 sg 5 16])))
def l80_0:VC:=.loop b80_0
def v80 : VFun := {
 code:=
 (.seq
 (rg [0,1] [
 tC 4])
 (.seq
 (.seq
 (rg [0,1,10] [
 mv 6 0,
 tAD 7 6,
 mv 8 1,
 tAD 9 8,
 tBB 10 7 9])
 (.cond (.t 10)
 (.seq
 (rg [4] [
 tC 4])
 .ret)
 .skip))
 (.seq
 (.seq
 (rg [0,1,5] [
 tA 5])
 (.block 0
 l80_0))
 (.seq
 (rg [4] [
 tQ 4])
 .ret))))
 modes:=[.lend,.lend]
 rets:=[⟨4,none⟩]}

def b81_0:VC:=
 (.seq
 (.seq
 (rg [0,1,5,9] [
 mv 6 5,
 mv 7 0,
 tAD 8 7,
 tD 9 6 8])
 (.cond (.t 9)
 .skip
 (.exit 0)))
 (.seq
 (.block 1
 (.seq
 (.seq
 (rg [0,1,5,18] [
 mv 12 0,
 mv 13 5,
 tZ 14 12 13,
 tAJ 15 14,
 ld 16 2 15,
 mv 17 1,
 tM 18 16 17])
 (.cond (.t 18)
 (.seq
 (rg [4] [
 tG 4])
 .ret)
 .skip))
 (.seq
 (rg [0,1,5] [
 mv 19 1,
 tB 20 19,
 sg 1 20])
 (.seq
 (rg [0,1,5] [
 mv 21 0,
 mv 22 5,
 tZ 23 21 22,
 tK 24 23,
 ld 25 95 24,
 mv 26 1,
 cl 27 110 [25,26],
 sg 1 27])
 (.seq
 (.seq
 (rg [0,1,5,29] [
 mv 28 1,
 tI0 29 28])
 (.cond (.t 29)
 (.seq
 (rg [4] [
 tG 4])
 .ret)
 .skip))
 (.seq
 (rg [0,1,5] [
 mv 30 0,
 mv 31 5,
 tZ 32 30 31,
 tN 33 32,
 ld 34 96 33,
 mv 35 1,
 cl 36 111 [34,35],
 sg 1 36])
 (.seq
 (rg [0,1,5,38] [
 mv 37 1,
 tI0 38 37])
 (.cond (.t 38)
 (.seq
 (rg [4] [
 tG 4])
 .ret)
 .skip))))))))
 (rg [0,1,5] [
 mv 10 5,
 tB 11 10,
 sg 5 11])))
def l81_0:VC:=.loop b81_0
def v81 : VFun := {
 code:=
 (.seq
 (rg [0,1] [
 tA 4])
 (.seq
 (.seq
 (rg [0,1,5] [
 tA 5])
 (.block 0
 l81_0))
 (.seq
 (rg [4] [
 mv 39 1,
 sg 4 39])
 .ret)))
 modes:=[.lend,.lend]
 rets:=[⟨4,none⟩]}

def b82_0:VC:=
 (.seq
 (.seq
 (rg [0,3,4,5,9,26] [
 mv 6 4,
 mv 7 0,
 tAC 8 7,
 tD 9 6 8])
 (.cond (.t 9)
 .skip
 (.exit 0)))
 (.seq
 (.block 1
 (.region true [0,3,4,5,26] [
 mv 12 3,
 tE [0] 13 0,
 tE [0,1] 14 4,
 wo [0] 15 (.ia 44 35 6 (.t 13) (.t 14)),
 tDI [0] 16 35 0 0 1 15,
 tS0 [0] 17 16,
 tE [0,1,2,3,4,5] 18 0,
 tE [0,1,2,3,4,5,6] 19 4,
 wo [0,1,2,3,4,5] 20 (.ia 44 35 6 (.t 18) (.t 19)),
 tDI [0,1,2,3,4,5] 21 35 1 1 5 20,
 tDM [0,1,2,3,4,5] 22 30 5 21,
 wo [0,1,2,3,4,5] 23 (.call 64 [(.t 22)]),
 wo [0] 24 (.build 35 [(.val (.int .i64 0)),(.val (.int .i64 0)),(.val (.int .i64 0)),(.val (.int .i64 0)),(.val (.int .i64 0)),(.nl 3)] [(0,0,1,(.t 17)),(1,1,5,(.t 23))]),
 wo [0] 25 (.lit 44 35 6 1 [(.val (.int .i64 0)),(.val (.int .i64 0)),(.val (.int .i64 0)),(.val (.int .i64 0)),(.val (.int .i64 0)),(.nl 3)] [(0,(.t 24))]),
 tCF 26 12 25,
 sg 3 26]))
 (rg [0,3,4,5,26] [
 mv 10 4,
 tB 11 10,
 sg 4 11])))
def l82_0:VC:=.loop b82_0
def v82 : VFun := {
 code:=
 (.seq
 (rg [0] [
 tDQ 2 6])
 (.seq
 (rg [0,3,5,26] [
 tDC 5,
 sg 3 5])
 (.seq
 (.seq
 (rg [0,3,4,5,26] [
 tA 4])
 (.block 0
 l82_0))
 (.seq
 (rg [2,3,5,26] [
 mv 27 3,
 sg 2 27])
 .ret))))
 modes:=[.lend]
 rets:=[⟨2,none⟩]}

def b83_0:VC:=
 (.seq
 (.seq
 (rg [0,1,5,9] [
 mv 6 5,
 mv 7 0,
 tV 8 7,
 tD 9 6 8])
 (.cond (.t 9)
 .skip
 (.exit 0)))
 (.seq
 (.block 1
 (.seq
 (rg [0,1,5] [
 mv 12 0,
 mv 13 5,
 mv 14 1,
 tAA 15 12 13,
 tAP 16 15,
 tP 16 14])
 (.seq
 (rg [0,1,5] [
 mv 17 1,
 tB 18 17,
 sg 1 18])
 (.seq
 (rg [0,1,5] [
 mv 19 0,
 mv 20 5,
 mv 21 1,
 tAA 22 19 20,
 tBM 23 22,
 tP 23 21])
 (.seq
 (rg [0,1,5] [
 mv 24 1,
 tB 25 24,
 sg 1 25])
 (rg [0,1,5] [
 mv 26 0,
 mv 27 5,
 tAA 28 26 27,
 tAK 29 28,
 ld 30 100 29,
 mv 31 1,
 cl 32 112 [30,31],
 sg 1 32]))))))
 (rg [0,1,5] [
 mv 10 5,
 tB 11 10,
 sg 5 11])))
def l83_0:VC:=.loop b83_0
def v83 : VFun := {
 code:=
 (.seq
 (rg [0,1] [
 tA 4])
 (.seq
 (.seq
 (rg [0,1,5] [
 tA 5])
 (.block 0
 l83_0))
 (.seq
 (rg [0,4] [
 mv 33 1,
 sg 4 33])
 .ret)))
 modes:=[.io,.lend]
 rets:=[⟨4,none⟩]}

def b84_0:VC:=
 (.seq
 (.seq
 (rg [0,1,5,9] [
 mv 6 5,
 mv 7 0,
 tY 8 7,
 tD 9 6 8])
 (.cond (.t 9)
 .skip
 (.exit 0)))
 (.seq
 (.block 1
 (.seq
 (rg [0,1,5] [
 mv 12 0,
 mv 13 5,
 mv 14 1,
 tAH 15 12 13,
 tAT 16 15,
 tP 16 14])
 (.seq
 (rg [0,1,5] [
 mv 17 1,
 tB 18 17,
 sg 1 18])
 (rg [0,1,5] [
 mv 19 0,
 mv 20 5,
 tAH 21 19 20,
 tAU 22 21,
 ld 23 100 22,
 mv 24 1,
 cl 25 112 [23,24],
 sg 1 25]))))
 (rg [0,1,5] [
 mv 10 5,
 tB 11 10,
 sg 5 11])))
def l84_0:VC:=.loop b84_0
def v84 : VFun := {
 code:=
 (.seq
 (rg [0,1] [
 tA 4])
 (.seq
 (.seq
 (rg [0,1,5] [
 tA 5])
 (.block 0
 l84_0))
 (.seq
 (rg [0,4] [
 mv 26 1,
 sg 4 26])
 .ret)))
 modes:=[.io,.lend]
 rets:=[⟨4,none⟩]}

def v94 : VFun := {
 code:=
 (.seq
 (rg [1,2] [
 tDH 2 123 0,
 tA 4])
 (.seq
 (rg [1,2] [
 tDG 5 123 1 1 1 2,
 ld 6 120 5,
 mv 7 1,
 tDP 8 120,
 sg 1 8])
 (.seq
 (.seq
 (rg [1,2,10] [
 mv 9 1,
 tI0 10 9])
 (.cond (.t 10)
 (.seq
 (rg [4] [
 tG 4])
 .ret)
 .skip))
 (.seq
 (rg [1] [
 tDG 11 123 2 2 1 2,
 ld 12 121 11,
 mv 13 1,
 cl 14 121 [12,13],
 sg 1 14])
 (.seq
 (.seq
 (rg [1,16] [
 mv 15 1,
 tI0 16 15])
 (.cond (.t 16)
 (.seq
 (rg [4] [
 tG 4])
 .ret)
 .skip))
 (.seq
 (rg [4] [
 mv 17 1,
 sg 4 17])
 .ret))))))
 modes:=[.lend,.lend]
 rets:=[⟨4,none⟩]}

def b95_0:VC:=
 (.seq
 (.seq
 (rg [0,3,4,5,9,19] [
 mv 6 4,
 mv 7 0,
 tAD 8 7,
 tD 9 6 8])
 (.cond (.t 9)
 .skip
 (.exit 0)))
 (.seq
 (.block 1
 (rg [0,3,4,5,19] [
 mv 12 3,
 mv 13 0,
 mv 14 4,
 tZ 15 13 14,
 tAF 16 15,
 tDU 17 122,
 vo 18 (.lit 28 98 3 1 [(.val (.int .i64 0)),(.nl 3),(.nl 2)] [(0,(.t 17))]),
 tDX 19 28 98 3 56 12 18,
 sg 3 19]))
 (rg [0,3,4,5,19] [
 mv 10 4,
 tB 11 10,
 sg 4 11])))
def l95_0:VC:=.loop b95_0
def v95 : VFun := {
 code:=
 (.seq
 (rg [0] [
 tDQ 2 3])
 (.seq
 (rg [0,3,5,19] [
 tDD 5,
 sg 3 5])
 (.seq
 (.seq
 (rg [0,3,4,5,19] [
 tA 4])
 (.block 0
 l95_0))
 (.seq
 (rg [2,3,5,19] [
 mv 20 3,
 sg 2 20])
 .ret))))
 modes:=[.lend]
 rets:=[⟨2,none⟩]}

def b96_0:VC:=
 (.seq
 (.seq
 (rg [0,1,5,6,38] [
 mv 36 6,
 mv 37 1,
 tD 38 36 37])
 (.cond (.t 38)
 .skip
 (.exit 0)))
 (.seq
 (.block 1
 (.seq
 (.region true [0,1,5,6,62] [
 mv 41 0,
 tE [0] 42 6,
 tAA 43 41 42,
 tAP 44 43,
 ld 45 2 44,
 tE [0,1,2,3,4] 46 5,
 tBN [0,1,2,3,4] 47 46,
 tCN [0,1,2,3,4] 48 47,
 tS0 [0,1,2,3,4] 49 48,
 tCL 50 45 49,
 mv 51 50,
 tDZ 52 0 51,
 ⟨some 53,.mov (.t 6),some (51,true),[11]⟩,
 og 54 (.ia 95 130 3 (.t 52) (.t 53)) 51 true,
 tDS 55 130 1 1 1 54 51,
 tDT 56 2 1 55 51,
 ⟨some 57,.mov (.t 5),some (51,true),[11,12,13,14,15]⟩,
 ⟨some 58,.nilc (.t 57),some (51,true),[11,12,13,14,15]⟩,
 ⟨some 59,.fa 130 1 1 1 (.t 58),some (51,true),[11,12,13,14,15]⟩,
 ⟨some 60,.load 2 false 1 (.t 59),some (51,true),[11,12,13,14,15]⟩,
 og 61 (.bin false .eql 2 (.t 56) (.t 60)) 51 true,
 tAR 62 51 61])
 (.cond (.t 62)
 (.seq
 (rg [4] [
 vo 4 (.asg (ci 6))])
 .ret)
 .skip)))
 (rg [0,1,5,6] [
 mv 39 6,
 tB 40 39,
 sg 6 40])))
def l96_0:VC:=.loop b96_0
def v96 : VFun := {
 code:=
 (.seq
 (rg [0,1] [
 tA 4])
 (.seq
 (rg [0,1,5] [
 mv 7 0,
 mv 8 1,
 tAA 9 7 8,
 sg 5 9])
 (.seq
 (.seq
 (rg [0,1,5,23] [
 mv 10 5,
 tJ 11 10,
 tAP 12 11,
 ld 13 2 12,
 vo 14 (.call 36 [(.t 13),(ci 0),(ci 2147483646)]),
 tF 15 14,
 mv 16 15,
 tDO 17 5 16,
 tDV 18 17 16,
 tDK 19 130 1 1 1 18 16,
 tDL 20 2 1 19 16,
 og 21 (.call 36 [(.t 20),(ci 0),(ci 3)]) 16 false,
 tDN 22 21 16,
 tAB 23 16 22])
 (.cond (.t 23)
 (.seq
 (rg [4] [
 tAG 4])
 .ret)
 .skip))
 (.seq
 (.seq
 (rg [0,1,5,29] [
 mv 24 5,
 tJ 25 24,
 tAK 26 25,
 ld 27 100 26,
 tH 28 27,
 vo 29 (.bin false .gtr 3 (.t 28) (ci 8))])
 (.cond (.t 29)
 (.seq
 (rg [4] [
 tAM 4])
 .ret)
 .skip))
 (.seq
 (.seq
 (rg [0,1,5,35] [
 mv 30 5,
 tJ 31 30,
 tAK 32 31,
 ld 33 100 32,
 vo 34 (.call 123 [(.t 33),(ci 0),(ci 9999)]),
 tF 35 34])
 (.cond (.t 35)
 (.seq
 (rg [4] [
 tAG 4])
 .ret)
 .skip))
 (.seq
 (.seq
 (rg [0,1,5,6] [
 tA 6])
 (.block 0
 l96_0))
 (.seq
 (rg [4] [
 tA 4])
 .ret)))))))
 modes:=[.lend,.lend]
 rets:=[⟨4,none⟩]}

def b97_0:VC:=
 (.seq
 (.seq
 (rg [0,3,4,9] [
 mv 6 4,
 mv 7 0,
 tY 8 7,
 tD 9 6 8])
 (.cond (.t 9)
 .skip
 (.exit 0)))
 (.seq
 (.block 1
 (.seq
 (.seq
 (rg [0,3,4,18] [
 mv 12 0,
 mv 13 4,
 tAH 14 12 13,
 tAT 15 14,
 ld 16 2 15,
 tDU 17 124,
 tF 18 17])
 (.cond (.t 18)
 (.seq
 (rg [2] [
 tAG 2])
 .ret)
 .skip))
 (.seq
 (.seq
 (rg [0,3,4,5] [
 mv 19 0,
 mv 20 4,
 tAH 21 19 20,
 tAU 22 21,
 ld 23 100 22,
 cl 24 125 [23],
 sg 5 24])
 (.seq
 (rg [0,3,4,5,26] [
 mv 25 5,
 tAE 26 25])
 (.cond (.t 26)
 (.seq
 (rg [2] [
 mv 27 5,
 sg 2 27])
 .ret)
 .skip)))
 (rg [0,3,4] [
 mv 28 3,
 mv 29 0,
 mv 30 4,
 tAH 31 29 30,
 tAT 32 31,
 ld 33 2 32,
 tCO 34 28 33,
 sg 3 34]))))
 (rg [0,3,4] [
 mv 10 4,
 tB 11 10,
 sg 4 11])))
def l97_0:VC:=.loop b97_0
def v97 : VFun := {
 code:=
 (.seq
 (rg [0] [
 tA 2])
 (.seq
 (rg [0,3] [
 tA 3])
 (.seq
 (.seq
 (rg [0,3,4] [
 tA 4])
 (.block 0
 l97_0))
 (.seq
 (.seq
 (rg [37] [
 mv 35 3,
 cl 36 124 [35],
 tF 37 36])
 (.cond (.t 37)
 (.seq
 (rg [2] [
 vo 2 (.asg (ci 7))])
 .ret)
 .skip))
 (.seq
 (rg [2] [
 tA 2])
 .ret)))))
 modes:=[.lend]
 rets:=[⟨2,none⟩]}

def b98_0:VC:=
 (.seq
 (.seq
 (rg [0,3,4,5,9,22] [
 mv 6 4,
 mv 7 0,
 tH 8 7,
 tD 9 6 8])
 (.cond (.t 9)
 .skip
 (.exit 0)))
 (.seq
 (.block 1
 (.region true [0,3,4,5,22] [
 mv 12 3,
 tE [0] 13 0,
 tE [0,1] 14 4,
 tBV [0] 15 13 14,
 tS0 [0] 16 15,
 tE [0,1,2,3,4] 17 0,
 tE [0,1,2,3,4,5] 18 4,
 wo [0,1,2,3,4] 19 (.call 127 [(.t 17),(.t 18)]),
 wo [0] 20 (.call 126 [(.t 16),(.t 19)]),
 wo [0] 21 (.lit 100 2 1 1 [(.val (.int .i64 0))] [(0,(.t 20))]),
 tBW 22 12 21,
 sg 3 22]))
 (rg [0,3,4,5,22] [
 mv 10 4,
 tCM 11 10,
 sg 4 11])))
def l98_0:VC:=.loop b98_0
def v98 : VFun := {
 code:=
 (.seq
 (rg [0] [
 tT 2])
 (.seq
 (rg [0,3,5,22] [
 tBX 5,
 sg 3 5])
 (.seq
 (.seq
 (rg [0,3,4,5,22] [
 tA 4])
 (.block 0
 l98_0))
 (.seq
 (rg [2,3,5,22] [
 mv 23 3,
 sg 2 23])
 .ret))))
 modes:=[.lend]
 rets:=[⟨2,none⟩]}

def v99 : VFun := {
 code:=
 (.seq
 (rg [0] [
 tA 2])
 (.seq
 (rg [2] [
 mv 3 0,
 vo 4 (.call 129 [(.t 3),(.c (.bool false))]),
 tED 5 128,
 sg 2 5])
 .ret))
 modes:=[.lend]
 rets:=[⟨2,none⟩]}

def v100 : VFun := {
 code:=
 (.seq
 (rg [1,2] [
 tDH 1 123 0,
 tAN 2])
 (.seq
 (rg [1,2,3] [
 tAN 3])
 (.seq
 (rg [1,2,3] [
 tDG 4 123 0 0 1 1,
 ld 5 2 4,
 tAJ 6 3,
 tP 6 5])
 (.seq
 (rg [1,2,3] [
 tDG 7 123 1 1 1 1,
 ld 8 120 7,
 tEB 9 130,
 tK 10 3,
 tCP 10 9])
 (.seq
 (rg [2,3] [
 tDG 11 123 2 2 1 1,
 ld 12 121 11,
 cl 13 131 [12],
 tN 14 3,
 tDW 96 1 14 13])
 (.seq
 (rg [2] [
 tAF 15 3,
 tAO 2 15])
 .ret))))))
 modes:=[.lend]
 rets:=[⟨2,some (true,3)⟩]}

def b101_0:VC:=
 (.seq
 (rg [3,6,7,8,9,10,17] [
 tD 10 9 8])
 (.seq
 (.cond (.t 10)
 .skip
 (.exit 0))
 (.seq
 (.block 1
 (.seq
 (rg [3,5,6,7,8,9,17] [
 tZ 11 7 9,
 tAF 12 11,
 tAN 5,
 tAO 5 12])
 (rg [3,6,7,8,9,17] [
 mv 13 3,
 tAF 14 5,
 cl 15 132 [14],
 vo 16 (.lit 28 98 3 1 [(.val (.int .i64 0)),(.nl 3),(.nl 2)] [(0,(.t 15))]),
 tDX 17 28 98 3 56 13 16,
 sg 3 17])))
 (rg [3,6,7,8,9,17] [
 tB 18 9,
 mv 9 18]))))
def l101_0:VC:=.loop b101_0
def v101 : VFun := {
 code:=
 (.seq
 (rg [0] [
 tDQ 2 3])
 (.seq
 (rg [0,3,6,17] [
 tDD 6,
 sg 3 6])
 (.seq
 (.seq
 (rg [3,6,7,8,9,17] [
 mv 7 0,
 tAD 8 7,
 tO 9])
 (.block 0
 l101_0))
 (.seq
 (rg [2,3,6,17] [
 mv 19 3,
 sg 2 19])
 .ret))))
 modes:=[.lend]
 rets:=[⟨2,none⟩]}

def v102 : VFun := {
 code:=
 (.seq
 (rg [1,2] [
 tDH 2 130 0,
 tA 4])
 (.seq
 (.block 0
 (.seq
 (rg [1,2,5] [
 tAP 6 2,
 ld 7 2 6,
 tEA 8 74,
 tF 9 8,
 mv 10 9,
 tDK 11 130 1 1 1 2 10,
 tDL 12 2 1 11 10,
 og 13 (.call 41 [(.t 12),(ci 0),(ci 3)]) 10 false,
 tDN 14 13 10,
 tAB 15 10 14,
 sg 5 15])
 (.cond (.t 5)
 (.seq
 (rg [4] [
 tAG 4])
 .ret)
 (.seq
 (rg [1,2,16] [
 tAK 17 2,
 ld 18 100 17,
 tH 19 18,
 vo 20 (.bin false .gtr 3 (.t 19) (ci 8)),
 sg 16 20])
 (.cond (.t 16)
 (.seq
 (rg [4] [
 tAM 4])
 .ret)
 (.seq
 (rg [1,2,21] [
 tAK 22 2,
 ld 23 100 22,
 vo 24 (.call 133 [(.t 23),(.f 134)]),
 sg 21 24])
 (.cond (.t 21)
 (.seq
 (rg [4] [
 tAG 4])
 .ret)
 (.seq
 (rg [25] [
 mv 26 1,
 vo 27 (.fn 136 [] [(.t 2)]),
 cl 28 135 [26,27],
 sg 25 28])
 (.cond (.t 25)
 (.seq
 (rg [4] [
 vo 4 (.asg (ci 6))])
 .ret)
 .skip)))))))))
 (.seq
 (rg [4] [
 tA 4])
 .ret)))
 modes:=[.lend,.lend]
 rets:=[⟨4,none⟩]}

def v103 : VFun := {
 code:=
 (.seq
 (rg [0] [
 tC 2])
 (.seq
 (rg [2] [
 mv 3 0,
 vo 4 (.call 41 [(.t 3),(ci 0),(ci 1000000)]),
 sg 2 4])
 .ret))
 modes:=[.lend]
 rets:=[⟨2,none⟩]}

def v104 : VFun := {
 code:=
 (.seq
 (rg [0] [
 tA 2])
 (.seq
 (.seq
 (rg [0,5] [
 mv 3 0,
 tH 4 3,
 vo 5 (.bin false .gtr 3 (.t 4) (ci 12))])
 (.cond (.t 5)
 (.seq
 (rg [2] [
 tAM 2])
 .ret)
 .skip))
 (.seq
 (.seq
 (rg [7] [
 mv 6 0,
 vo 7 (.call 133 [(.t 6),(.f 137)])])
 (.cond (.t 7)
 (.seq
 (rg [2] [
 tAI 2])
 .ret)
 .skip))
 (.seq
 (rg [2] [
 tA 2])
 .ret))))
 modes:=[.lend]
 rets:=[⟨2,none⟩]}

def b105_0:VC:=
 (.seq
 (rg [3,6,7,8,9] [
 tD 9 8 7])
 (.seq
 (.cond (.t 9)
 .skip
 (.exit 0))
 (.seq
 (.block 1
 (.seq
 (rg [3,5,6,7,8] [
 tAH 10 6 8,
 tBG 11 10,
 tBI 5,
 tBJ 5 11])
 (rg [3,6,7,8] [
 mv 12 3,
 tAT 13 5,
 ld 14 2 13,
 tCO 15 12 14,
 sg 3 15])))
 (rg [3,6,7,8] [
 tB 16 8,
 mv 8 16]))))
def l105_0:VC:=.loop b105_0
def v105 : VFun := {
 code:=
 (.seq
 (rg [0] [
 tA 2])
 (.seq
 (rg [0,3] [
 tA 3])
 (.seq
 (.seq
 (rg [3,6,7,8] [
 mv 6 0,
 tY 7 6,
 tO 8])
 (.block 0
 l105_0))
 (.seq
 (rg [2] [
 mv 17 3,
 sg 2 17])
 .ret))))
 modes:=[.lend]
 rets:=[⟨2,none⟩]}

def v106 : VFun := {
 code:=
 (.seq
 (rg [0] [
 tA 2])
 (.seq
 (.seq
 (rg [0,6] [
 mv 3 0,
 tH 4 3,
 vo 5 (.call 41 [(.t 4),(ci 1),(ci 8)]),
 tF 6 5])
 (.cond (.t 6)
 (.seq
 (rg [2] [
 tAM 2])
 .ret)
 .skip))
 (.seq
 (rg [2] [
 mv 7 0,
 tEA 8 138,
 sg 2 8])
 .ret)))
 modes:=[.lend]
 rets:=[⟨2,none⟩]}

def b107_0:VC:=
 (.seq
 (.seq
 (rg [0,3,4,5,9,23] [
 mv 6 4,
 mv 7 0,
 tH 8 7,
 tD 9 6 8])
 (.cond (.t 9)
 .skip
 (.exit 0)))
 (.seq
 (.block 1
 (.region true [0,3,4,5,23] [
 mv 12 3,
 tE [0] 13 0,
 tE [0,1] 14 4,
 tBV [0] 15 13 14,
 tS0 [0] 16 15,
 tE [0,1,2,3,4] 17 0,
 tE [0,1,2,3,4,5] 18 4,
 wo [0,1,2,3,4] 19 (.call 139 [(.t 17),(.t 18)]),
 wo [0] 20 (.lit 100 2 1 2 [(.val (.int .i64 0))] [(0,(.t 16)),(1,(.t 19))]),
 wo [0] 21 (.call 118 [(.t 20)]),
 wo [0] 22 (.lit 100 2 1 1 [(.val (.int .i64 0))] [(0,(.t 21))]),
 tBW 23 12 22,
 sg 3 23]))
 (rg [0,3,4,5,23] [
 mv 10 4,
 tCM 11 10,
 sg 4 11])))
def l107_0:VC:=.loop b107_0
def v107 : VFun := {
 code:=
 (.seq
 (rg [0] [
 tT 2])
 (.seq
 (rg [0,3,5,23] [
 tBX 5,
 sg 3 5])
 (.seq
 (.seq
 (rg [0,3,4,5,23] [
 tA 4])
 (.block 0
 l107_0))
 (.seq
 (rg [2,3,5,23] [
 mv 24 3,
 sg 2 24])
 .ret))))
 modes:=[.lend]
 rets:=[⟨2,none⟩]}

def b108_0:VC:=
 (.seq
 (rg [1,3,12,13,14,15] [
 tD 15 14 13])
 (.seq
 (.cond (.t 15)
 .skip
 (.exit 0))
 (.seq
 (.block 1
 (.seq
 (rg [1,3,5,12,13,14] [
 tAA 16 12 14,
 tAV 17 16,
 tBK 5,
 tBL 5 17])
 (rg [1,3,12,13,14] [
 tK 18 3,
 ld 19 95 18,
 tAP 20 5,
 ld 21 2 20,
 tBM 22 5,
 ld 23 2 22,
 vo 24 (.build 130 [(.val (.int .i64 0)),(.val (.int .i64 0)),(.nl 1)] [(0,0,1,(.t 21)),(1,1,1,(.t 23))]),
 tDE 25,
 tDX 26 95 130 3 40 19 25,
 tK 27 3,
 tCP 27 26])))
 (rg [1,3,12,13,14] [
 tB 28 14,
 mv 14 28]))))
def l108_0:VC:=.loop b108_0
def v108 : VFun := {
 code:=
 (.seq
 (rg [1] [
 tAZ 1 0,
 tA 2])
 (.seq
 (rg [1,3] [
 tAJ 6 1,
 ld 7 2 6,
 tN 8 1,
 ld 9 96 8,
 vo 10 (.build 98 [(.val (.int .i64 0)),(.nl 3),(.nl 2)] [(0,0,1,(.t 7)),(1,1,1,(.n 3)),(2,2,1,(.t 9))]),
 tAN 3,
 tAO 3 10])
 (.seq
 (.seq
 (rg [1,3,12,13,14] [
 tK 11 1,
 ld 12 95 11,
 tV 13 12,
 tO 14])
 (.block 0
 l108_0))
 (.seq
 (rg [2] [
 tAF 29 3,
 cl 30 141 [29],
 cl 31 140 [30],
 sg 2 31])
 .ret))))
 modes:=[.lend]
 rets:=[⟨2,none⟩]}

def v109 : VFun := {
 code:=
 (.seq
 (rg [2,3] [
 tAZ 2 0,
 tAZ 3 1,
 tC 4])
 (.seq
 (.seq
 (rg [2,3,9] [
 tAJ 5 2,
 ld 6 2 5,
 tAJ 7 3,
 ld 8 2 7,
 tM 9 6 8])
 (.cond (.t 9)
 (.seq
 (rg [4] [
 tC 4])
 .ret)
 .skip))
 (.seq
 (.seq
 (rg [2,3,15] [
 tK 10 2,
 ld 11 95 10,
 tK 12 3,
 ld 13 95 12,
 tEE 14 142,
 tF 15 14])
 (.cond (.t 15)
 (.seq
 (rg [4] [
 tC 4])
 .ret)
 .skip))
 (.seq
 (.seq
 (rg [21] [
 tN 16 2,
 ld 17 96 16,
 tN 18 3,
 ld 19 96 18,
 cl 20 143 [17,19],
 tF 21 20])
 (.cond (.t 21)
 (.seq
 (rg [4] [
 tC 4])
 .ret)
 .skip))
 (.seq
 (rg [4] [
 tQ 4])
 .ret)))))
 modes:=[.lend,.lend]
 rets:=[⟨4,none⟩]}

def b110_0:VC:=
 (.seq
 (.seq
 (rg [0,1,5,9] [
 mv 6 5,
 mv 7 0,
 tV 8 7,
 tD 9 6 8])
 (.cond (.t 9)
 .skip
 (.exit 0)))
 (.seq
 (.block 1
 (.seq
 (.seq
 (rg [0,1,5,18] [
 mv 12 0,
 mv 13 5,
 tAA 14 12 13,
 tAP 15 14,
 ld 16 2 15,
 mv 17 1,
 tM 18 16 17])
 (.cond (.t 18)
 (.seq
 (rg [4] [
 tG 4])
 .ret)
 .skip))
 (.seq
 (rg [0,1,5] [
 mv 19 1,
 tB 20 19,
 sg 1 20])
 (.seq
 (.seq
 (rg [0,1,5,27] [
 mv 21 0,
 mv 22 5,
 tAA 23 21 22,
 tBM 24 23,
 ld 25 2 24,
 mv 26 1,
 tM 27 25 26])
 (.cond (.t 27)
 (.seq
 (rg [4] [
 tG 4])
 .ret)
 .skip))
 (.seq
 (rg [0,1,5] [
 mv 28 1,
 tB 29 28,
 sg 1 29])
 (.seq
 (rg [0,1,5] [
 mv 30 0,
 mv 31 5,
 tAA 32 30 31,
 tAK 33 32,
 ld 34 100 33,
 mv 35 1,
 cl 36 144 [34,35],
 sg 1 36])
 (.seq
 (rg [0,1,5,38] [
 mv 37 1,
 tI0 38 37])
 (.cond (.t 38)
 (.seq
 (rg [4] [
 tG 4])
 .ret)
 .skip))))))))
 (rg [0,1,5] [
 mv 10 5,
 tB 11 10,
 sg 5 11])))
def l110_0:VC:=.loop b110_0
def v110 : VFun := {
 code:=
 (.seq
 (rg [0,1] [
 tA 4])
 (.seq
 (.seq
 (rg [0,1,5] [
 tA 5])
 (.block 0
 l110_0))
 (.seq
 (rg [4] [
 mv 39 1,
 sg 4 39])
 .ret)))
 modes:=[.lend,.lend]
 rets:=[⟨4,none⟩]}

def b111_0:VC:=
 (.seq
 (.seq
 (rg [0,1,5,9] [
 mv 6 5,
 mv 7 0,
 tY 8 7,
 tD 9 6 8])
 (.cond (.t 9)
 .skip
 (.exit 0)))
 (.seq
 (.block 1
 (.seq
 (.seq
 (rg [0,1,5,18] [
 mv 12 0,
 mv 13 5,
 tAH 14 12 13,
 tAT 15 14,
 ld 16 2 15,
 mv 17 1,
 tM 18 16 17])
 (.cond (.t 18)
 (.seq
 (rg [4] [
 tG 4])
 .ret)
 .skip))
 (.seq
 (rg [0,1,5] [
 mv 19 1,
 tB 20 19,
 sg 1 20])
 (.seq
 (rg [0,1,5] [
 mv 21 0,
 mv 22 5,
 tAH 23 21 22,
 tAU 24 23,
 ld 25 100 24,
 mv 26 1,
 cl 27 144 [25,26],
 sg 1 27])
 (.seq
 (rg [0,1,5,29] [
 mv 28 1,
 tI0 29 28])
 (.cond (.t 29)
 (.seq
 (rg [4] [
 tG 4])
 .ret)
 .skip))))))
 (rg [0,1,5] [
 mv 10 5,
 tB 11 10,
 sg 5 11])))
def l111_0:VC:=.loop b111_0
def v111 : VFun := {
 code:=
 (.seq
 (rg [0,1] [
 tA 4])
 (.seq
 (.seq
 (rg [0,1,5] [
 tA 5])
 (.block 0
 l111_0))
 (.seq
 (rg [4] [
 mv 30 1,
 sg 4 30])
 .ret)))
 modes:=[.lend,.lend]
 rets:=[⟨4,none⟩]}

def b112_0:VC:=
 (.seq
 (.seq
 (rg [0,1,5,9] [
 mv 6 5,
 mv 7 0,
 tH 8 7,
 tD 9 6 8])
 (.cond (.t 9)
 .skip
 (.exit 0)))
 (.seq
 (.block 1
 (.seq
 (rg [0,1,5] [
 mv 12 0,
 mv 13 5,
 mv 14 1,
 tW 15 12 13,
 tP 15 14])
 (rg [0,1,5] [
 mv 16 1,
 tB 17 16,
 sg 1 17])))
 (rg [0,1,5] [
 mv 10 5,
 tB 11 10,
 sg 5 11])))
def l112_0:VC:=.loop b112_0
def v112 : VFun := {
 code:=
 (.seq
 (rg [0,1] [
 tA 4])
 (.seq
 (.seq
 (rg [0,1,5] [
 tA 5])
 (.block 0
 l112_0))
 (.seq
 (rg [0,4] [
 mv 18 1,
 sg 4 18])
 .ret)))
 modes:=[.io,.lend]
 rets:=[⟨4,none⟩]}

def b113_0:VC:=
 (.seq
 (.seq
 (rg [0,3,4,5,9,18] [
 mv 6 4,
 mv 7 0,
 tH 8 7,
 tD 9 6 8])
 (.cond (.t 9)
 .skip
 (.exit 0)))
 (.seq
 (.block 1
 (rg [0,3,4,5,18] [
 mv 12 3,
 mv 13 0,
 mv 14 4,
 tW 15 13 14,
 ld 16 2 15,
 tDU 17 145,
 tX 18 12 17,
 sg 3 18]))
 (rg [0,3,4,5,18] [
 mv 10 4,
 tB 11 10,
 sg 4 11])))
def l113_0:VC:=.loop b113_0
def v113 : VFun := {
 code:=
 (.seq
 (rg [0] [
 tA 2])
 (.seq
 (rg [0,3,5,18] [
 vo 5 (.lit 148 5 1 0 [(.val (.int .u8 0))] []),
 sg 3 5])
 (.seq
 (.seq
 (rg [0,3,4,5,18] [
 tA 4])
 (.block 0
 l113_0))
 (.seq
 (rg [2] [
 mv 19 3,
 tDY 20 128,
 sg 2 20])
 .ret))))
 modes:=[.lend]
 rets:=[⟨2,none⟩]}

def b118_0:VC:=
 (.seq
 (rg [3,6,7,8,9,10,16] [
 tD 10 9 8])
 (.seq
 (.cond (.t 10)
 .skip
 (.exit 0))
 (.seq
 (.block 1
 (.seq
 (rg [3,5,6,7,8,9,16] [
 tW 11 7 9,
 ld 12 2 11,
 sg 5 12])
 (rg [3,6,7,8,9,16] [
 mv 13 3,
 mv 14 5,
 vo 15 (.call 146 [(.t 14),(ci 4)]),
 tX 16 13 15,
 sg 3 16])))
 (rg [3,6,7,8,9,16] [
 tB 17 9,
 mv 9 17]))))
def l118_0:VC:=.loop b118_0
def v118 : VFun := {
 code:=
 (.seq
 (rg [0] [
 tA 2])
 (.seq
 (rg [0,3,6,16] [
 vo 6 (.lit 148 5 1 0 [(.val (.int .u8 0))] []),
 sg 3 6])
 (.seq
 (.seq
 (rg [3,6,7,8,9,16] [
 mv 7 0,
 tH 8 7,
 tO 9])
 (.block 0
 l118_0))
 (.seq
 (rg [2] [
 mv 18 3,
 cl 19 140 [18],
 sg 2 19])
 .ret))))
 modes:=[.lend]
 rets:=[⟨2,none⟩]}

def b120_0:VC:=
 (.seq
 (.seq
 (rg [0,1,5,15] [
 mv 12 5,
 mv 13 0,
 tCQ 14 13,
 tD 15 12 14])
 (.cond (.t 15)
 .skip
 (.exit 0)))
 (.seq
 (.block 1
 (.seq
 (rg [0,1,5] [
 mv 18 0,
 mv 19 5,
 tDJ 20 120 161 3 18 19,
 tDR 21 161 3 20,
 mv 22 1,
 tEF 23 147,
 sg 1 23])
 (.seq
 (rg [0,1,5,25] [
 mv 24 1,
 tI0 25 24])
 (.cond (.t 25)
 (.seq
 (rg [4] [
 tG 4])
 .ret)
 .skip))))
 (rg [0,1,5] [
 mv 16 5,
 tB 17 16,
 sg 5 17])))
def l120_0:VC:=.loop b120_0
def v120 : VFun := {
 code:=
 (.seq
 (rg [0,1] [
 tA 4])
 (.seq
 (rg [0,1] [
 mv 6 1,
 mv 7 0,
 tCQ 8 7,
 tBD 9 6 8,
 sg 1 9])
 (.seq
 (.seq
 (rg [0,1,11] [
 mv 10 1,
 tI0 11 10])
 (.cond (.t 11)
 (.seq
 (rg [4] [
 tG 4])
 .ret)
 .skip))
 (.seq
 (.seq
 (rg [0,1,5] [
 tA 5])
 (.block 0
 l120_0))
 (.seq
 (rg [4] [
 mv 26 1,
 sg 4 26])
 .ret)))))
 modes:=[.lend,.lend]
 rets:=[⟨4,none⟩]}

def b121_0:VC:=
 (.seq
 (.seq
 (rg [0,1,5,15] [
 mv 12 5,
 mv 13 0,
 tCR 14 13,
 tD 15 12 14])
 (.cond (.t 15)
 .skip
 (.exit 0)))
 (.seq
 (.block 1
 (.seq
 (rg [0,1,5] [
 mv 18 0,
 mv 19 5,
 tDJ 20 121 163 2 18 19,
 tDR 21 163 2 20,
 mv 22 1,
 tEF 23 148,
 sg 1 23])
 (.seq
 (rg [0,1,5,25] [
 mv 24 1,
 tI0 25 24])
 (.cond (.t 25)
 (.seq
 (rg [4] [
 tG 4])
 .ret)
 .skip))))
 (rg [0,1,5] [
 mv 16 5,
 tB 17 16,
 sg 5 17])))
def l121_0:VC:=.loop b121_0
def v121 : VFun := {
 code:=
 (.seq
 (rg [0,1] [
 tA 4])
 (.seq
 (rg [0,1] [
 mv 6 1,
 mv 7 0,
 tCR 8 7,
 tBD 9 6 8,
 sg 1 9])
 (.seq
 (.seq
 (rg [0,1,11] [
 mv 10 1,
 tI0 11 10])
 (.cond (.t 11)
 (.seq
 (rg [4] [
 tG 4])
 .ret)
 .skip))
 (.seq
 (.seq
 (rg [0,1,5] [
 tA 5])
 (.block 0
 l121_0))
 (.seq
 (rg [4] [
 mv 26 1,
 sg 4 26])
 .ret)))))
 modes:=[.lend,.lend]
 rets:=[⟨4,none⟩]}

def b122_1:VC:=
 (.seq
 (.seq
 (rg [1,2,3,5,45] [
 mv 41 5,
 tN 42 1,
 ld 43 96 42,
 tY 44 43,
 tD 45 41 44])
 (.cond (.t 45)
 .skip
 (.exit 2)))
 (.seq
 (.block 3
 (.region true [1,2,3,5] [
 tN 48 3,
 ld 49 96 48,
 tCS [0,1] 50 1,
 tCT [0,1] 51 50,
 tE [0,1,2,3] 52 5,
 tBY [0,1] 53 51 52,
 tDI [0,1] 54 102 0 0 1 53,
 tS0 [0,1] 55 54,
 tCS [0,1,2,3,4,5,6,7] 56 1,
 tCT [0,1,2,3,4,5,6,7] 57 56,
 tE [0,1,2,3,4,5,6,7,8,9] 58 5,
 tBY [0,1,2,3,4,5,6,7] 59 57 58,
 tDI [0,1,2,3,4,5,6,7] 60 102 1 1 1 59,
 tBZ [0,1,2,3,4,5,6,7] 61 60,
 wo [0,1,2,3,4,5,6,7] 62 (.call 149 [(.t 61)]),
 wo [0,1] 63 (.build 102 [(.val (.int .i64 0)),(.nl 1)] [(0,0,1,(.t 55)),(1,1,1,(.t 62))]),
 wo [0,1] 64 (.lit 96 102 2 1 [(.val (.int .i64 0)),(.nl 1)] [(0,(.t 63))]),
 tDX 65 96 102 2 32 49 64,
 tN 66 3,
 tDW 96 1 66 65]))
 (rg [1,2,3,5] [
 mv 46 5,
 tB 47 46,
 sg 5 47])))
def l122_1:VC:=.loop b122_1
def b122_0:VC:=
 (.seq
 (.seq
 (rg [1,2,3,4,13] [
 mv 9 4,
 tK 10 1,
 ld 11 95 10,
 tV 12 11,
 tD 13 9 12])
 (.cond (.t 13)
 .skip
 (.exit 0)))
 (.seq
 (.block 1
 (.region true [1,2,3,4] [
 tK 16 3,
 ld 17 95 16,
 tAX [0,1] 18 1,
 tAY [0,1] 19 18,
 tE [0,1,2,3] 20 4,
 tBO [0,1] 21 19 20,
 tCN [0,1] 22 21,
 tS0 [0,1] 23 22,
 tAX [0,1,2,3,4,5,6,7] 24 1,
 tAY [0,1,2,3,4,5,6,7] 25 24,
 tE [0,1,2,3,4,5,6,7,8,9] 26 4,
 tBO [0,1,2,3,4,5,6,7] 27 25 26,
 tDI [0,1,2,3,4,5,6,7] 28 130 1 1 1 27,
 tS0 [0,1,2,3,4,5,6,7] 29 28,
 tAX [0,1,2,3,4,5,6,7,8,9,10,11,12,13] 30 1,
 tAY [0,1,2,3,4,5,6,7,8,9,10,11,12,13] 31 30,
 tE [0,1,2,3,4,5,6,7,8,9,10,11,12,13,14,15] 32 4,
 tBO [0,1,2,3,4,5,6,7,8,9,10,11,12,13] 33 31 32,
 tDI [0,1,2,3,4,5,6,7,8,9,10,11,12,13] 34 130 2 2 1 33,
 tBZ [0,1,2,3,4,5,6,7,8,9,10,11,12,13] 35 34,
 wo [0,1,2,3,4,5,6,7,8,9,10,11,12,13] 36 (.call 149 [(.t 35)]),
 wo [0,1] 37 (.build 130 [(.val (.int .i64 0)),(.val (.int .i64 0)),(.nl 1)] [(0,0,1,(.t 23)),(1,1,1,(.t 29)),(2,2,1,(.t 36))]),
 wo [0,1] 38 (.lit 95 130 3 1 [(.val (.int .i64 0)),(.val (.int .i64 0)),(.nl 1)] [(0,(.t 37))]),
 tDX 39 95 130 3 40 17 38,
 tK 40 3,
 tCP 40 39]))
 (rg [1,2,3,4] [
 mv 14 4,
 tB 15 14,
 sg 4 15])))
def l122_0:VC:=.loop b122_0
def v122 : VFun := {
 code:=
 (.seq
 (rg [1,2] [
 tAZ 1 0,
 tAN 2])
 (.seq
 (rg [1,2,3] [
 tAJ 6 1,
 ld 7 2 6,
 vo 8 (.build 98 [(.val (.int .i64 0)),(.nl 3),(.nl 2)] [(0,0,1,(.t 7))]),
 tAN 3,
 tAO 3 8])
 (.seq
 (.seq
 (rg [1,2,3,4] [
 tA 4])
 (.block 0
 l122_0))
 (.seq
 (.seq
 (rg [1,2,3,5] [
 tA 5])
 (.block 2
 l122_1))
 (.seq
 (rg [2] [
 tAF 67 3,
 tAO 2 67])
 .ret)))))
 modes:=[.lend]
 rets:=[⟨2,some (true,3)⟩]}

def b123_0:VC:=
 (.seq
 (.seq
 (rg [0,1,2,7,11] [
 mv 8 7,
 mv 9 0,
 tH 10 9,
 tD 11 8 10])
 (.cond (.t 11)
 .skip
 (.exit 0)))
 (.seq
 (.block 1
 (.seq
 (rg [0,1,2,7,21] [
 mv 14 0,
 mv 15 7,
 tW 16 14 15,
 ld 17 2 16,
 mv 18 1,
 mv 19 2,
 cl 20 36 [17,18,19],
 tF 21 20])
 (.cond (.t 21)
 (.seq
 (rg [6] [
 tC 6])
 .ret)
 .skip)))
 (rg [0,1,2,7] [
 mv 12 7,
 tB 13 12,
 sg 7 13])))
def l123_0:VC:=.loop b123_0
def v123 : VFun := {
 code:=
 (.seq
 (rg [0,1,2] [
 tC 6])
 (.seq
 (.seq
 (rg [0,1,2,7] [
 tA 7])
 (.block 0
 l123_0))
 (.seq
 (rg [6] [
 tQ 6])
 .ret)))
 modes:=[.lend,.lend,.lend]
 rets:=[⟨6,none⟩]}

def v124 : VFun := {
 code:=
 (.seq
 (rg [0] [
 tC 2])
 (.seq
 (rg [2] [
 mv 3 0,
 vo 4 (.call 36 [(.t 3),(ci 0),(ci 1000000)]),
 sg 2 4])
 .ret))
 modes:=[.lend]
 rets:=[⟨2,none⟩]}

def b125_0:VC:=
 (.seq
 (.seq
 (rg [0,3,10] [
 mv 7 3,
 mv 8 0,
 tH 9 8,
 tD 10 7 9])
 (.cond (.t 10)
 .skip
 (.exit 0)))
 (.seq
 (.block 1
 (.seq
 (rg [0,3,18] [
 mv 13 0,
 mv 14 3,
 tW 15 13 14,
 ld 16 2 15,
 tDU 17 150,
 tF 18 17])
 (.cond (.t 18)
 (.seq
 (rg [2] [
 tAI 2])
 .ret)
 .skip)))
 (rg [0,3] [
 mv 11 3,
 tB 12 11,
 sg 3 12])))
def l125_0:VC:=.loop b125_0
def v125 : VFun := {
 code:=
 (.seq
 (rg [0] [
 tA 2])
 (.seq
 (.seq
 (rg [0,6] [
 mv 4 0,
 tH 5 4,
 vo 6 (.bin false .gtr 3 (.t 5) (ci 12))])
 (.cond (.t 6)
 (.seq
 (rg [2] [
 tAM 2])
 .ret)
 .skip))
 (.seq
 (.seq
 (rg [0,3] [
 tA 3])
 (.block 0
 l125_0))
 (.seq
 (rg [2] [
 tA 2])
 .ret))))
 modes:=[.lend]
 rets:=[⟨2,none⟩]}

def v126 : VFun := {
 code:=
 (.seq
 (rg [0,1] [
 tA 4])
 (.seq
 (rg [4] [
 mv 5 0,
 mv 6 1,
 vo 7 (.lit 100 2 1 2 [(.val (.int .i64 0))] [(0,(.t 5)),(1,(.t 6))]),
 tEA 8 113,
 sg 4 8])
 .ret))
 modes:=[.lend,.lend]
 rets:=[⟨4,none⟩]}

def v127 : VFun := {
 code:=
 (.seq
 (rg [0,1] [
 tA 4])
 (.seq
 (rg [0,1,5] [
 mv 6 1,
 tB 7 6,
 sg 5 7])
 (.seq
 (.seq
 (rg [0,1,5,10] [
 mv 8 1,
 vo 9 (.bin false .rem 3 (.t 8) (ci 2)),
 vo 10 (.bin false .eql 3 (.t 9) (ci 1))])
 (.cond (.t 10)
 (rg [0,1,5] [
 mv 11 1,
 tCW 12 11,
 sg 5 12])
 .skip))
 (.seq
 (.seq
 (rg [0,1,5,16] [
 mv 13 5,
 mv 14 0,
 tH 15 14,
 vo 16 (.bin false .geq 3 (.t 13) (.t 15))])
 (.cond (.t 16)
 (rg [0,5] [
 mv 17 1,
 sg 5 17])
 .skip))
 (.seq
 (rg [4] [
 mv 18 0,
 mv 19 5,
 tW 20 18 19,
 ld 21 2 20,
 sg 4 21])
 .ret)))))
 modes:=[.lend,.lend]
 rets:=[⟨4,none⟩]}

def b128_0:VC:=
 (.seq
 (.seq
 (rg [0,3,4,8] [
 mv 5 4,
 mv 6 0,
 tCA 7 6,
 tD 8 5 7])
 (.cond (.t 8)
 .skip
 (.exit 0)))
 (.seq
 (.block 1
 (rg [0,3,4] [
 mv 11 3,
 vo 12 (.bin false .mul 2 (.t 11) (ci 33)),
 mv 13 0,
 mv 14 4,
 tDJ 15 148 5 1 13 14,
 ld 16 5 15,
 vo 17 (.conv 5 2 .i64 (.t 16)),
 tCO 18 12 17,
 vo 19 (.bin false .add 2 (.t 18) (ci 1)),
 vo 20 (.bin false .rem 2 (.t 19) (ci 2147483647)),
 sg 3 20]))
 (rg [0,3,4] [
 mv 9 4,
 tB 10 9,
 sg 4 10])))
def l128_0:VC:=.loop b128_0
def v128 : VFun := {
 code:=
 (.seq
 (rg [0] [
 tA 2])
 (.seq
 (rg [0,3] [
 vo 3 (.asg (ci 5381))])
 (.seq
 (.seq
 (rg [0,3,4] [
 tA 4])
 (.block 0
 l128_0))
 (.seq
 (rg [2] [
 mv 21 3,
 sg 2 21])
 .ret))))
 modes:=[.lend]
 rets:=[⟨2,none⟩]}

def b129_1:VC:=
 (.seq
 (.seq
 (rg [0,5,7,19,49,61,64,72,79,102] [
 mv 73 7,
 mv 74 0,
 tJ 75 74,
 tN 76 75,
 ld 77 96 76,
 tY 78 77,
 tD 79 73 78])
 (.cond (.t 79)
 .skip
 (.exit 2)))
 (.seq
 (.block 3
 (.region true [0,5,7,19,49,61,64,72,102] [
 mv 82 5,
 tE [0] 83 0,
 tBN [0] 84 83,
 tCS [0] 85 84,
 tCT [0] 86 85,
 tE [0,1,2,3,4] 87 7,
 tBY [0] 88 86 87,
 tDI [0] 89 102 0 0 1 88,
 tS0 [0] 90 89,
 wo [0] 91 (.call 152 [(.t 90)]),
 tX 92 82 91,
 tE [0,1,2,3,4,5,6,7,8,9,10] 93 0,
 tBN [0,1,2,3,4,5,6,7,8,9,10] 94 93,
 tCS [0,1,2,3,4,5,6,7,8,9,10] 95 94,
 tCT [0,1,2,3,4,5,6,7,8,9,10] 96 95,
 tE [0,1,2,3,4,5,6,7,8,9,10,11,12,13,14] 97 7,
 tBY [0,1,2,3,4,5,6,7,8,9,10] 98 96 97,
 tDI [0,1,2,3,4,5,6,7,8,9,10] 99 102 1 1 1 98,
 tBZ [0,1,2,3,4,5,6,7,8,9,10] 100 99,
 cl 101 153 [100],
 tX 102 92 101,
 sg 5 102]))
 (rg [0,5,7,19,49,61,64,72,102] [
 mv 80 7,
 tB 81 80,
 sg 7 81])))
def l129_1:VC:=.loop b129_1
def b129_0:VC:=
 (.seq
 (.seq
 (rg [0,1,5,6,19,26,49,61,64,72,102] [
 mv 20 6,
 mv 21 0,
 tJ 22 21,
 tK 23 22,
 ld 24 95 23,
 tV 25 24,
 tD 26 20 25])
 (.cond (.t 26)
 .skip
 (.exit 0)))
 (.seq
 (.block 1
 (.seq
 (.region true [0,1,5,6,19,49,61,64,72,102] [
 mv 29 5,
 tE [0] 30 0,
 tBN [0] 31 30,
 tAX [0] 32 31,
 tAY [0] 33 32,
 tE [0,1,2,3,4] 34 6,
 tBO [0] 35 33 34,
 tCN [0] 36 35,
 tS0 [0] 37 36,
 wo [0] 38 (.call 152 [(.t 37)]),
 tX 39 29 38,
 tE [0,1,2,3,4,5,6,7,8,9,10] 40 0,
 tBN [0,1,2,3,4,5,6,7,8,9,10] 41 40,
 tAX [0,1,2,3,4,5,6,7,8,9,10] 42 41,
 tAY [0,1,2,3,4,5,6,7,8,9,10] 43 42,
 tE [0,1,2,3,4,5,6,7,8,9,10,11,12,13,14] 44 6,
 tBO [0,1,2,3,4,5,6,7,8,9,10] 45 43 44,
 tDI [0,1,2,3,4,5,6,7,8,9,10] 46 130 1 1 1 45,
 tS0 [0,1,2,3,4,5,6,7,8,9,10] 47 46,
 cl 48 151 [47],
 tX 49 39 48,
 sg 5 49])
 (.seq
 (rg [0,1,5,6,19,49,50,61,64,72,102] [
 mv 50 1])
 (.cond (.t 50)
 (rg [0,1,5,6,19,49,61,64,72,102] [
 mv 51 5,
 mv 52 0,
 tJ 53 52,
 tK 54 53,
 ld 55 95 54,
 mv 56 6,
 tAA 57 55 56,
 tAK 58 57,
 ld 59 100 58,
 cl 60 153 [59],
 tX 61 51 60,
 sg 5 61])
 (rg [0,1,5,6,19,49,61,64,72,102] [
 mv 62 5,
 vo 63 (.lit 148 5 1 1 [(.val (.int .u8 0))] [(0,(.c (.int .u8 0)))]),
 tX 64 62 63,
 sg 5 64])))))
 (rg [0,1,5,6,19,49,61,64,72,102] [
 mv 27 6,
 tB 28 27,
 sg 6 28])))
def l129_0:VC:=.loop b129_0
def v129 : VFun := {
 code:=
 (.seq
 (rg [0,1] [
 tT 4])
 (.seq
 (.region true [0,1,5,19,49,61,64,72,102] [
 mv 8 0,
 tJ 9 8,
 tAJ 10 9,
 ld 11 2 10,
 cl 12 151 [11],
 tE [0,1,2,3,4] 13 0,
 tBN [0,1,2,3,4] 14 13,
 tAX [0,1,2,3,4] 15 14,
 tAY [0,1,2,3,4] 16 15,
 wo [0,1,2,3,4] 17 (.len false 95 (.t 16)),
 cl 18 151 [17],
 tX 19 12 18,
 sg 5 19])
 (.seq
 (.seq
 (rg [0,1,5,6,19,49,61,64,72,102] [
 tA 6])
 (.block 0
 l129_0))
 (.seq
 (rg [0,5,19,49,61,64,72,102] [
 mv 65 5,
 mv 66 0,
 tJ 67 66,
 tN 68 67,
 ld 69 96 68,
 tY 70 69,
 cl 71 151 [70],
 tX 72 65 71,
 sg 5 72])
 (.seq
 (.seq
 (rg [0,5,7,19,49,61,64,72,102] [
 tA 7])
 (.block 2
 l129_1))
 (.seq
 (rg [4,5,19,49,61,64,72,102] [
 mv 103 5,
 sg 4 103])
 .ret))))))
 modes:=[.lend,.lend]
 rets:=[⟨4,none⟩]}

def b130_0:VC:=
 (.seq
 (.seq
 (rg [0,3,4,7,11] [
 mv 8 4,
 mv 9 0,
 tCQ 10 9,
 tD 11 8 10])
 (.cond (.t 11)
 .skip
 (.exit 0)))
 (.seq
 (.block 1
 (rg [0,3,4,7] [
 mv 14 3,
 mv 15 4,
 mv 16 0,
 mv 17 4,
 tDJ 18 120 161 3 16 17,
 tDR 19 161 3 18,
 tDY 20 154,
 tAA 21 14 15,
 tBL 21 20]))
 (rg [0,3,4,7] [
 mv 12 4,
 tB 13 12,
 sg 4 13])))
def l130_0:VC:=.loop b130_0
def v130 : VFun := {
 code:=
 (.seq
 (rg [0] [
 tDQ 2 3])
 (.seq
 (rg [0,3,7] [
 mv 5 0,
 tCQ 6 5,
 vo 7 (.mk 95 130 3 40 [(.val (.int .i64 0)),(.val (.int .i64 0)),(.nl 1)] (.t 6) (.t 6)),
 sg 3 7])
 (.seq
 (.seq
 (rg [0,3,4,7] [
 tA 4])
 (.block 0
 l130_0))
 (.seq
 (rg [2,3,7] [
 mv 22 3,
 sg 2 22])
 .ret))))
 modes:=[.lend]
 rets:=[⟨2,none⟩]}

def b131_0:VC:=
 (.seq
 (.seq
 (rg [0,3,4,7,11] [
 mv 8 4,
 mv 9 0,
 tCR 10 9,
 tD 11 8 10])
 (.cond (.t 11)
 .skip
 (.exit 0)))
 (.seq
 (.block 1
 (rg [0,3,4,7] [
 mv 14 3,
 mv 15 4,
 mv 16 0,
 mv 17 4,
 tDJ 18 121 163 2 16 17,
 tDR 19 163 2 18,
 tDY 20 155,
 tAH 21 14 15,
 tBJ 21 20]))
 (rg [0,3,4,7] [
 mv 12 4,
 tB 13 12,
 sg 4 13])))
def l131_0:VC:=.loop b131_0
def v131 : VFun := {
 code:=
 (.seq
 (rg [0] [
 tDQ 2 2])
 (.seq
 (rg [0,3,7] [
 mv 5 0,
 tCR 6 5,
 vo 7 (.mk 96 102 2 32 [(.val (.int .i64 0)),(.nl 1)] (.t 6) (.t 6)),
 sg 3 7])
 (.seq
 (.seq
 (rg [0,3,4,7] [
 tA 4])
 (.block 0
 l131_0))
 (.seq
 (rg [2,3,7] [
 mv 22 3,
 sg 2 22])
 .ret))))
 modes:=[.lend]
 rets:=[⟨2,none⟩]}

def b132_1:VC:=
 (.seq
 (rg [1,2,3,30,31,32,33] [
 tD 33 32 31])
 (.seq
 (.cond (.t 33)
 .skip
 (.exit 2))
 (.seq
 (.block 3
 (.seq
 (rg [1,2,3,7,30,31,32] [
 tAH 34 30 32,
 tBG 35 34,
 tBI 7,
 tBJ 7 35])
 (.seq
 (rg [1,2,3,7,30,31,32] [
 tAU 36 7,
 ld 37 100 36,
 cl 38 156 [37],
 tAU 39 7,
 tCU 39 38])
 (rg [1,2,3,30,31,32] [
 tN 40 3,
 ld 41 96 40,
 tBG 42 7,
 vo 43 (.lit 96 102 2 1 [(.val (.int .i64 0)),(.nl 1)] [(0,(.t 42))]),
 tDX 44 96 102 2 32 41 43,
 tN 45 3,
 tDW 96 1 45 44]))))
 (rg [1,2,3,30,31,32] [
 tB 46 32,
 mv 32 46]))))
def l132_1:VC:=.loop b132_1
def b132_0:VC:=
 (.seq
 (rg [1,2,3,12,13,14,15] [
 tD 15 14 13])
 (.seq
 (.cond (.t 15)
 .skip
 (.exit 0))
 (.seq
 (.block 1
 (.seq
 (rg [1,2,3,5,12,13,14] [
 tAA 16 12 14,
 tAV 17 16,
 tBK 5,
 tBL 5 17])
 (.seq
 (rg [1,2,3,5,12,13,14] [
 tAK 18 5,
 ld 19 100 18,
 tDY 20 156,
 tAK 21 5,
 tCU 21 20])
 (rg [1,2,3,12,13,14] [
 tK 22 3,
 ld 23 95 22,
 tAV 24 5,
 tDE 25,
 tDX 26 95 130 3 40 23 25,
 tK 27 3,
 tCP 27 26]))))
 (rg [1,2,3,12,13,14] [
 tB 28 14,
 mv 14 28]))))
def l132_0:VC:=.loop b132_0
def v132 : VFun := {
 code:=
 (.seq
 (rg [1,2] [
 tAZ 1 0,
 tAN 2])
 (.seq
 (rg [1,2,3] [
 tAJ 8 1,
 ld 9 2 8,
 vo 10 (.build 98 [(.val (.int .i64 0)),(.nl 3),(.nl 2)] [(0,0,1,(.t 9))]),
 tAN 3,
 tAO 3 10])
 (.seq
 (.seq
 (rg [1,2,3,12,13,14] [
 tK 11 1,
 ld 12 95 11,
 tV 13 12,
 tO 14])
 (.block 0
 l132_0))
 (.seq
 (.seq
 (rg [1,2,3,30,31,32] [
 tN 29 1,
 ld 30 96 29,
 tY 31 30,
 tO 32])
 (.block 2
 l132_1))
 (.seq
 (rg [2] [
 tAF 47 3,
 tAO 2 47])
 .ret)))))
 modes:=[.lend]
 rets:=[⟨2,some (true,3)⟩]}

def v133 : VFun := {
 code:=
 (.seq
 (rg [0,1] [
 tC 4])
 (.seq
 (rg [4] [
 mv 5 0,
 mv 6 1,
 cl 7 157 [5,6],
 tCX 8 7,
 sg 4 8])
 .ret))
 modes:=[.lend,.lend]
 rets:=[⟨4,none⟩]}

def v134 : VFun := {
 code:=
 (.seq
 (rg [0] [
 tC 2])
 (.seq
 (rg [2] [
 mv 3 0,
 vo 4 (.call 41 [(.t 3),(ci 0),(ci 9999)]),
 tF 5 4,
 sg 2 5])
 .ret))
 modes:=[.lend]
 rets:=[⟨2,none⟩]}

def v135 : VFun := {
 code:=
 (.seq
 (rg [0,1] [
 tC 4])
 (.seq
 (rg [4] [
 mv 5 0,
 mv 6 1,
 cl 7 158 [5,6],
 tCX 8 7,
 sg 4 8])
 .ret))
 modes:=[.lend,.lend]
 rets:=[⟨4,none⟩]}

def v136 : VFun := {
 code:=
 (.seq
 (rg [1,2] [
 tDH 2 130 0,
 tC 3])
 (.seq
 (rg [3] [
 tAP 4 1,
 ld 5 2 4,
 tAP 6 2,
 ld 7 2 6,
 tCL 8 5 7,
 mv 9 8,
 tDS 10 130 1 1 1 1 9,
 tDT 11 2 1 10 9,
 tDS 12 130 1 1 1 2 9,
 tDT 13 2 1 12 9,
 og 14 (.bin false .eql 2 (.t 11) (.t 13)) 9 true,
 tAR 15 9 14,
 sg 3 15])
 .ret))
 modes:=[.lend,.lend]
 rets:=[⟨3,none⟩]}

def v137 : VFun := {
 code:=
 (.seq
 (rg [0] [
 tC 2])
 (.seq
 (rg [2] [
 mv 3 0,
 vo 4 (.call 41 [(.t 3),(ci 1),(ci 9)]),
 tF 5 4,
 mv 6 5,
 tDZ 7 0 6,
 og 8 (.call 41 [(.t 7),(ci 100),(ci 1099)]) 6 true,
 og 9 (.un .not (.t 8)) 6 true,
 tAR 10 6 9,
 sg 2 10])
 .ret))
 modes:=[.lend]
 rets:=[⟨2,none⟩]}

def v138 : VFun := {
 code:=
 (.seq
 (rg [0] [
 tA 2])
 (.seq
 (.seq
 (rg [4] [
 mv 3 0,
 vo 4 (.call 133 [(.t 3),(.f 159)])])
 (.cond (.t 4)
 (.seq
 (rg [2] [
 tAG 2])
 .ret)
 .skip))
 (.seq
 (rg [2] [
 tA 2])
 .ret)))
 modes:=[.lend]
 rets:=[⟨2,none⟩]}

def v139 : VFun := {
 code:=
 (.seq
 (rg [0,1] [
 tA 4])
 (.seq
 (.seq
 (rg [0,1,9] [
 mv 5 1,
 vo 6 (.bin false .xor 3 (.t 5) (ci 1)),
 mv 7 0,
 tH 8 7,
 tD 9 6 8])
 (.cond (.t 9)
 (.seq
 (rg [4] [
 mv 10 0,
 mv 11 1,
 vo 12 (.bin false .xor 3 (.t 11) (ci 1)),
 tW 13 10 12,
 ld 14 2 13,
 sg 4 14])
 .ret)
 .skip))
 (.seq
 (rg [4] [
 mv 15 0,
 mv 16 1,
 tW 17 15 16,
 ld 18 2 17,
 sg 4 18])
 .ret)))
 modes:=[.lend,.lend]
 rets:=[⟨4,none⟩]}

def b140_0:VC:=
 (.seq
 (rg [3,6,7,8,9] [
 tD 9 8 7])
 (.seq
 (.cond (.t 9)
 .skip
 (.exit 0))
 (.seq
 (.block 1
 (.seq
 (rg [3,5,6,7,8] [
 tDJ 10 148 5 1 6 8,
 ld 11 5 10,
 sg 5 11])
 (rg [3,6,7,8] [
 mv 12 3,
 vo 13 (.bin false .mul 2 (ci 33) (.t 12)),
 mv 14 5,
 vo 15 (.conv 5 2 .i64 (.t 14)),
 tCO 16 13 15,
 vo 17 (.bin false .add 2 (.t 16) (ci 1)),
 vo 18 (.bin false .rem 2 (.t 17) (ci 2147483647)),
 sg 3 18])))
 (rg [3,6,7,8] [
 tB 19 8,
 mv 8 19]))))
def l140_0:VC:=.loop b140_0
def v140 : VFun := {
 code:=
 (.seq
 (rg [0] [
 tA 2])
 (.seq
 (rg [0,3] [
 vo 3 (.asg (ci 5381))])
 (.seq
 (.seq
 (rg [3,6,7,8] [
 mv 6 0,
 tCA 7 6,
 tO 8])
 (.block 0
 l140_0))
 (.seq
 (rg [2] [
 mv 20 3,
 sg 2 20])
 .ret))))
 modes:=[.lend]
 rets:=[⟨2,none⟩]}

def b141_1:VC:=
 (.seq
 (rg [1,3,15,34,41,43,44,45,46,57] [
 tD 46 45 44])
 (.seq
 (.cond (.t 46)
 .skip
 (.exit 2))
 (.seq
 (.block 3
 (.seq
 (rg [1,3,7,15,34,41,43,44,45,57] [
 tAH 47 43 45,
 tBG 48 47,
 tBI 7,
 tBJ 7 48])
 (.region true [1,3,15,34,41,43,44,45,57] [
 mv 49 3,
 tDI [0] 50 102 0 0 1 7,
 tS0 [0] 51 50,
 wo [0] 52 (.call 162 [(.t 51)]),
 tDI [0,1,2,3] 53 102 1 1 1 7,
 tBZ [0,1,2,3] 54 53,
 wo [0] 55 (.call 163 [(.t 54)]),
 vo 56 (.lit 172 148 1 3 [(.nl 1)] [(0,(.t 49)),(1,(.t 52)),(2,(.t 55))]),
 cl 57 161 [56],
 sg 3 57])))
 (rg [1,3,15,34,41,43,44,45,57] [
 tB 58 45,
 mv 45 58]))))
def l141_1:VC:=.loop b141_1
def b141_0:VC:=
 (.seq
 (rg [1,3,15,17,18,19,20,34,41,57] [
 tD 20 19 18])
 (.seq
 (.cond (.t 20)
 .skip
 (.exit 0))
 (.seq
 (.block 1
 (.seq
 (rg [1,3,5,15,17,18,19,34,41,57] [
 tAA 21 17 19,
 tAV 22 21,
 tBK 5,
 tBL 5 22])
 (.region true [1,3,15,17,18,19,34,41,57] [
 mv 23 3,
 tCN [0] 24 5,
 tS0 [0] 25 24,
 wo [0] 26 (.call 162 [(.t 25)]),
 tDI [0,1,2,3] 27 130 1 1 1 5,
 tS0 [0,1,2,3] 28 27,
 wo [0] 29 (.call 160 [(.t 28)]),
 tDI [0,1,2,3,4,5,6] 30 130 2 2 1 5,
 tBZ [0,1,2,3,4,5,6] 31 30,
 wo [0] 32 (.call 163 [(.t 31)]),
 vo 33 (.lit 172 148 1 4 [(.nl 1)] [(0,(.t 23)),(1,(.t 26)),(2,(.t 29)),(3,(.t 32))]),
 cl 34 161 [33],
 sg 3 34])))
 (rg [1,3,15,17,18,19,34,41,57] [
 tB 35 19,
 mv 19 35]))))
def l141_0:VC:=.loop b141_0
def v141 : VFun := {
 code:=
 (.seq
 (rg [1] [
 tAZ 1 0,
 tT 2])
 (.seq
 (.region true [1,3,15,34,41,57] [
 tAJ 8 1,
 ld 9 2 8,
 cl 10 160 [9],
 tAX [0,1,2] 11 1,
 tAY [0,1,2] 12 11,
 wo [0,1,2] 13 (.len false 95 (.t 12)),
 cl 14 160 [13],
 tX 15 10 14,
 sg 3 15])
 (.seq
 (.seq
 (rg [1,3,15,17,18,19,34,41,57] [
 tK 16 1,
 ld 17 95 16,
 tV 18 17,
 tO 19])
 (.block 0
 l141_0))
 (.seq
 (rg [1,3,15,34,41,57] [
 mv 36 3,
 tN 37 1,
 ld 38 96 37,
 tY 39 38,
 cl 40 160 [39],
 tX 41 36 40,
 sg 3 41])
 (.seq
 (.seq
 (rg [1,3,15,34,41,43,44,45,57] [
 tN 42 1,
 ld 43 96 42,
 tY 44 43,
 tO 45])
 (.block 2
 l141_1))
 (.seq
 (rg [2,3,15,34,41,57] [
 mv 59 3,
 sg 2 59])
 .ret))))))
 modes:=[.lend]
 rets:=[⟨2,none⟩]}

def b142_0:VC:=
 (.seq
 (.seq
 (rg [0,1,5,14] [
 mv 11 5,
 mv 12 0,
 tV 13 12,
 tD 14 11 13])
 (.cond (.t 14)
 .skip
 (.exit 0)))
 (.seq
 (.block 1
 (.seq
 (.region true [0,1,5,26] [
 mv 17 0,
 tE [0] 18 5,
 tAA 19 17 18,
 tAV 20 19,
 tE [0,1,2,3] 21 1,
 tE [0,1,2,3,4] 22 5,
 tBO [0,1,2,3] 23 21 22,
 tDM [0,1,2,3] 24 130 3 23,
 tEG 25 164,
 tF 26 25])
 (.cond (.t 26)
 (.seq
 (rg [4] [
 tC 4])
 .ret)
 .skip)))
 (rg [0,1,5] [
 mv 15 5,
 tB 16 15,
 sg 5 16])))
def l142_0:VC:=.loop b142_0
def v142 : VFun := {
 code:=
 (.seq
 (rg [0,1] [
 tC 4])
 (.seq
 (.seq
 (rg [0,1,10] [
 mv 6 0,
 tV 7 6,
 mv 8 1,
 tV 9 8,
 tBB 10 7 9])
 (.cond (.t 10)
 (.seq
 (rg [4] [
 tC 4])
 .ret)
 .skip))
 (.seq
 (.seq
 (rg [0,1,5] [
 tA 5])
 (.block 0
 l142_0))
 (.seq
 (rg [4] [
 tQ 4])
 .ret))))
 modes:=[.lend,.lend]
 rets:=[⟨4,none⟩]}

def b143_0:VC:=
 (.seq
 (.seq
 (rg [0,1,5,14] [
 mv 11 5,
 mv 12 0,
 tY 13 12,
 tD 14 11 13])
 (.cond (.t 14)
 .skip
 (.exit 0)))
 (.seq
 (.block 1
 (.seq
 (.region true [0,1,5,26] [
 mv 17 0,
 tE [0] 18 5,
 tAH 19 17 18,
 tBG 20 19,
 tE [0,1,2,3] 21 1,
 tE [0,1,2,3,4] 22 5,
 tBY [0,1,2,3] 23 21 22,
 tDM [0,1,2,3] 24 102 2 23,
 tEG 25 165,
 tF 26 25])
 (.cond (.t 26)
 (.seq
 (rg [4] [
 tC 4])
 .ret)
 .skip)))
 (rg [0,1,5] [
 mv 15 5,
 tB 16 15,
 sg 5 16])))
def l143_0:VC:=.loop b143_0
def v143 : VFun := {
 code:=
 (.seq
 (rg [0,1] [
 tC 4])
 (.seq
 (.seq
 (rg [0,1,10] [
 mv 6 0,
 tY 7 6,
 mv 8 1,
 tY 9 8,
 tBB 10 7 9])
 (.cond (.t 10)
 (.seq
 (rg [4] [
 tC 4])
 .ret)
 .skip))
 (.seq
 (.seq
 (rg [0,1,5] [
 tA 5])
 (.block 0
 l143_0))
 (.seq
 (rg [4] [
 tQ 4])
 .ret))))
 modes:=[.lend,.lend]
 rets:=[⟨4,none⟩]}

def b144_0:VC:=
 (.seq
 (.seq
 (rg [0,1,5,9] [
 mv 6 5,
 mv 7 0,
 tH 8 7,
 tD 9 6 8])
 (.cond (.t 9)
 .skip
 (.exit 0)))
 (.seq
 (.block 1
 (.seq
 (.seq
 (rg [0,1,5,17] [
 mv 12 0,
 mv 13 5,
 tW 14 12 13,
 ld 15 2 14,
 mv 16 1,
 tM 17 15 16])
 (.cond (.t 17)
 (.seq
 (rg [4] [
 tG 4])
 .ret)
 .skip))
 (rg [0,1,5] [
 mv 18 1,
 tB 19 18,
 sg 1 19])))
 (rg [0,1,5] [
 mv 10 5,
 tB 11 10,
 sg 5 11])))
def l144_0:VC:=.loop b144_0
def v144 : VFun := {
 code:=
 (.seq
 (rg [0,1] [
 tA 4])
 (.seq
 (.seq
 (rg [0,1,5] [
 tA 5])
 (.block 0
 l144_0))
 (.seq
 (rg [4] [
 mv 20 1,
 sg 4 20])
 .ret)))
 modes:=[.lend,.lend]
 rets:=[⟨4,none⟩]}

def v145 : VFun := {
 code:=
 (.seq
 (rg [0] [
 tT 2])
 (.seq
 (rg [2,14] [
 mv 3 0,
 vo 4 (.bin false .shr 2 (.t 3) (.c (.int .u64 24))),
 tAQ 5 4,
 mv 6 0,
 vo 7 (.bin false .shr 2 (.t 6) (.c (.int .u64 16))),
 tAQ 8 7,
 mv 9 0,
 tCY 10 9,
 tAQ 11 10,
 mv 12 0,
 tAQ 13 12,
 vo 14 (.lit 148 5 1 4 [(.val (.int .u8 0))] [(0,(.t 5)),(1,(.t 8)),(2,(.t 11)),(3,(.t 13))]),
 sg 2 14])
 .ret))
 modes:=[.lend]
 rets:=[⟨2,none⟩]}

def b146_0:VC:=
 (.seq
 (.seq
 (rg [0,5,6,8,12] [
 mv 11 6,
 tCX 12 11])
 (.cond (.t 12)
 .skip
 (.exit 0)))
 (.seq
 (.block 1
 (.seq
 (rg [0,5,6,8] [
 mv 15 5,
 mv 16 6,
 mv 17 0,
 tAQ 18 17,
 tDJ 19 148 5 1 15 16,
 tDW 5 1 19 18])
 (rg [0,5,6,8] [
 mv 20 0,
 tCY 21 20,
 sg 0 21])))
 (rg [0,5,6,8] [
 mv 13 6,
 tCW 14 13,
 sg 6 14])))
def l146_0:VC:=.loop b146_0
def v146 : VFun := {
 code:=
 (.seq
 (rg [0,1] [
 tT 4])
 (.seq
 (rg [0,1,5,8] [
 mv 7 1,
 vo 8 (.mk 148 5 1 1 [(.val (.int .u8 0))] (.t 7) (.t 7)),
 sg 5 8])
 (.seq
 (.seq
 (rg [0,5,6,8] [
 mv 9 1,
 tCW 10 9,
 sg 6 10])
 (.block 0
 l146_0))
 (.seq
 (rg [4,5,8] [
 mv 22 5,
 sg 4 22])
 .ret))))
 modes:=[.lend,.lend]
 rets:=[⟨4,none⟩]}

def v147 : VFun := {
 code:=
 (.seq
 (rg [1,2] [
 tDH 2 161 0,
 tA 4])
 (.seq
 (rg [1] [
 tDG 5 161 2 2 1 2,
 ld 6 100 5,
 mv 7 1,
 tDP 8 166,
 sg 1 8])
 (.seq
 (.seq
 (rg [1,10] [
 mv 9 1,
 tI0 10 9])
 (.cond (.t 10)
 (.seq
 (rg [4] [
 tG 4])
 .ret)
 .skip))
 (.seq
 (rg [4] [
 mv 11 1,
 sg 4 11])
 .ret))))
 modes:=[.lend,.lend]
 rets:=[⟨4,none⟩]}

def v148 : VFun := {
 code:=
 (.seq
 (rg [1,2] [
 tDH 2 163 0,
 tA 4])
 (.seq
 (rg [1] [
 tDG 5 163 1 1 1 2,
 ld 6 100 5,
 mv 7 1,
 tDP 8 166,
 sg 1 8])
 (.seq
 (.seq
 (rg [1,10] [
 mv 9 1,
 tI0 10 9])
 (.cond (.t 10)
 (.seq
 (rg [4] [
 tG 4])
 .ret)
 .skip))
 (.seq
 (rg [4] [
 mv 11 1,
 sg 4 11])
 .ret))))
 modes:=[.lend,.lend]
 rets:=[⟨4,none⟩]}

def v149 : VFun := {
 code:=
 (.seq
 (rg [0] [
 tT 2])
 (.seq
 (rg [2,5] [
 tBX 3,
 mv 4 0,
 tBW 5 3 4,
 sg 2 5])
 .ret))
 modes:=[.lend]
 rets:=[⟨2,none⟩]}

def v150 : VFun := {
 code:=
 (.seq
 (rg [0] [
 tC 2])
 (.seq
 (rg [2] [
 mv 3 0,
 vo 4 (.call 36 [(.t 3),(ci 1),(ci 9)]),
 mv 5 4,
 tDO 6 0 5,
 og 7 (.call 36 [(.t 6),(ci 100),(ci 1099)]) 5 false,
 tAB 8 5 7,
 sg 2 8])
 .ret))
 modes:=[.lend]
 rets:=[⟨2,none⟩]}

def v151 : VFun := {
 code:=
 (.seq
 (rg [0] [
 tT 2])
 (.seq
 (.seq
 (rg [0,4] [
 mv 3 0,
 vo 4 (.bin false .lss 2 (.t 3) (ci 253))])
 (.cond (.t 4)
 (.seq
 (rg [2,7,14] [
 mv 5 0,
 tAQ 6 5,
 tDF 7,
 sg 2 7])
 .ret)
 .skip))
 (.seq
 (rg [2,7,14] [
 mv 8 0,
 vo 9 (.bin false .rem 2 (.t 8) (ci 256)),
 tAQ 10 9,
 mv 11 0,
 vo 12 (.bin false .quo 2 (.t 11) (ci 256)),
 tAQ 13 12,
 vo 14 (.lit 148 5 1 3 [(.val (.int .u8 0))] [(0,(.c (.int .u8 253))),(1,(.t 10)),(2,(.t 13))]),
 sg 2 14])
 .ret)))
 modes:=[.lend]
 rets:=[⟨2,none⟩]}

def v152 : VFun := {
 code:=
 (.seq
 (rg [0] [
 tT 2])
 (.seq
 (rg [2,9] [
 mv 3 0,
 vo 4 (.bin false .rem 2 (.t 3) (ci 65536)),
 tED 5 151,
 mv 6 0,
 vo 7 (.bin false .quo 2 (.t 6) (ci 65536)),
 tEA 8 151,
 tX 9 5 8,
 sg 2 9])
 .ret))
 modes:=[.lend]
 rets:=[⟨2,none⟩]}

def b153_0:VC:=
 (.seq
 (.seq
 (rg [0,3,4,7,11,20] [
 mv 8 4,
 mv 9 0,
 tH 10 9,
 tD 11 8 10])
 (.cond (.t 11)
 .skip
 (.exit 0)))
 (.seq
 (.block 1
 (rg [0,3,4,7,20] [
 mv 14 3,
 mv 15 0,
 mv 16 4,
 tW 17 15 16,
 ld 18 2 17,
 cl 19 151 [18],
 tX 20 14 19,
 sg 3 20]))
 (rg [0,3,4,7,20] [
 mv 12 4,
 tB 13 12,
 sg 4 13])))
def l153_0:VC:=.loop b153_0
def v153 : VFun := {
 code:=
 (.seq
 (rg [0] [
 tT 2])
 (.seq
 (rg [0,3,7,20] [
 mv 5 0,
 tH 6 5,
 cl 7 151 [6],
 sg 3 7])
 (.seq
 (.seq
 (rg [0,3,4,7,20] [
 tA 4])
 (.block 0
 l153_0))
 (.seq
 (rg [2,3,7,20] [
 mv 21 3,
 sg 2 21])
 .ret))))
 modes:=[.lend]
 rets:=[⟨2,none⟩]}

def v154 : VFun := {
 code:=
 (.seq
 (rg [1,2] [
 tDH 1 161 0,
 tBK 2])
 (.seq
 (rg [1,2,3] [
 tBK 3])
 (.seq
 (rg [1,2,3] [
 tDG 4 161 0 0 1 1,
 ld 5 2 4,
 tAP 6 3,
 tP 6 5])
 (.seq
 (rg [1,2,3] [
 tDG 7 161 1 1 1 1,
 ld 8 2 7,
 tBM 9 3,
 tP 9 8])
 (.seq
 (rg [2,3] [
 tDG 10 161 2 2 1 1,
 ld 11 100 10,
 cl 12 167 [11],
 tAK 13 3,
 tCU 13 12])
 (.seq
 (rg [2] [
 tAV 14 3,
 tBL 2 14])
 .ret))))))
 modes:=[.lend]
 rets:=[⟨2,some (true,3)⟩]}

def v155 : VFun := {
 code:=
 (.seq
 (rg [1,2] [
 tDH 1 163 0,
 tBI 2])
 (.seq
 (rg [1,2,3] [
 tBI 3])
 (.seq
 (rg [1,2,3] [
 tDG 4 163 0 0 1 1,
 ld 5 2 4,
 tAT 6 3,
 tP 6 5])
 (.seq
 (rg [2,3] [
 tDG 7 163 1 1 1 1,
 ld 8 100 7,
 tEB 9 167,
 tAU 10 3,
 tCU 10 9])
 (.seq
 (rg [2] [
 tBG 11 3,
 tBJ 2 11])
 .ret)))))
 modes:=[.lend]
 rets:=[⟨2,some (true,2)⟩]}

def b157_0:VC:=
 (.seq
 (rg [0,1,7,8,9] [
 tD 9 8 7])
 (.seq
 (.cond (.t 9)
 .skip
 (.exit 0))
 (.seq
 (.block 1
 (.seq
 (rg [0,1,5,7,8] [
 mv 10 8,
 sg 5 10])
 (.seq
 (rg [0,1,5,7,8,16] [
 mv 11 1,
 mv 12 0,
 mv 13 5,
 tW 14 12 13,
 ld 15 2 14,
 vo 16 (.callv (.t 11) [(.t 15)])])
 (.cond (.t 16)
 (.seq
 (rg [4] [
 mv 17 5,
 sg 4 17])
 .ret)
 .skip))))
 (rg [0,1,7,8] [
 tB 18 8,
 mv 8 18]))))
def l157_0:VC:=.loop b157_0
def v157 : VFun := {
 code:=
 (.seq
 (rg [0,1] [
 tA 4])
 (.seq
 (.seq
 (rg [0,1,7,8] [
 mv 6 0,
 tH 7 6,
 tO 8])
 (.block 0
 l157_0))
 (.seq
 (rg [4] [
 tG 4])
 .ret)))
 modes:=[.lend,.lend]
 rets:=[⟨4,none⟩]}

def b158_0:VC:=
 (.seq
 (rg [0,1,7,8,9] [
 tD 9 8 7])
 (.seq
 (.cond (.t 9)
 .skip
 (.exit 0))
 (.seq
 (.block 1
 (.seq
 (rg [0,1,5,7,8] [
 mv 10 8,
 sg 5 10])
 (.seq
 (rg [0,1,5,7,8,16] [
 mv 11 1,
 mv 12 0,
 mv 13 5,
 tAA 14 12 13,
 tAV 15 14,
 vo 16 (.callv (.t 11) [(.t 15)])])
 (.cond (.t 16)
 (.seq
 (rg [4] [
 mv 17 5,
 sg 4 17])
 .ret)
 .skip))))
 (rg [0,1,7,8] [
 tB 18 8,
 mv 8 18]))))
def l158_0:VC:=.loop b158_0
def v158 : VFun := {
 code:=
 (.seq
 (rg [0,1] [
 tA 4])
 (.seq
 (.seq
 (rg [0,1,7,8] [
 mv 6 0,
 tV 7 6,
 tO 8])
 (.block 0
 l158_0))
 (.seq
 (rg [4] [
 tG 4])
 .ret)))
 modes:=[.lend,.lend]
 rets:=[⟨4,none⟩]}

def v159 : VFun := {
 code:=
 (.seq
 (rg [0] [
 tC 2])
 (.seq
 (rg [2] [
 mv 3 0,
 cl 4 74 [3],
 tF 5 4,
 sg 2 5])
 .ret))
 modes:=[.lend]
 rets:=[⟨2,none⟩]}

def v160 : VFun := {
 code:=
 (.seq
 (rg [0] [
 tT 2])
 (.seq
 (.seq
 (rg [0,4] [
 mv 3 0,
 vo 4 (.bin false .lss 2 (.t 3) (ci 253))])
 (.cond (.t 4)
 (.seq
 (rg [2,7,13] [
 mv 5 0,
 tAQ 6 5,
 tDF 7,
 sg 2 7])
 .ret)
 .skip))
 (.seq
 (rg [2,7,13] [
 mv 8 0,
 tAQ 9 8,
 mv 10 0,
 tCY 11 10,
 tAQ 12 11,
 vo 13 (.lit 148 5 1 3 [(.val (.int .u8 0))] [(0,(.c (.int .u8 253))),(1,(.t 9)),(2,(.t 12))]),
 sg 2 13])
 .ret)))
 modes:=[.lend]
 rets:=[⟨2,none⟩]}

def b161_1:VC:=
 (.seq
 (rg [6,24,25,26,27,28,33] [
 tD 28 27 26])
 (.seq
 (.cond (.t 28)
 .skip
 (.exit 2))
 (.seq
 (.block 3
 (.seq
 (rg [6,8,24,25,26,27,33] [
 tDJ 29 172 148 1 25 27,
 ld 30 148 29,
 sg 8 30])
 (rg [6,24,25,26,27,33] [
 mv 31 6,
 mv 32 8,
 tX 33 31 32,
 sg 6 33])))
 (rg [6,24,25,26,27,33] [
 tB 34 27,
 mv 27 34]))))
def l161_1:VC:=.loop b161_1
def b161_0:VC:=
 (.seq
 (rg [0,3,9,10,11,12] [
 tD 12 11 10])
 (.seq
 (.cond (.t 12)
 .skip
 (.exit 0))
 (.seq
 (.block 1
 (.seq
 (rg [0,3,5,9,10,11] [
 tDJ 13 172 148 1 9 11,
 ld 14 148 13,
 sg 5 14])
 (.seq
 (rg [0,3,9,10,11] [
 mv 15 3,
 mv 16 5,
 tCA 17 16,
 vo 18 (.bin false .add 3 (.t 15) (.t 17)),
 sg 3 18])
 (.seq
 (rg [0,3,9,10,11,20] [
 mv 19 3,
 tI0 20 19])
 (.cond (.t 20)
 .any
 .skip)))))
 (rg [0,3,9,10,11] [
 tB 22 11,
 mv 11 22]))))
def l161_0:VC:=.loop b161_0
def v161 : VFun := {
 code:=
 (.seq
 (rg [0] [
 tT 2])
 (.seq
 (rg [0,3] [
 tA 3])
 (.seq
 (.seq
 (rg [0,3,9,10,11] [
 mv 9 0,
 vo 10 (.len false 172 (.t 9)),
 tO 11])
 (.block 0
 l161_0))
 (.seq
 (rg [0,6,24,33] [
 mv 23 3,
 vo 24 (.call 168 [(.n 1),(.t 23)]),
 sg 6 24])
 (.seq
 (.seq
 (rg [6,24,25,26,27,33] [
 mv 25 0,
 vo 26 (.len false 172 (.t 25)),
 tO 27])
 (.block 2
 l161_1))
 (.seq
 (rg [2,6,24,33] [
 mv 35 6,
 sg 2 35])
 .ret))))))
 modes:=[.lend]
 rets:=[⟨2,none⟩]}

def v162 : VFun := {
 code:=
 (.seq
 (rg [0] [
 tT 2])
 (.seq
 (rg [2,9] [
 mv 3 0,
 vo 4 (.bin false .rem 2 (.t 3) (ci 65536)),
 tED 5 160,
 mv 6 0,
 vo 7 (.bin false .quo 2 (.t 6) (ci 65536)),
 tEA 8 160,
 tX 9 5 8,
 sg 2 9])
 .ret))
 modes:=[.lend]
 rets:=[⟨2,none⟩]}

def b163_0:VC:=
 (.seq
 (rg [3,8,9,10,11,12,18] [
 tD 12 11 10])
 (.seq
 (.cond (.t 12)
 .skip
 (.exit 0))
 (.seq
 (.block 1
 (.seq
 (rg [3,5,8,9,10,11,18] [
 tW 13 9 11,
 ld 14 2 13,
 sg 5 14])
 (rg [3,8,9,10,11,18] [
 mv 15 3,
 mv 16 5,
 tDU 17 160,
 tX 18 15 17,
 sg 3 18])))
 (rg [3,8,9,10,11,18] [
 tB 19 11,
 mv 11 19]))))
def l163_0:VC:=.loop b163_0
def v163 : VFun := {
 code:=
 (.seq
 (rg [0] [
 tT 2])
 (.seq
 (rg [0,3,8,18] [
 mv 6 0,
 tH 7 6,
 tEA 8 160,
 sg 3 8])
 (.seq
 (.seq
 (rg [3,8,9,10,11,18] [
 mv 9 0,
 tH 10 9,
 tO 11])
 (.block 0
 l163_0))
 (.seq
 (rg [2,3,8,18] [
 mv 20 3,
 sg 2 20])
 .ret))))
 modes:=[.lend]
 rets:=[⟨2,none⟩]}

def v164 : VFun := {
 code:=
 (.seq
 (rg [2,3] [
 tDH 2 130 0,
 tDH 3 130 1,
 tC 4])
 (.seq
 (.seq
 (rg [2,3,9] [
 tAP 5 2,
 ld 6 2 5,
 tAP 7 3,
 ld 8 2 7,
 tM 9 6 8])
 (.cond (.t 9)
 (.seq
 (rg [4] [
 tC 4])
 .ret)
 .skip))
 (.seq
 (.seq
 (rg [2,3,14] [
 tBM 10 2,
 ld 11 2 10,
 tBM 12 3,
 ld 13 2 12,
 tM 14 11 13])
 (.cond (.t 14)
 (.seq
 (rg [4] [
 tC 4])
 .ret)
 .skip))
 (.seq
 (.seq
 (rg [20] [
 tAK 15 2,
 ld 16 100 15,
 tAK 17 3,
 ld 18 100 17,
 cl 19 169 [16,18],
 tF 20 19])
 (.cond (.t 20)
 (.seq
 (rg [4] [
 tC 4])
 .ret)
 .skip))
 (.seq
 (rg [4] [
 tQ 4])
 .ret)))))
 modes:=[.lend,.lend]
 rets:=[⟨4,none⟩]}

def v165 : VFun := {
 code:=
 (.seq
 (rg [2,3] [
 tDH 2 102 0,
 tDH 3 102 1,
 tC 4])
 (.seq
 (.seq
 (rg [2,3,9] [
 tAT 5 2,
 ld 6 2 5,
 tAT 7 3,
 ld 8 2 7,
 tM 9 6 8])
 (.cond (.t 9)
 (.seq
 (rg [4] [
 tC 4])
 .ret)
 .skip))
 (.seq
 (.seq
 (rg [15] [
 tAU 10 2,
 ld 11 100 10,
 tAU 12 3,
 ld 13 100 12,
 tEE 14 169,
 tF 15 14])
 (.cond (.t 15)
 (.seq
 (rg [4] [
 tC 4])
 .ret)
 .skip))
 (.seq
 (rg [4] [
 tQ 4])
 .ret))))
 modes:=[.lend,.lend]
 rets:=[⟨4,none⟩]}

def v166 : VFun := {
 code:=
 (.seq
 (rg [0,1] [
 tA 4])
 (.seq
 (rg [1] [
 mv 5 1,
 mv 6 0,
 tH 7 6,
 tBD 8 5 7,
 sg 1 8])
 (.seq
 (.seq
 (rg [1,10] [
 mv 9 1,
 tI0 10 9])
 (.cond (.t 10)
 (.seq
 (rg [4] [
 tG 4])
 .ret)
 .skip))
 (.seq
 (rg [4] [
 mv 11 1,
 sg 4 11])
 .ret))))
 modes:=[.lend,.lend]
 rets:=[⟨4,none⟩]}

def b167_0:VC:=
 (.seq
 (.seq
 (rg [0,3,4,7,11] [
 mv 8 4,
 mv 9 0,
 tH 10 9,
 tD 11 8 10])
 (.cond (.t 11)
 .skip
 (.exit 0)))
 (.seq
 (.block 1
 (rg [0,3,4,7] [
 mv 14 3,
 mv 15 4,
 mv 16 0,
 mv 17 4,
 tW 18 16 17,
 ld 19 2 18,
 tW 20 14 15,
 tP 20 19]))
 (rg [0,3,4,7] [
 mv 12 4,
 tB 13 12,
 sg 4 13])))
def l167_0:VC:=.loop b167_0
def v167 : VFun := {
 code:=
 (.seq
 (rg [0] [
 tT 2])
 (.seq
 (rg [0,3,7] [
 mv 5 0,
 tH 6 5,
 vo 7 (.mk 100 2 1 8 [(.val (.int .i64 0))] (.t 6) (.t 6)),
 sg 3 7])
 (.seq
 (.seq
 (rg [0,3,4,7] [
 tA 4])
 (.block 0
 l167_0))
 (.seq
 (rg [2,3,7] [
 mv 21 3,
 sg 2 21])
 .ret))))
 modes:=[.lend]
 rets:=[⟨2,none⟩]}

def v168 : VFun := {
 code:=
 (.seq
 (rg [0,1,25] [
 tT 4])
 (.seq
 (.seq
 (rg [0,1,6,25] [
 mv 5 1,
 tI0 6 5])
 (.cond (.t 6)
 .any
 .skip))
 (.seq
 (.seq
 (rg [0,1,25] [
 mv 8 1,
 mv 9 0,
 vo 10 (.capn 148 (.t 9)),
 mv 11 0,
 tCA 12 11,
 tBD 13 10 12,
 tBD 14 8 13,
 sg 1 14])
 (.seq
 (rg [0,1,16,25] [
 mv 15 1,
 tCE 16 15])
 (.cond (.t 16)
 (rg [0,25] [
 mv 17 0,
 mv 18 0,
 vo 19 (.capn 148 (.t 18)),
 vo 20 (.cut 148 (some 5) 1 (.t 17) none (some (.t 19))),
 mv 21 1,
 vo 22 (.appn 148 5 1 1 [(.val (.int .u8 0))] (.t 20) (.t 21)),
 mv 23 0,
 tCA 24 23,
 vo 25 (.trunc 148 5 1 (.t 22) (.t 24)),
 sg 0 25])
 .skip)))
 (.seq
 (rg [0,4,25] [
 mv 26 0,
 sg 4 26])
 .ret))))
 modes:=[.nl,.lend]
 rets:=[⟨4,none⟩]}

def b169_0:VC:=
 (.seq
 (.seq
 (rg [0,1,5,14] [
 mv 11 5,
 mv 12 0,
 tH 13 12,
 tD 14 11 13])
 (.cond (.t 14)
 .skip
 (.exit 0)))
 (.seq
 (.block 1
 (.seq
 (.region true [0,1,5,25] [
 mv 17 0,
 tE [0] 18 5,
 tW 19 17 18,
 ld 20 2 19,
 tE [0,1,2,3] 21 1,
 tE [0,1,2,3,4] 22 5,
 tBV [0,1,2,3] 23 21 22,
 tS0 [0,1,2,3] 24 23,
 tM 25 20 24])
 (.cond (.t 25)
 (.seq
 (rg [4] [
 tC 4])
 .ret)
 .skip)))
 (rg [0,1,5] [
 mv 15 5,
 tB 16 15,
 sg 5 16])))
def l169_0:VC:=.loop b169_0
def v169 : VFun := {
 code:=
 (.seq
 (rg [0,1] [
 tC 4])
 (.seq
 (.seq
 (rg [0,1,10] [
 mv 6 0,
 tH 7 6,
 mv 8 1,
 tH 9 8,
 tBB 10 7 9])
 (.cond (.t 10)
 (.seq
 (rg [4] [
 tC 4])
 .ret)
 .skip))
 (.seq
 (.seq
 (rg [0,1,5] [
 tA 5])
 (.block 0
 l169_0))
 (.seq
 (rg [4] [
 tQ 4])
 .ret))))
 modes:=[.lend,.lend]
 rets:=[⟨4,none⟩]}

def tab:List (Nat × VFun):=[(4,v4),(6,v6),(8,v8),(11,v11),(12,v12),(15,v15),(16,v16),(17,v17),(18,v18),(19,v19),(20,v20),(21,v21),(22,v22),(23,v23),(34,v34),(35,v35),(36,v36),(38,v38),(39,v39),(40,v40),(41,v41),(43,v43),(44,v44),(45,v45),(47,v47),(48,v48),(49,v49),(50,v50),(51,v51),(52,v52),(63,v63),(64,v64),(65,v65),(66,v66),(67,v67),(68,v68),(69,v69),(70,v70),(71,v71),(72,v72),(73,v73),(74,v74),(75,v75),(76,v76),(77,v77),(78,v78),(79,v79),(80,v80),(81,v81),(82,v82),(83,v83),(84,v84),(94,v94),(95,v95),(96,v96),(97,v97),(98,v98),(99,v99),(100,v100),(101,v101),(102,v102),(103,v103),(104,v104),(105,v105),(106,v106),(107,v107),(108,v108),(109,v109),(110,v110),(111,v111),(112,v112),(113,v113),(118,v118),(120,v120),(121,v121),(122,v122),(123,v123),(124,v124),(125,v125),(126,v126),(127,v127),(128,v128),(129,v129),(130,v130),(131,v131),(132,v132),(133,v133),(134,v134),(135,v135),(136,v136),(137,v137),(138,v138),(139,v139),(140,v140),(141,v141),(142,v142),(143,v143),(144,v144),(145,v145),(146,v146),(147,v147),(148,v148),(149,v149),(150,v150),(151,v151),(152,v152),(153,v153),(154,v154),(155,v155),(157,v157),(158,v158),(159,v159),(160,v160),(161,v161),(162,v162),(163,v163),(164,v164),(165,v165),(166,v166),(167,v167),(168,v168),(169,v169)]
def F (f:FuncId):Option VFun:=getA none (tab.map fun x=>(x.1,some x.2)) f
theorem tab_ok:tab.all (fun x=>matchFun Tryz.prog x.1 x.2)=true:=by kernel_rfl
theorem F_mem {f:FuncId} {fn:VFun}:∀ {l:List (Nat × VFun)},getA none (l.map fun x=>(x.1,some x.2)) f=some fn→(f,fn)∈l
  |[],h=>by simp[getA] at h
  |(k,v)::l,h=>by
    simp only[List.map_cons,getA] at h
    split at h
    · rename_i e
      injection h with h
      subst e; subst h
      exact List.mem_cons_self ..
    · exact List.mem_cons_of_mem _ (F_mem h)
theorem F_ok (f:FuncId) (fn:VFun) (h:F f=some fn):matchFun Tryz.prog f fn=true:=List.all_eq_true.1 tab_ok _ (F_mem h)
end Go.Proofs.YtmdocdnidilaiaaGreat.PutJob
