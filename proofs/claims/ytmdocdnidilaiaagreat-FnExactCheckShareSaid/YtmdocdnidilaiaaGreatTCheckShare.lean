/- V's text of the functions that this law reaches. -/
import Derived.Test.YtmdocdnidilaiaaGreatVCode
import Derived.Test.YtmdocdnidilaiaaGreatRows
import Derived.KernelRfl
namespace Go.Proofs.YtmdocdnidilaiaaGreat.CheckShare
open Go Go.Proofs.YtmdocdnidilaiaaGreat.V
set_option maxRecDepth 20000
def vo (d:Nat) (x:VOp):VO:=⟨some d,x,none,[]⟩
def wo (l:List Nat) (d:Nat) (x:VOp):VO:=⟨some d,x,none,l⟩
def vn (x:VOp):VO:=⟨none,x,none,[]⟩
def mv (d x:Nat):VO:=vo d (.mov (.t x))
def ld (d t x:Nat):VO:=vo d (.load t false 1 (.t x))
def sg (d x:Nat):VO:=vo d (.asg (.t x))
def og (d:Nat) (x:VOp) (g:Nat) (b:Bool):VO:=⟨some d,x,some (g,b),[]⟩
def ci (x:Int):VX:=.c (.int .i64 x)
def rg (k:List Nat) (o:List VO):VC:=.region false k o
def cl (d f:Nat) (l:List Nat):VO:=vo d (.call f (l.map .t))
def tA (a:Nat):VO:=vo a (.asg (ci 0))
def tB (a b:Nat):VO:=vo a (.bin false .add 3 (.t b) (ci 1))
def tC (a:Nat):VO:=vo a (.asg (.c (.bool false)))
def tD (a b c:Nat):VO:=vo a (.bin false .lss 3 (.t b) (.t c))
def tE (a:List Nat) (b c:Nat):VO:=wo a b (.mov (.t c))
def tF (a b:Nat):VO:=vo a (.un .not (.t b))
def tG (a:Nat):VO:=vo a (.asg (ci ((-1))))
def tH (a b:Nat):VO:=vo a (.bin false .lss 3 (.t b) (ci 0))
def tJ (a b:Nat):VO:=vo a (.len false 100 (.t b))
def tK (a b:Nat):VO:=vn (.store 2 1 (.t a) (.t b))
def tL (a:List Nat) (b c:Nat):VO:=wo a b (.load 2 false 1 (.t c))
def tM (a b:Nat):VO:=vo a (.nilc (.t b))
def tN (a b:Nat):VO:=vn (.store 60 8 (.t a) (.t b))
def tO (a b:Nat):VO:=vo a (.fa 30 4 4 1 (.t b))
def tP (a b c:Nat):VO:=vo a (.bin false .neq 2 (.t b) (.t c))
def tQ (a b:Nat):VO:=vo a (.fa 98 1 1 1 (.t b))
def tR (a b:Nat):VO:=vo a (.fa 98 2 2 1 (.t b))
def tT (a:Nat):VO:=vo a (.mov (ci 0))
def tU (a b c:Nat):VO:=vo a (.pick (.t b) (.c (.bool true)) (.t c))
def tV (a:Nat):VO:=vo a (.asg (.c (.bool true)))
def tW (a b:Nat):VO:=vo a (.bin false .neq 2 (.t b) (ci 0))
def tX (a b:Nat):VO:=vo a (.load 30 true 5 (.t b))
def tY (a:Nat):VO:=vo a (.asg (.n 1))
def tZ (a b:Nat):VO:=vo a (.len false 95 (.t b))
def tAA (a b c:Nat):VO:=vo a (.ia 100 2 1 (.t b) (.t c))
def tAB (a b c:Nat):VO:=vo a (.app 148 5 1 1 (.t b) (.t c))
def tAC (a b:Nat):VO:=vo a (.fa 35 1 1 5 (.t b))
def tAD (a b c:Nat):VO:=vo a (.ia 44 35 6 (.t b) (.t c))
def tAE (a b:Nat):VO:=vo a (.len false 96 (.t b))
def tAF (a b c:Nat):VO:=vo a (.ia 28 98 3 (.t b) (.t c))
def tAG (a b c:Nat):VO:=vo a (.ia 95 130 3 (.t b) (.t c))
def tAH (a:Nat):VO:=vo a (.asg (ci 3))
def tAI (a b:Nat):VO:=vo a (.len false 28 (.t b))
def tAJ (a b c:Nat):VO:=vo a (.pick (.t b) (.t c) (.c (.bool false)))
def tAK (a b:Nat):VO:=vo a (.load 98 true 3 (.t b))
def tAL (a b c:Nat):VO:=vo a (.ia 58 63 4 (.t b) (.t c))
def tAM (a b:Nat):VO:=vo a (.len false 58 (.t b))
def tAN (a:Nat):VO:=vo a (.asg (ci 2))
def tAO (a b c:Nat):VO:=vo a (.ia 96 102 2 (.t b) (.t c))
def tAP (a:Nat):VO:=vo a (.asg (ci 1))
def tAQ (a b:Nat):VO:=vo a (.load 63 true 4 (.t b))
def tAR (a b:Nat):VO:=vo a (.fa 98 0 0 1 (.t b))
def tAS (a b:Nat):VO:=vo a (.fa 130 2 2 1 (.t b))
def tAT (a b:Nat):VO:=vo a (.fa 102 1 1 1 (.t b))
def tAU (a:Nat):VO:=vo a (.alloc 98 [(.val (.int .i64 0)),(.nl 3),(.nl 2)])
def tAV (a b:Nat):VO:=vn (.store 98 3 (.t a) (.t b))
def tAW (a b:Nat):VO:=vo a (.fa 130 0 0 1 (.t b))
def tAX (a b:Nat):VO:=vo a (.conv 2 5 .u8 (.t b))
def tAY (a b:Nat):VO:=vn (.store 32 6 (.t a) (.t b))
def tAZ (a:Nat):VO:=vo a (.alloc 30 [(.val (.int .i64 0)),(.val (.int .i64 0)),(.val (.int .i64 0)),(.val (.int .i64 0)),(.nl 3)])
def tBA (a b:Nat):VO:=vn (.store 30 5 (.t a) (.t b))
def tBB (a b:Nat):VO:=vo a (.len false 44 (.t b))
def tBC (a b:Nat):VO:=vo a (.box 63 (.t b))
def tBD (a b:Nat):VO:=vo a (.fa 63 0 0 1 (.t b))
def tBE (a b:Nat):VO:=vo a (.box 30 (.t b))
def tBF (a b:Nat):VO:=vo a (.fa 102 0 0 1 (.t b))
def tBG (a b:Nat):VO:=vo a (.load 130 true 3 (.t b))
def tBH (a:List Nat) (b c:Nat):VO:=wo a b (.nilc (.t c))
def tBI (a b c:Nat):VO:=vo a (.bin false .neq 3 (.t b) (.t c))
def tBJ (a b:Nat):VO:=vo a (.fa 35 0 0 1 (.t b))
def tBK (a b:Nat):VO:=vo a (.load 35 true 6 (.t b))
def tBL (a b c:Nat):VO:=vo a (.bin false .sub 3 (.t b) (.t c))
def tBM (a b:Nat):VO:=vo a (.fa 30 0 0 1 (.t b))
def tBN (a:List Nat) (b c:Nat):VO:=wo a b (.fa 98 1 1 1 (.t c))
def tBO (a:List Nat) (b c:Nat):VO:=wo a b (.load 95 false 1 (.t c))
def tBP (a b:Nat):VO:=vo a (.box 98 (.t b))
def tBQ (a b:Nat):VO:=vo a (.load 60 true 8 (.t b))
def tBR (a b:Nat):VO:=vo a (.fa 30 1 1 1 (.t b))
def tBS (a b:Nat):VO:=vo a (.fa 63 2 2 1 (.t b))
def tBT (a:List Nat) (b c:Nat):VO:=wo a b (.load 63 true 4 (.t c))
def tBU (a b:Nat):VO:=vo a (.asgn (.t b))
def tBV (a b:Nat):VO:=vo a (.load 102 true 2 (.t b))
def tBW (a:Nat):VO:=vo a (.alloc 60 [(.val (.int .i64 0)),(.val (.bool false)),(.val (.int .i64 0)),(.val (.int .i64 0)),(.val (.int .i64 0)),(.val (.int .i64 0)),(.nl 3),(.nl 4)])
def tBX (a b:Nat):VO:=vo a (.box 35 (.t b))
def tBY (a b:Nat):VO:=vn (.store 100 1 (.t a) (.t b))
def tBZ (a:Nat):VO:=vo a (.asg (ci 6))
def tCA (a b c:Nat):VO:=vo a (.bin false .eql 2 (.t b) (.t c))
def tCB (a:Nat):VO:=vo a (.alloc 102 [(.val (.int .i64 0)),(.nl 1)])
def tCC (a b:Nat):VO:=vn (.store 102 2 (.t a) (.t b))
def tCD (a:Nat):VO:=vo a (.alloc 130 [(.val (.int .i64 0)),(.val (.int .i64 0)),(.nl 1)])
def tCE (a b:Nat):VO:=vn (.store 130 3 (.t a) (.t b))
def tCF (a b:Nat):VO:=vo a (.fa 130 1 1 1 (.t b))
def tCG (a:List Nat) (b c d:Nat):VO:=wo a b (.ia 95 130 3 (.t c) (.t d))
def tCH (a b:Nat):VO:=vo a (.fa 30 3 3 1 (.t b))
def tCI (a b:Nat):VO:=vo a (.fa 63 1 1 1 (.t b))
def tCJ (a b:Nat):VO:=vo a (.fa 63 3 3 1 (.t b))
def tCK (a:List Nat) (b c d:Nat):VO:=wo a b (.ia 100 2 1 (.t c) (.t d))
def tCL (a b c:Nat):VO:=vo a (.app 100 2 1 8 (.t b) (.t c))
def tCM (a:Nat):VO:=vo a (.lit 100 2 1 0 [(.val (.int .i64 0))] [])
def tCN (a b c:Nat):VO:=vo a (.bin false .add 2 (.t b) (.t c))
def tCO (a:List Nat) (b c d:Nat):VO:=wo a b (.ia 96 102 2 (.t c) (.t d))
def tCP (a:List Nat) (b c:Nat):VO:=wo a b (.load 100 false 1 (.t c))
def tCQ (a b:Nat):VO:=vo a (.len false 148 (.t b))
def tCR (a b:Nat):VO:=vo a (.len false 42 (.t b))
def tCS (a b:Nat):VO:=vo a (.fa 30 2 2 1 (.t b))
def tCT (a b:Nat):VO:=vo a (.fa 60 2 2 5 (.t b))
def tCU (a b:Nat):VO:=vo a (.fa 60 3 7 1 (.t b))
def tCV (a b:Nat):VO:=vo a (.ia 28 98 3 (.t b) (ci 0))
def tCW (a b:Nat):VO:=og a (.mov (.t b)) 10 true
def tCX (a b:Nat):VO:=vo a (.bin false .gtr 3 (.t b) (ci 4))
def tCY (a b:Nat):VO:=vo a (.bin false .eql 3 (.t b) (ci 0))
def tCZ (a b:Nat):VO:=vo a (.fa 32 0 0 1 (.t b))
def tDA (a:List Nat) (b c:Nat):VO:=wo a b (.fa 32 1 1 5 (.t c))
def tDB (a:List Nat) (b c:Nat):VO:=wo a b (.fa 30 2 2 1 (.t c))
def tDC (a b:Nat):VO:=vo a (.len false 22 (.t b))
def tDD (a b:Nat):VO:=vo a (.bin false .add 3 (.t b) (ci 2))
def tDE (a b:Nat):VO:=vo a (.bin false .gtr 3 (.t b) (ci 1))
def tDF (a b:Nat):VO:=vo a (.bin false .geq 3 (.t b) (ci 0))
def tDG (a:List Nat) (b c:Nat):VO:=wo a b (.fa 130 0 0 1 (.t c))
def tDH (a b:Nat):VO:=vn (.store 95 1 (.t a) (.t b))
def tDI (a b:Nat):VO:=vo a (.len false 120 (.t b))
def tDJ (a b:Nat):VO:=vo a (.len false 121 (.t b))
def tDK (a:List Nat) (b c:Nat):VO:=wo a b (.fa 98 2 2 1 (.t c))
def tDL (a:List Nat) (b c:Nat):VO:=wo a b (.load 96 false 1 (.t c))
def tDM (a:Nat):VO:=vo a (.alloc 35 [(.val (.int .i64 0)),(.val (.int .i64 0)),(.val (.int .i64 0)),(.val (.int .i64 0)),(.val (.int .i64 0)),(.nl 3)])
def tDN (a:Nat):VO:=vo a (.alloc 63 [(.val (.int .i64 0)),(.val (.int .i64 0)),(.val (.int .i64 0)),(.val (.int .i64 0))])
def tDO (a b:Nat):VO:=vo a (.bin false .quo 2 (.t b) (ci 256))
def tDP (a b:Nat):VO:=vo a (.bin false .rem 2 (.t b) (ci 256))
def tDQ (a b:Nat):VO:=vo a (.bin false .add 2 (.t b) (ci 1))
def tDR (a b:Nat):VO:=vo a (.bin false .sub 3 (.t b) (ci 1))
def tDS (a b:Nat):VO:=vo a (.bin false .shr 2 (.t b) (.c (.int .u64 8)))
def tDT (a:List Nat) (b:Nat):VO:=wo a b (.alloc 60 [(.val (.int .i64 0)),(.val (.bool false)),(.val (.int .i64 0)),(.val (.int .i64 0)),(.val (.int .i64 0)),(.val (.int .i64 0)),(.nl 3),(.nl 4)])
def tDU (a:Nat):VO:=vo a (.alloc 32 [(.val (.int .i64 0)),(.val (.int .i64 0)),(.val (.int .i64 0)),(.val (.int .i64 0)),(.val (.int .i64 0)),(.nl 3)])
def tDV (a:Nat):VO:=vo a (.build 32 [(.val (.int .i64 0)),(.val (.int .i64 0)),(.val (.int .i64 0)),(.val (.int .i64 0)),(.val (.int .i64 0)),(.nl 3)] [(0,0,1,(ci 3))])
def tDW (a:List Nat) (b:Nat):VO:=wo a b (.lit 100 2 1 1 [(.val (.int .i64 0))] [(0,(.t 21))])
def tDX (a:List Nat) (b:Nat):VO:=wo a b (.alloc 32 [(.val (.int .i64 0)),(.val (.int .i64 0)),(.val (.int .i64 0)),(.val (.int .i64 0)),(.val (.int .i64 0)),(.nl 3)])
def tDY (a:List Nat) (b:Nat):VO:=wo a b (.lit 58 63 4 1 [(.val (.int .i64 0)),(.val (.int .i64 0)),(.val (.int .i64 0)),(.val (.int .i64 0))] [(0,(.t 81))])
def tDZ (a:Nat):VO:=vo a (.lit 28 98 3 0 [(.val (.int .i64 0)),(.nl 3),(.nl 2)] [])
def tEA (a:Nat):VO:=vo a (.lit 95 130 3 1 [(.val (.int .i64 0)),(.val (.int .i64 0)),(.nl 1)] [(0,(.t 24))])
def tEB (a:Nat):VO:=vo a (.lit 148 5 1 1 [(.val (.int .u8 0))] [(0,(.t 6))])
def tEC (a b c d e f:Nat):VO:=vo a (.fa b c d e (.t f))
def tED (a b c:Nat):VO:=vo a (.box b (.t c))
def tEE (a:List Nat) (b c d e f g:Nat):VO:=wo a b (.fa c d e f (.t g))
def tEF (a b c:Nat):VO:=og a (.mov (.t b)) c false
def tEG (a b c:Nat):VO:=og a (.un .not (.t b)) c false
def tEH (a b c d e f:Nat):VO:=vo a (.ia b c d (.t e) (.t f))
def tEI (a b c d:Nat):VO:=vn (.store a b (.t c) (.t d))
def tEJ (a b c d e f g:Nat):VO:=og a (.fa b c d e (.t f)) g false
def tEK (a b c d e:Nat):VO:=og a (.load b false c (.t d)) e false
def tEL (a b c d:Nat):VO:=vo a (.load b true c (.t d))
def tEM (a b c d e f g:Nat):VO:=og a (.fa b c d e (.t f)) g true
def tEN (a b c d e:Nat):VO:=og a (.load b false c (.t d)) e true
def tEO (a:List Nat) (b c d e:Nat):VO:=wo a b (.load c true d (.t e))
def tEP (a b:Nat):VO:=vo a (.call b [(.t 6),(.t 7)])
def tEQ (a b c:Nat):VO:=og a (.mov (.t b)) c true
def tER (a b:Nat):VO:=vo a (.call b [(.t 4)])
def tES (a b:Nat):VO:=vo a (.call b [(.t 19)])
def tET (a b:Nat):VO:=vo a (.asg (.n b))
def tEU (a b c:Nat):VO:=og a (.nilc (.t b)) c false
def tEV (a b:Nat):VO:=vo a (.call b [(.t 16)])
def tEW (a b c d e f g:Nat):VO:=vo a (.app b c d e (.t f) (.t g))
def tEX (a b:Nat):VO:=vo a (.call b [(.t 20),(.t 24)])
def tEY (a b:Nat):VO:=vo a (.call b [(.t 7)])
def tEZ (a b:Nat):VO:=vo a (.call b [(.t 8)])
def tFA (a b c:Nat):VO:=vo a (.len false b (.t c))
def tFB (a b:Nat):VO:=vo a (.call b [(.t 11)])
def tFC (a b:Nat):VO:=vo a (.call b [(.t 17)])
def tFD (a b:Nat):VO:=vo a (.call b [(.t 21),(.t 22)])
def tFE (a b c d:Nat):VO:=og a (.len false b (.t c)) d false
def tFF (a b:Nat):VO:=vo a (.call b [(.t 5),(.t 6)])

def v5 : VFun := {
 code:=
 (.seq
 (rg [0,1,3,6] [
 tED 6 56 2,
 tC 8])
 (.seq
 (rg [0,1,3,6,9] [
 vo 9 (.asg (ci 1048576))])
 (.seq
 (rg [0,1,3,6,9] [
 mv 18 0,
 mv 19 9,
 cl 20 15 [18,19],
 sg 9 20])
 (.seq
 (.seq
 (rg [0,1,3,6,9,22] [
 mv 21 9,
 tH 22 21])
 (.cond (.t 22)
 (.seq
 (rg [8] [
 tV 8])
 .ret)
 .skip))
 (.seq
 (rg [0,1,3,6,9] [
 mv 23 1,
 mv 24 9,
 cl 25 24 [23,24],
 sg 9 25])
 (.seq
 (.seq
 (rg [0,1,3,6,27] [
 mv 26 9,
 tH 27 26])
 (.cond (.t 27)
 (.seq
 (rg [8] [
 tV 8])
 .ret)
 .skip))
 (.seq
 (.region true [0,1,3,6,10] [
 mv 28 0,
 cl 29 17 [28],
 tE [0,1] 30 1,
 cl 31 26 [30],
 tEO [0,1,2,3] 32 56 4 6,
 cl 33 27 [32],
 tE [0,1,2,3,4,5] 34 3,
 cl 35 25 [29,31,33,34],
 tDT [0,1,2,3,4,5,6,7] 10,
 tN 10 35])
 (.seq
 (rg [0,1,3,6,10,11,37] [
 mv 36 0,
 cl 37 17 [36],
 sg 11 37])
 (.seq
 (rg [0,1,3,6,10,11,12,37,39] [
 mv 38 1,
 cl 39 26 [38],
 sg 12 39])
 (.seq
 (rg [0,1,3,6,10,11,12,13,37,39] [
 mv 40 11,
 mv 41 12,
 tEL 42 56 4 6,
 cl 43 27 [42],
 mv 44 3,
 cl 45 28 [40,41,43,44],
 tBW 13,
 tN 13 45])
 (.seq
 (.seq
 (rg [0,1,3,6,10,11,12,13,37,39,49] [
 tBQ 46 13,
 tBQ 47 10,
 cl 48 29 [46,47],
 tF 49 48])
 (.cond (.t 49)
 (.seq
 (rg [8] [
 tC 8])
 .ret)
 .skip))
 (.seq
 (.seq
 (rg [0,1,3,6,10,11,12,13,37,39,54] [
 mv 50 11,
 mv 51 0,
 cl 52 17 [51],
 cl 53 20 [50,52],
 tF 54 53])
 (.cond (.t 54)
 (.seq
 (rg [8] [
 tC 8])
 .ret)
 .skip))
 (.seq
 (.seq
 (rg [0,1,3,6,10,11,12,13,37,39,59] [
 mv 55 12,
 mv 56 1,
 cl 57 26 [56],
 cl 58 30 [55,57],
 tF 59 58])
 (.cond (.t 59)
 (.seq
 (rg [8] [
 tC 8])
 .ret)
 .skip))
 (.seq
 (rg [0,1,3,6,10,11,12,13,14,37,39] [
 tAP 14])
 (.seq
 (rg [0,1,3,6,10,12,13,14,39] [
 mv 60 11,
 mv 61 14,
 cl 62 21 [60,61],
 sg 14 62])
 (.seq
 (rg [0,1,3,6,10,13,14] [
 mv 63 12,
 mv 64 14,
 cl 65 31 [63,64],
 sg 14 65])
 (.seq
 (.seq
 (rg [0,1,3,6,10,13,73] [
 mv 66 14,
 tH 67 66,
 mv 68 67,
 og 69 (.load 60 true 8 (.t 13)) 68 false,
 og 70 (.load 60 true 8 (.t 10)) 68 false,
 og 71 (.call 29 [(.t 69),(.t 70)]) 68 false,
 tEG 72 71 68,
 tU 73 68 72])
 (.cond (.t 73)
 (.seq
 (rg [8] [
 tC 8])
 .ret)
 .skip))
 (.seq
 (rg [0,1,3,6,10,13,15] [
 tAP 15])
 (.seq
 (rg [0,1,3,6,10,13,15] [
 tBQ 74 13,
 mv 75 15,
 cl 76 32 [74,75],
 sg 15 76])
 (.seq
 (rg [0,1,3,6,10,13,15,16] [
 tAP 16])
 (.seq
 (rg [0,1,3,6,10,13,15,16] [
 tBQ 77 13,
 mv 78 16,
 cl 79 33 [77,78],
 sg 16 79])
 (.seq
 (.seq
 (rg [0,1,3,6,10,13,15,16,81] [
 mv 80 16,
 tH 81 80])
 (.cond (.t 81)
 (.seq
 (rg [8] [
 tC 8])
 .ret)
 .skip))
 (.seq
 (.seq
 (rg [0,1,3,6,10,13,15,84] [
 mv 82 16,
 mv 83 15,
 tBI 84 82 83])
 (.cond (.t 84)
 (.seq
 (rg [8] [
 tC 8])
 .ret)
 .skip))
 (.seq
 (.region true [10,13,15,17] [
 mv 85 0,
 cl 86 17 [85],
 tE [0,1] 87 1,
 cl 88 26 [87],
 tEO [0,1,2,3] 89 56 4 6,
 cl 90 27 [89],
 tE [0,1,2,3,4,5] 91 3,
 cl 92 28 [86,88,90,91],
 tDT [0,1,2,3,4,5,6,7] 17,
 tN 17 92])
 (.seq
 (.seq
 (rg [13,15,96] [
 tBQ 93 17,
 tBQ 94 10,
 cl 95 29 [93,94],
 tF 96 95])
 (.cond (.t 96)
 (.seq
 (rg [8] [
 tC 8])
 .ret)
 .skip))
 (.seq
 (rg [13,15,16] [
 tAP 16])
 (.seq
 (rg [15,16] [
 tBQ 97 13,
 mv 98 16,
 cl 99 33 [97,98],
 sg 16 99])
 (.seq
 (.seq
 (rg [15,16,101] [
 mv 100 16,
 tH 101 100])
 (.cond (.t 101)
 (.seq
 (rg [8] [
 tC 8])
 .ret)
 .skip))
 (.seq
 (.seq
 (rg [104] [
 mv 102 16,
 mv 103 15,
 tBI 104 102 103])
 (.cond (.t 104)
 (.seq
 (rg [8] [
 tC 8])
 .ret)
 .skip))
 (.seq
 (rg [8] [
 tV 8])
 .ret))))))))))))))))))))))))))))))
 modes:=[.lend,.lend,.lend,.lend]
 rets:=[⟨8,none⟩]}

def v6 : VFun := {
 code:=
 (.seq
 (rg [1,2] [
 tED 2 26 0,
 tA 4])
 (.seq
 (rg [1] [
 tEC 5 26 1 1 5 2,
 tEL 6 24 5 5,
 mv 7 1,
 tEP 8 34,
 sg 1 8])
 (.seq
 (.seq
 (rg [1,10] [
 mv 9 1,
 tH 10 9])
 (.cond (.t 10)
 (.seq
 (rg [4] [
 tG 4])
 .ret)
 .skip))
 (.seq
 (rg [4] [
 mv 11 1,
 sg 4 11])
 .ret))))
 modes:=[.lend,.lend]
 rets:=[⟨4,none⟩]}

def v7 : VFun := {
 code:=
 (.seq
 (rg [1,2,3,4,8] [
 tBX 4 0,
 tDU 8])
 (.seq
 (.seq
 (rg [1,2,3,4,8,9] [
 tER 12 35,
 sg 9 12])
 (.seq
 (rg [1,2,3,4,8,9,14] [
 mv 13 9,
 tW 14 13])
 (.cond (.t 14)
 (.seq
 (rg [8] [
 mv 15 9,
 vo 16 (.build 32 [(.val (.int .i64 0)),(.val (.int .i64 0)),(.val (.int .i64 0)),(.val (.int .i64 0)),(.val (.int .i64 0)),(.nl 3)] [(0,0,1,(.t 15))]),
 tAY 8 16])
 .ret)
 .skip)))
 (.seq
 (.seq
 (rg [1,2,3,4,8,29] [
 mv 17 1,
 vo 18 (.call 36 [(.t 17),(ci 0),(ci 999)]),
 tF 19 18,
 mv 20 19,
 tEF 21 2 20,
 og 22 (.call 36 [(.t 21),(ci 1),(ci 99999)]) 20 false,
 tEG 23 22 20,
 tU 24 20 23,
 mv 25 24,
 tEF 26 3 25,
 og 27 (.call 36 [(.t 26),(ci 0),(ci 65535)]) 25 false,
 tEG 28 27 25,
 tU 29 25 28])
 (.cond (.t 29)
 (.seq
 (rg [8] [
 tDV 30,
 tAY 8 30])
 .ret)
 .skip))
 (.seq
 (rg [8,10] [
 mv 31 1,
 mv 32 2,
 mv 33 3,
 cl 34 37 [4,31,32,33],
 tAZ 10,
 tBA 10 34])
 (.seq
 (.seq
 (rg [8,10,11] [
 cl 35 38 [10],
 sg 11 35])
 (.seq
 (rg [8,10,11,37] [
 mv 36 11,
 tW 37 36])
 (.cond (.t 37)
 (.seq
 (rg [8] [
 mv 38 11,
 vo 39 (.build 32 [(.val (.int .i64 0)),(.val (.int .i64 0)),(.val (.int .i64 0)),(.val (.int .i64 0)),(.val (.int .i64 0)),(.nl 3)] [(0,0,1,(.t 38))]),
 tAY 8 39])
 .ret)
 .skip)))
 (.seq
 (rg [8] [
 tX 40 10,
 vo 41 (.build 32 [(.val (.int .i64 0)),(.val (.int .i64 0)),(.val (.int .i64 0)),(.val (.int .i64 0)),(.val (.int .i64 0)),(.nl 3)] [(1,1,5,(.t 40))]),
 tAY 8 41])
 .ret))))))
 modes:=[.lend,.lend,.lend,.lend]
 rets:=[⟨8,some (true,6)⟩]}

def v8 : VFun := {
 code:=
 (.seq
 (rg [1,2] [
 tED 1 26 0,
 tDM 2])
 (.seq
 (rg [1,2,3] [
 tDM 3])
 (.seq
 (rg [1,2,3] [
 tEC 4 26 0 0 1 1,
 ld 5 2 4,
 tBJ 6 3,
 tK 6 5])
 (.seq
 (rg [2,3] [
 tEC 7 26 1 1 5 1,
 tEL 8 24 5 7,
 tEZ 9 39,
 tAC 10 3,
 tBA 10 9])
 (.seq
 (rg [2] [
 tBK 11 3,
 tEI 35 6 2 11])
 .ret)))))
 modes:=[.lend]
 rets:=[⟨2,some (true,6)⟩]}

def v9 : VFun := {
 code:=
 (.seq
 (rg [1,2,3,4,8] [
 tBX 4 0,
 tDU 8])
 (.seq
 (.seq
 (rg [1,2,3,4,8,9] [
 tBK 12 4,
 vo 13 (.lit 44 35 6 1 [(.val (.int .i64 0)),(.val (.int .i64 0)),(.val (.int .i64 0)),(.val (.int .i64 0)),(.val (.int .i64 0)),(.nl 3)] [(0,(.t 12))]),
 cl 14 40 [13],
 sg 9 14])
 (.seq
 (rg [1,2,3,4,8,9,16] [
 mv 15 9,
 tW 16 15])
 (.cond (.t 16)
 (.seq
 (rg [8] [
 mv 17 9,
 vo 18 (.build 32 [(.val (.int .i64 0)),(.val (.int .i64 0)),(.val (.int .i64 0)),(.val (.int .i64 0)),(.val (.int .i64 0)),(.nl 3)] [(0,0,1,(.t 17))]),
 tAY 8 18])
 .ret)
 .skip)))
 (.seq
 (.seq
 (rg [1,2,3,4,8,31] [
 mv 19 1,
 vo 20 (.call 41 [(.t 19),(ci 0),(ci 999)]),
 tF 21 20,
 mv 22 21,
 tEF 23 2 22,
 og 24 (.call 41 [(.t 23),(ci 1),(ci 99999)]) 22 false,
 tEG 25 24 22,
 tU 26 22 25,
 mv 27 26,
 tEF 28 3 27,
 og 29 (.call 41 [(.t 28),(ci 0),(ci 65535)]) 27 false,
 tEG 30 29 27,
 tU 31 27 30])
 (.cond (.t 31)
 (.seq
 (rg [8] [
 tDV 32,
 tAY 8 32])
 .ret)
 .skip))
 (.seq
 (rg [8,10] [
 tBK 33 4,
 mv 34 1,
 mv 35 2,
 mv 36 3,
 cl 37 42 [33,34,35,36],
 tAZ 10,
 tBA 10 37])
 (.seq
 (.seq
 (rg [8,10,11] [
 tX 38 10,
 cl 39 43 [38],
 sg 11 39])
 (.seq
 (rg [8,10,11,41] [
 mv 40 11,
 tW 41 40])
 (.cond (.t 41)
 (.seq
 (rg [8] [
 mv 42 11,
 vo 43 (.build 32 [(.val (.int .i64 0)),(.val (.int .i64 0)),(.val (.int .i64 0)),(.val (.int .i64 0)),(.val (.int .i64 0)),(.nl 3)] [(0,0,1,(.t 42))]),
 tAY 8 43])
 .ret)
 .skip)))
 (.seq
 (rg [8] [
 tX 44 10,
 vo 45 (.build 32 [(.val (.int .i64 0)),(.val (.int .i64 0)),(.val (.int .i64 0)),(.val (.int .i64 0)),(.val (.int .i64 0)),(.nl 3)] [(0,0,1,(ci 0)),(1,1,5,(.t 44))]),
 tAY 8 45])
 .ret))))))
 modes:=[.lend,.lend,.lend,.lend]
 rets:=[⟨8,some (true,6)⟩]}

def v11 : VFun := {
 code:=
 (.seq
 (rg [2,3] [
 tBX 2 0,
 tBX 3 1,
 tC 4])
 (.seq
 (.seq
 (rg [2,3,9] [
 tBJ 5 2,
 ld 6 2 5,
 tBJ 7 3,
 ld 8 2 7,
 tP 9 6 8])
 (.cond (.t 9)
 (.seq
 (rg [4] [
 tC 4])
 .ret)
 .skip))
 (.seq
 (.seq
 (rg [15] [
 tAC 10 2,
 tX 11 10,
 tAC 12 3,
 tX 13 12,
 cl 14 44 [11,13],
 tF 15 14])
 (.cond (.t 15)
 (.seq
 (rg [4] [
 tC 4])
 .ret)
 .skip))
 (.seq
 (rg [4] [
 tV 4])
 .ret))))
 modes:=[.lend,.lend]
 rets:=[⟨4,none⟩]}

def b15_0:VC:=
 (.seq
 (.seq
 (rg [0,1,5,15] [
 mv 12 5,
 mv 13 0,
 tCR 14 13,
 tD 15 12 14])
 (.cond (.t 15)
 .skip
 (.exit 0)))
 (.seq
 (.block 1
 (.seq
 (rg [0,1,5] [
 mv 18 0,
 mv 19 5,
 tEH 20 42 26 6 18 19,
 tEL 21 26 6 20,
 mv 22 1,
 tFD 23 6,
 sg 1 23])
 (.seq
 (rg [0,1,5,25] [
 mv 24 1,
 tH 25 24])
 (.cond (.t 25)
 (.seq
 (rg [4] [
 tG 4])
 .ret)
 .skip))))
 (rg [0,1,5] [
 mv 16 5,
 tB 17 16,
 sg 5 17])))
def l15_0:VC:=.loop b15_0
def v15 : VFun := {
 code:=
 (.seq
 (rg [0,1] [
 tA 4])
 (.seq
 (rg [0,1] [
 mv 6 1,
 mv 7 0,
 tCR 8 7,
 tBL 9 6 8,
 sg 1 9])
 (.seq
 (.seq
 (rg [0,1,11] [
 mv 10 1,
 tH 11 10])
 (.cond (.t 11)
 (.seq
 (rg [4] [
 tG 4])
 .ret)
 .skip))
 (.seq
 (.seq
 (rg [0,1,5] [
 tA 5])
 (.block 0
 l15_0))
 (.seq
 (rg [4] [
 mv 26 1,
 sg 4 26])
 .ret)))))
 modes:=[.lend,.lend]
 rets:=[⟨4,none⟩]}

def b17_0:VC:=
 (.seq
 (.seq
 (rg [0,3,4,7,11] [
 mv 8 4,
 mv 9 0,
 tCR 10 9,
 tD 11 8 10])
 (.cond (.t 11)
 .skip
 (.exit 0)))
 (.seq
 (.block 1
 (rg [0,3,4,7] [
 mv 14 3,
 mv 15 4,
 mv 16 0,
 mv 17 4,
 tEH 18 42 26 6 16 17,
 tEL 19 26 6 18,
 tES 20 8,
 tAD 21 14 15,
 tEI 35 6 21 20]))
 (rg [0,3,4,7] [
 mv 12 4,
 tB 13 12,
 sg 4 13])))
def l17_0:VC:=.loop b17_0
def v17 : VFun := {
 code:=
 (.seq
 (rg [0] [
 tET 2 6])
 (.seq
 (rg [0,3,7] [
 mv 5 0,
 tCR 6 5,
 vo 7 (.mk 44 35 6 64 [(.val (.int .i64 0)),(.val (.int .i64 0)),(.val (.int .i64 0)),(.val (.int .i64 0)),(.val (.int .i64 0)),(.nl 3)] (.t 6) (.t 6)),
 sg 3 7])
 (.seq
 (.seq
 (rg [0,3,4,7] [
 tA 4])
 (.block 0
 l17_0))
 (.seq
 (rg [2,3,7] [
 mv 22 3,
 sg 2 22])
 .ret))))
 modes:=[.lend]
 rets:=[⟨2,none⟩]}

def b20_0:VC:=
 (.seq
 (.seq
 (rg [0,1,5,14] [
 mv 11 5,
 mv 12 0,
 tBB 13 12,
 tD 14 11 13])
 (.cond (.t 14)
 .skip
 (.exit 0)))
 (.seq
 (.block 1
 (.seq
 (.region true [0,1,5,26] [
 mv 17 0,
 tE [0] 18 5,
 tAD 19 17 18,
 tBK 20 19,
 tE [0,1,2,3] 21 1,
 tE [0,1,2,3,4] 22 5,
 wo [0,1,2,3] 23 (.ia 44 35 6 (.t 21) (.t 22)),
 tEO [0,1,2,3] 24 35 6 23,
 tEX 25 11,
 tF 26 25])
 (.cond (.t 26)
 (.seq
 (rg [4] [
 tC 4])
 .ret)
 .skip)))
 (rg [0,1,5] [
 mv 15 5,
 tB 16 15,
 sg 5 16])))
def l20_0:VC:=.loop b20_0
def v20 : VFun := {
 code:=
 (.seq
 (rg [0,1] [
 tC 4])
 (.seq
 (.seq
 (rg [0,1,10] [
 mv 6 0,
 tBB 7 6,
 mv 8 1,
 tBB 9 8,
 tBI 10 7 9])
 (.cond (.t 10)
 (.seq
 (rg [4] [
 tC 4])
 .ret)
 .skip))
 (.seq
 (.seq
 (rg [0,1,5] [
 tA 5])
 (.block 0
 l20_0))
 (.seq
 (rg [4] [
 tV 4])
 .ret))))
 modes:=[.lend,.lend]
 rets:=[⟨4,none⟩]}

def b21_0:VC:=
 (.seq
 (.seq
 (rg [0,1,5,9] [
 mv 6 5,
 mv 7 0,
 tBB 8 7,
 tD 9 6 8])
 (.cond (.t 9)
 .skip
 (.exit 0)))
 (.seq
 (.block 1
 (.seq
 (rg [0,1,5] [
 mv 12 0,
 mv 13 5,
 mv 14 1,
 tAD 15 12 13,
 tBJ 16 15,
 tK 16 14])
 (.seq
 (rg [0,1,5] [
 mv 17 1,
 tB 18 17,
 sg 1 18])
 (.seq
 (rg [0,1,5] [
 mv 19 0,
 mv 20 5,
 mv 21 1,
 tAD 22 19 20,
 tAC 23 22,
 tBM 24 23,
 tK 24 21])
 (.seq
 (rg [0,1,5] [
 mv 25 1,
 tB 26 25,
 sg 1 26])
 (.seq
 (rg [0,1,5] [
 mv 27 0,
 mv 28 5,
 mv 29 1,
 tAD 30 27 28,
 tAC 31 30,
 tBR 32 31,
 tK 32 29])
 (.seq
 (rg [0,1,5] [
 mv 33 1,
 tB 34 33,
 sg 1 34])
 (.seq
 (rg [0,1,5] [
 mv 35 0,
 mv 36 5,
 mv 37 1,
 tAD 38 35 36,
 tAC 39 38,
 tCS 40 39,
 tK 40 37])
 (.seq
 (rg [0,1,5] [
 mv 41 1,
 tB 42 41,
 sg 1 42])
 (.seq
 (rg [0,1,5] [
 mv 43 0,
 mv 44 5,
 mv 45 1,
 tAD 46 43 44,
 tAC 47 46,
 tCH 48 47,
 tK 48 45])
 (.seq
 (rg [0,1,5] [
 mv 49 1,
 tB 50 49,
 sg 1 50])
 (rg [0,1,5] [
 mv 51 0,
 mv 52 5,
 tAD 53 51 52,
 tAC 54 53,
 tO 55 54,
 ld 56 28 55,
 mv 57 1,
 cl 58 51 [56,57],
 sg 1 58]))))))))))))
 (rg [0,1,5] [
 mv 10 5,
 tB 11 10,
 sg 5 11])))
def l21_0:VC:=.loop b21_0
def v21 : VFun := {
 code:=
 (.seq
 (rg [0,1] [
 tA 4])
 (.seq
 (.seq
 (rg [0,1,5] [
 tA 5])
 (.block 0
 l21_0))
 (.seq
 (rg [0,4] [
 mv 59 1,
 sg 4 59])
 .ret)))
 modes:=[.io,.lend]
 rets:=[⟨4,none⟩]}

def v24 : VFun := {
 code:=
 (.seq
 (rg [0,1] [
 tA 4])
 (.seq
 (rg [1] [
 mv 5 1,
 mv 6 0,
 tFA 7 54 6,
 tBL 8 5 7,
 sg 1 8])
 (.seq
 (.seq
 (rg [1,10] [
 mv 9 1,
 tH 10 9])
 (.cond (.t 10)
 (.seq
 (rg [4] [
 tG 4])
 .ret)
 .skip))
 (.seq
 (rg [4] [
 mv 11 1,
 sg 4 11])
 .ret))))
 modes:=[.lend,.lend]
 rets:=[⟨4,none⟩]}

def v25 : VFun := {
 code:=
 (.seq
 (rg [0,1,3,6,8] [
 tBC 6 2,
 tBW 8])
 (.seq
 (.seq
 (rg [0,1,3,6,8,9] [
 mv 11 0,
 tFB 12 47,
 sg 9 12])
 (.seq
 (rg [0,1,3,6,8,9,14] [
 mv 13 9,
 tW 14 13])
 (.cond (.t 14)
 (.seq
 (rg [8] [
 mv 15 9,
 cl 16 53 [15],
 tN 8 16])
 .ret)
 .skip)))
 (.seq
 (.seq
 (rg [0,1,3,6,8,10] [
 mv 17 1,
 tFC 18 54,
 sg 10 18])
 (.seq
 (rg [0,1,3,6,8,10,20] [
 mv 19 10,
 tW 20 19])
 (.cond (.t 20)
 (.seq
 (rg [8] [
 mv 21 10,
 cl 22 53 [21],
 tN 8 22])
 .ret)
 .skip)))
 (.seq
 (.seq
 (rg [0,1,3,6,8,29] [
 cl 23 55 [6],
 tF 24 23,
 mv 25 24,
 tEF 26 3 25,
 og 27 (.call 36 [(.t 26),(ci 1),(ci 9999)]) 25 false,
 tEG 28 27 25,
 tU 29 25 28])
 (.cond (.t 29)
 (.seq
 (rg [8] [
 vo 30 (.call 53 [(ci 3)]),
 tN 8 30])
 .ret)
 .skip))
 (.seq
 (rg [8] [
 mv 31 0,
 mv 32 1,
 tAQ 33 6,
 mv 34 3,
 cl 35 56 [31,32,33,34],
 tN 8 35])
 .ret)))))
 modes:=[.lend,.lend,.lend,.lend]
 rets:=[⟨8,some (true,8)⟩]}

def b26_0:VC:=
 (.seq
 (.seq
 (rg [0,3,4,7,11] [
 mv 8 4,
 mv 9 0,
 tFA 10 54 9,
 tD 11 8 10])
 (.cond (.t 11)
 .skip
 (.exit 0)))
 (.seq
 (.block 1
 (rg [0,3,4,7] [
 mv 14 3,
 mv 15 4,
 mv 16 0,
 mv 17 4,
 tEH 18 54 56 4 16 17,
 tEL 19 56 4 18,
 tES 20 27,
 tAL 21 14 15,
 tEI 63 4 21 20]))
 (rg [0,3,4,7] [
 mv 12 4,
 tB 13 12,
 sg 4 13])))
def l26_0:VC:=.loop b26_0
def v26 : VFun := {
 code:=
 (.seq
 (rg [0] [
 tET 2 4])
 (.seq
 (rg [0,3,7] [
 mv 5 0,
 tFA 6 54 5,
 vo 7 (.mk 58 63 4 32 [(.val (.int .i64 0)),(.val (.int .i64 0)),(.val (.int .i64 0)),(.val (.int .i64 0))] (.t 6) (.t 6)),
 sg 3 7])
 (.seq
 (.seq
 (rg [0,3,4,7] [
 tA 4])
 (.block 0
 l26_0))
 (.seq
 (rg [2,3,7] [
 mv 22 3,
 sg 2 22])
 .ret))))
 modes:=[.lend]
 rets:=[⟨2,none⟩]}

def v27 : VFun := {
 code:=
 (.seq
 (rg [1,2] [
 tED 1 56 0,
 tDN 2])
 (.seq
 (rg [1,2,3] [
 tDN 3])
 (.seq
 (rg [1,2,3] [
 tEC 4 56 0 0 1 1,
 ld 5 2 4,
 tBD 6 3,
 tK 6 5])
 (.seq
 (rg [1,2,3] [
 tEC 7 56 1 1 1 1,
 ld 8 2 7,
 tCI 9 3,
 tK 9 8])
 (.seq
 (rg [1,2,3] [
 tEC 10 56 2 2 1 1,
 ld 11 2 10,
 tBS 12 3,
 tK 12 11])
 (.seq
 (rg [2,3] [
 tEC 13 56 3 3 1 1,
 ld 14 2 13,
 tCJ 15 3,
 tK 15 14])
 (.seq
 (rg [2] [
 tAQ 16 3,
 tEI 63 4 2 16])
 .ret)))))))
 modes:=[.lend]
 rets:=[⟨2,some (true,4)⟩]}

def v28 : VFun := {
 code:=
 (.seq
 (rg [0,1,3,6,8] [
 tBC 6 2,
 tBW 8])
 (.seq
 (.seq
 (rg [0,1,3,6,8,9] [
 mv 11 0,
 tFB 12 40,
 sg 9 12])
 (.seq
 (rg [0,1,3,6,8,9,14] [
 mv 13 9,
 tW 14 13])
 (.cond (.t 14)
 (.seq
 (rg [8] [
 mv 15 9,
 vo 16 (.build 60 [(.val (.int .i64 0)),(.val (.bool false)),(.val (.int .i64 0)),(.val (.int .i64 0)),(.val (.int .i64 0)),(.val (.int .i64 0)),(.nl 3),(.nl 4)] [(0,0,1,(.t 15))]),
 tN 8 16])
 .ret)
 .skip)))
 (.seq
 (.seq
 (rg [0,1,3,6,8,10] [
 mv 17 1,
 tFC 18 57,
 sg 10 18])
 (.seq
 (rg [0,1,3,6,8,10,20] [
 mv 19 10,
 tW 20 19])
 (.cond (.t 20)
 (.seq
 (rg [8] [
 mv 21 10,
 vo 22 (.build 60 [(.val (.int .i64 0)),(.val (.bool false)),(.val (.int .i64 0)),(.val (.int .i64 0)),(.val (.int .i64 0)),(.val (.int .i64 0)),(.nl 3),(.nl 4)] [(0,0,1,(.t 21))]),
 tN 8 22])
 .ret)
 .skip)))
 (.seq
 (.seq
 (rg [0,1,3,6,8,30] [
 tAQ 23 6,
 cl 24 58 [23],
 tF 25 24,
 mv 26 25,
 tEF 27 3 26,
 og 28 (.call 59 [(.t 27)]) 26 false,
 tEG 29 28 26,
 tU 30 26 29])
 (.cond (.t 30)
 (.seq
 (rg [8] [
 vo 31 (.build 60 [(.val (.int .i64 0)),(.val (.bool false)),(.val (.int .i64 0)),(.val (.int .i64 0)),(.val (.int .i64 0)),(.val (.int .i64 0)),(.nl 3),(.nl 4)] [(0,0,1,(ci 3))]),
 tN 8 31])
 .ret)
 .skip))
 (.seq
 (rg [8] [
 mv 32 0,
 mv 33 1,
 tAQ 34 6,
 mv 35 3,
 cl 36 60 [32,33,34,35],
 tN 8 36])
 .ret)))))
 modes:=[.lend,.lend,.lend,.lend]
 rets:=[⟨8,some (true,8)⟩]}

def v29 : VFun := {
 code:=
 (.seq
 (rg [2,3] [
 tED 2 60 0,
 tED 3 60 1,
 tC 4])
 (.seq
 (.seq
 (rg [2,3,9] [
 tEC 5 60 0 0 1 2,
 ld 6 2 5,
 tEC 7 60 0 0 1 3,
 ld 8 2 7,
 tP 9 6 8])
 (.cond (.t 9)
 (.seq
 (rg [4] [
 tC 4])
 .ret)
 .skip))
 (.seq
 (.seq
 (rg [2,3,14] [
 tEC 10 60 1 1 1 2,
 ld 11 4 10,
 tEC 12 60 1 1 1 3,
 ld 13 4 12,
 vo 14 (.bin true .neq 4 (.t 11) (.t 13))])
 (.cond (.t 14)
 (.seq
 (rg [4] [
 tC 4])
 .ret)
 .skip))
 (.seq
 (.seq
 (rg [2,3,20] [
 tCT 15 2,
 tX 16 15,
 tCT 17 3,
 tX 18 17,
 cl 19 44 [16,18],
 tF 20 19])
 (.cond (.t 20)
 (.seq
 (rg [4] [
 tC 4])
 .ret)
 .skip))
 (.seq
 (.seq
 (rg [26] [
 tCU 21 2,
 ld 22 58 21,
 tCU 23 3,
 ld 24 58 23,
 cl 25 30 [22,24],
 tF 26 25])
 (.cond (.t 26)
 (.seq
 (rg [4] [
 tC 4])
 .ret)
 .skip))
 (.seq
 (rg [4] [
 tV 4])
 .ret))))))
 modes:=[.lend,.lend]
 rets:=[⟨4,none⟩]}

def b30_0:VC:=
 (.seq
 (.seq
 (rg [0,1,5,14] [
 mv 11 5,
 mv 12 0,
 tAM 13 12,
 tD 14 11 13])
 (.cond (.t 14)
 .skip
 (.exit 0)))
 (.seq
 (.block 1
 (.seq
 (.region true [0,1,5,26] [
 mv 17 0,
 tE [0] 18 5,
 tAL 19 17 18,
 tAQ 20 19,
 tE [0,1,2,3] 21 1,
 tE [0,1,2,3,4] 22 5,
 wo [0,1,2,3] 23 (.ia 58 63 4 (.t 21) (.t 22)),
 tBT [0,1,2,3] 24 23,
 tEX 25 61,
 tF 26 25])
 (.cond (.t 26)
 (.seq
 (rg [4] [
 tC 4])
 .ret)
 .skip)))
 (rg [0,1,5] [
 mv 15 5,
 tB 16 15,
 sg 5 16])))
def l30_0:VC:=.loop b30_0
def v30 : VFun := {
 code:=
 (.seq
 (rg [0,1] [
 tC 4])
 (.seq
 (.seq
 (rg [0,1,10] [
 mv 6 0,
 tAM 7 6,
 mv 8 1,
 tAM 9 8,
 tBI 10 7 9])
 (.cond (.t 10)
 (.seq
 (rg [4] [
 tC 4])
 .ret)
 .skip))
 (.seq
 (.seq
 (rg [0,1,5] [
 tA 5])
 (.block 0
 l30_0))
 (.seq
 (rg [4] [
 tV 4])
 .ret))))
 modes:=[.lend,.lend]
 rets:=[⟨4,none⟩]}

def b31_0:VC:=
 (.seq
 (.seq
 (rg [0,1,5,9] [
 mv 6 5,
 mv 7 0,
 tAM 8 7,
 tD 9 6 8])
 (.cond (.t 9)
 .skip
 (.exit 0)))
 (.seq
 (.block 1
 (.seq
 (rg [0,1,5] [
 mv 12 0,
 mv 13 5,
 mv 14 1,
 tAL 15 12 13,
 tBD 16 15,
 tK 16 14])
 (.seq
 (rg [0,1,5] [
 mv 17 1,
 tB 18 17,
 sg 1 18])
 (.seq
 (rg [0,1,5] [
 mv 19 0,
 mv 20 5,
 mv 21 1,
 tAL 22 19 20,
 tCI 23 22,
 tK 23 21])
 (.seq
 (rg [0,1,5] [
 mv 24 1,
 tB 25 24,
 sg 1 25])
 (.seq
 (rg [0,1,5] [
 mv 26 0,
 mv 27 5,
 mv 28 1,
 tAL 29 26 27,
 tBS 30 29,
 tK 30 28])
 (.seq
 (rg [0,1,5] [
 mv 31 1,
 tB 32 31,
 sg 1 32])
 (.seq
 (rg [0,1,5] [
 mv 33 0,
 mv 34 5,
 mv 35 1,
 tAL 36 33 34,
 tCJ 37 36,
 tK 37 35])
 (rg [0,1,5] [
 mv 38 1,
 tB 39 38,
 sg 1 39])))))))))
 (rg [0,1,5] [
 mv 10 5,
 tB 11 10,
 sg 5 11])))
def l31_0:VC:=.loop b31_0
def v31 : VFun := {
 code:=
 (.seq
 (rg [0,1] [
 tA 4])
 (.seq
 (.seq
 (rg [0,1,5] [
 tA 5])
 (.block 0
 l31_0))
 (.seq
 (rg [0,4] [
 mv 40 1,
 sg 4 40])
 .ret)))
 modes:=[.io,.lend]
 rets:=[⟨4,none⟩]}

def v32 : VFun := {
 code:=
 (.seq
 (rg [0,1,2] [
 tED 2 60 0,
 tA 4])
 (.seq
 (rg [0,1,2] [
 tCT 5 2,
 tX 6 5,
 mv 7 1,
 tEP 8 45,
 sg 1 8])
 (.seq
 (rg [0,1,2] [
 tCU 9 2,
 ld 10 58 9,
 mv 11 1,
 cl 12 31 [10,11],
 sg 1 12])
 (.seq
 (rg [0,2,4] [
 mv 13 1,
 sg 4 13])
 .ret))))
 modes:=[.io,.lend]
 rets:=[⟨4,none⟩]}

def v33 : VFun := {
 code:=
 (.seq
 (rg [1,2] [
 tED 2 60 0,
 tA 4])
 (.seq
 (rg [1,2] [
 tCT 5 2,
 tX 6 5,
 mv 7 1,
 tEP 8 46,
 sg 1 8])
 (.seq
 (.seq
 (rg [1,2,10] [
 mv 9 1,
 tH 10 9])
 (.cond (.t 10)
 (.seq
 (rg [4] [
 tG 4])
 .ret)
 .skip))
 (.seq
 (rg [1] [
 tCU 11 2,
 ld 12 58 11,
 mv 13 1,
 cl 14 62 [12,13],
 sg 1 14])
 (.seq
 (.seq
 (rg [1,16] [
 mv 15 1,
 tH 16 15])
 (.cond (.t 16)
 (.seq
 (rg [4] [
 tG 4])
 .ret)
 .skip))
 (.seq
 (rg [4] [
 mv 17 1,
 sg 4 17])
 .ret))))))
 modes:=[.lend,.lend]
 rets:=[⟨4,none⟩]}

def v34 : VFun := {
 code:=
 (.seq
 (rg [1,2] [
 tED 2 24 0,
 tA 4])
 (.seq
 (rg [1] [
 tEC 5 24 4 4 1 2,
 ld 6 22 5,
 mv 7 1,
 tEP 8 63,
 sg 1 8])
 (.seq
 (.seq
 (rg [1,10] [
 mv 9 1,
 tH 10 9])
 (.cond (.t 10)
 (.seq
 (rg [4] [
 tG 4])
 .ret)
 .skip))
 (.seq
 (rg [4] [
 mv 11 1,
 sg 4 11])
 .ret))))
 modes:=[.lend,.lend]
 rets:=[⟨4,none⟩]}

def v35 : VFun := {
 code:=
 (.seq
 (rg [0] [
 tA 2])
 (.seq
 (.seq
 (rg [0,9] [
 mv 4 0,
 tM 5 4,
 tBJ 6 5,
 ld 7 2 6,
 vo 8 (.call 36 [(.t 7),(ci 0),(ci 9999)]),
 tF 9 8])
 (.cond (.t 9)
 (.seq
 (rg [2] [
 tAH 2])
 .ret)
 .skip))
 (.seq
 (.seq
 (rg [0,3] [
 mv 10 0,
 tM 11 10,
 tAC 12 11,
 cl 13 38 [12],
 sg 3 13])
 (.seq
 (rg [0,3,15] [
 mv 14 3,
 tW 15 14])
 (.cond (.t 15)
 (.seq
 (rg [2] [
 mv 16 3,
 sg 2 16])
 .ret)
 .skip)))
 (.seq
 (.seq
 (rg [26] [
 mv 17 0,
 tM 18 17,
 tAC 19 18,
 tO 20 19,
 ld 21 28 20,
 tCV 22 21,
 tR 23 22,
 ld 24 96 23,
 tAE 25 24,
 vo 26 (.bin false .neq 3 (.t 25) (ci 2))])
 (.cond (.t 26)
 (.seq
 (rg [2] [
 tAP 2])
 .ret)
 .skip))
 (.seq
 (rg [2] [
 tA 2])
 .ret)))))
 modes:=[.lend]
 rets:=[⟨2,none⟩]}

def v36 : VFun := {
 code:=
 (.seq
 (rg [0,1,2] [
 tC 6])
 (.seq
 (rg [6] [
 mv 7 0,
 mv 8 1,
 vo 9 (.bin false .geq 2 (.t 7) (.t 8)),
 mv 10 9,
 tCW 11 0,
 tCW 12 2,
 og 13 (.bin false .leq 2 (.t 11) (.t 12)) 10 true,
 tAJ 14 10 13,
 sg 6 14])
 .ret))
 modes:=[.lend,.lend,.lend]
 rets:=[⟨6,none⟩]}

def v37 : VFun := {
 code:=
 (.seq
 (rg [0,1,2,3,8] [
 tAZ 8])
 (.seq
 (rg [1,2,3,8,9] [
 mv 10 0,
 tM 11 10,
 tAC 12 11,
 tX 13 12,
 cl 14 64 [13],
 tAZ 9,
 tBA 9 14])
 (.seq
 (rg [2,3,8,9] [
 tO 15 9,
 ld 16 28 15,
 tCV 17 16,
 tR 18 17,
 ld 19 96 18,
 mv 20 1,
 vo 21 (.bin false .add 2 (ci 100) (.t 20)),
 vo 22 (.lit 100 2 1 1 [(.val (.int .i64 0))] [(0,(.t 21))]),
 vo 23 (.ia 96 102 2 (.t 19) (ci 1)),
 tAT 24 23,
 tBY 24 22])
 (.seq
 (rg [3,8,9] [
 mv 25 2,
 tBR 26 9,
 tK 26 25])
 (.seq
 (rg [8,9] [
 mv 27 3,
 tCH 28 9,
 tK 28 27])
 (.seq
 (rg [8] [
 tX 29 9,
 tBA 8 29])
 .ret))))))
 modes:=[.lend,.lend,.lend,.lend]
 rets:=[⟨8,some (true,5)⟩]}

def b38_0:VC:=
 (.seq
 (.seq
 (rg [0,3,55] [
 mv 49 3,
 mv 50 0,
 tM 51 50,
 tO 52 51,
 ld 53 28 52,
 tAI 54 53,
 tD 55 49 54])
 (.cond (.t 55)
 .skip
 (.exit 0)))
 (.seq
 (.block 1
 (.seq
 (rg [0,3,4] [
 mv 58 0,
 tM 59 58,
 tO 60 59,
 ld 61 28 60,
 mv 62 3,
 tAF 63 61 62,
 cl 64 67 [63],
 sg 4 64])
 (.seq
 (rg [0,3,4,66] [
 mv 65 4,
 tW 66 65])
 (.cond (.t 66)
 (.seq
 (rg [2] [
 mv 67 4,
 sg 2 67])
 .ret)
 .skip))))
 (rg [0,3] [
 mv 56 3,
 tB 57 56,
 sg 3 57])))
def l38_0:VC:=.loop b38_0
def v38 : VFun := {
 code:=
 (.seq
 (rg [0] [
 tA 2])
 (.seq
 (.seq
 (rg [0,34] [
 mv 5 0,
 tM 6 5,
 tBM 7 6,
 ld 8 2 7,
 tEZ 9 65,
 tF 10 9,
 mv 11 10,
 tEF 12 0 11,
 tEU 13 12 11,
 tEJ 14 30 1 1 1 13 11,
 tEK 15 2 1 14 11,
 og 16 (.call 36 [(.t 15),(ci 1),(ci 99999)]) 11 false,
 tEG 17 16 11,
 tU 18 11 17,
 mv 19 18,
 tEF 20 0 19,
 tEU 21 20 19,
 tEJ 22 30 2 2 1 21 19,
 tEK 23 2 1 22 19,
 og 24 (.call 66 [(.t 23)]) 19 false,
 tEG 25 24 19,
 tU 26 19 25,
 mv 27 26,
 tEF 28 0 27,
 tEU 29 28 27,
 tEJ 30 30 3 3 1 29 27,
 tEK 31 2 1 30 27,
 og 32 (.call 36 [(.t 31),(ci 0),(ci 65535)]) 27 false,
 tEG 33 32 27,
 tU 34 27 33])
 (.cond (.t 34)
 (.seq
 (rg [2] [
 tAH 2])
 .ret)
 .skip))
 (.seq
 (.seq
 (rg [0,48] [
 mv 35 0,
 tM 36 35,
 tO 37 36,
 ld 38 28 37,
 tAI 39 38,
 vo 40 (.bin false .lss 3 (.t 39) (ci 1)),
 mv 41 40,
 tEF 42 0 41,
 tEU 43 42 41,
 tEJ 44 30 4 4 1 43 41,
 tEK 45 28 1 44 41,
 tFE 46 28 45 41,
 og 47 (.bin false .gtr 3 (.t 46) (ci 4)) 41 false,
 tU 48 41 47])
 (.cond (.t 48)
 (.seq
 (rg [2] [
 tAN 2])
 .ret)
 .skip))
 (.seq
 (.seq
 (rg [0,3] [
 tA 3])
 (.block 0
 l38_0))
 (.seq
 (.seq
 (rg [0,70] [
 mv 68 0,
 cl 69 68 [68],
 tF 70 69])
 (.cond (.t 70)
 (.seq
 (rg [2] [
 tAP 2])
 .ret)
 .skip))
 (.seq
 (.seq
 (rg [73] [
 mv 71 0,
 cl 72 70 [71],
 cl 73 69 [72]])
 (.cond (.t 73)
 (.seq
 (rg [2] [
 tBZ 2])
 .ret)
 .skip))
 (.seq
 (rg [2] [
 tA 2])
 .ret)))))))
 modes:=[.lend]
 rets:=[⟨2,none⟩]}

def v39 : VFun := {
 code:=
 (.seq
 (rg [1,2] [
 tED 1 24 0,
 tAZ 2])
 (.seq
 (rg [1,2,3] [
 tAZ 3])
 (.seq
 (rg [1,2,3] [
 tEC 4 24 0 0 1 1,
 ld 5 2 4,
 tBM 6 3,
 tK 6 5])
 (.seq
 (rg [1,2,3] [
 tEC 7 24 1 1 1 1,
 ld 8 2 7,
 tBR 9 3,
 tK 9 8])
 (.seq
 (rg [1,2,3] [
 tEC 10 24 2 2 1 1,
 ld 11 2 10,
 tCS 12 3,
 tK 12 11])
 (.seq
 (rg [1,2,3] [
 tEC 13 24 3 3 1 1,
 ld 14 2 13,
 tCH 15 3,
 tK 15 14])
 (.seq
 (rg [2,3] [
 tEC 16 24 4 4 1 1,
 ld 17 22 16,
 tFC 18 71,
 tO 19 3,
 tEI 28 1 19 18])
 (.seq
 (rg [2] [
 tX 20 3,
 tBA 2 20])
 .ret))))))))
 modes:=[.lend]
 rets:=[⟨2,some (true,5)⟩]}

def b40_0:VC:=
 (.seq
 (rg [0,9,10,11,12] [
 tD 12 11 10])
 (.seq
 (.cond (.t 12)
 .skip
 (.exit 0))
 (.seq
 (.block 1
 (.seq
 (rg [0,3,4,9,10,11] [
 mv 13 11,
 tAD 14 9 11,
 tBK 15 14,
 tDM 4,
 sg 3 13,
 tEI 35 6 4 15])
 (.seq
 (.seq
 (rg [0,3,4,9,10,11,19] [
 tBJ 16 4,
 ld 17 2 16,
 tFC 18 72,
 tF 19 18])
 (.cond (.t 19)
 (.seq
 (rg [2] [
 tAH 2])
 .ret)
 .skip))
 (.seq
 (.seq
 (rg [0,3,4,5,9,10,11] [
 tAC 20 4,
 tX 21 20,
 cl 22 43 [21],
 sg 5 22])
 (.seq
 (rg [0,3,4,5,9,10,11,24] [
 mv 23 5,
 tW 24 23])
 (.cond (.t 24)
 (.seq
 (rg [2] [
 mv 25 5,
 sg 2 25])
 .ret)
 .skip)))
 (.seq
 (.region true [0,9,10,11,48] [
 tAC 26 4,
 tO 27 26,
 ld 28 28 27,
 tCV 29 28,
 tR 30 29,
 ld 31 96 30,
 tAE 32 31,
 vo 33 (.bin false .neq 3 (.t 32) (ci 2)),
 mv 34 33,
 tEF 35 3 34,
 og 36 (.bin false .gtr 3 (.t 35) (ci 0)) 34 false,
 tEF 37 36 34,
 tEQ 38 0 37,
 ⟨some 39,.mov (.t 3),some (37,true),[12]⟩,
 ⟨some 40,.bin false .sub 3 (.t 39) (ci 1),some (37,true),[12]⟩,
 og 41 (.ia 44 35 6 (.t 38) (.t 40)) 37 true,
 tEM 42 35 0 0 1 41 37,
 tEN 43 2 1 42 37,
 ⟨some 44,.fa 35 0 0 1 (.t 4),some (37,true),[12,13,14,15,16,17]⟩,
 ⟨some 45,.load 2 false 1 (.t 44),some (37,true),[12,13,14,15,16,17]⟩,
 og 46 (.bin false .geq 2 (.t 43) (.t 45)) 37 true,
 og 47 (.pick (.t 37) (.t 46) (.c (.bool false))) 34 false,
 tU 48 34 47])
 (.cond (.t 48)
 (.seq
 (rg [2] [
 tAP 2])
 .ret)
 .skip))))))
 (rg [0,9,10,11] [
 tB 49 11,
 mv 11 49]))))
def l40_0:VC:=.loop b40_0
def v40 : VFun := {
 code:=
 (.seq
 (rg [0] [
 tA 2])
 (.seq
 (.seq
 (rg [0,8] [
 mv 6 0,
 tBB 7 6,
 tCX 8 7])
 (.cond (.t 8)
 (.seq
 (rg [2] [
 tAN 2])
 .ret)
 .skip))
 (.seq
 (.seq
 (rg [0,9,10,11] [
 mv 9 0,
 tBB 10 9,
 tT 11])
 (.block 0
 l40_0))
 (.seq
 (rg [2] [
 tA 2])
 .ret))))
 modes:=[.lend]
 rets:=[⟨2,none⟩]}

def v41 : VFun := {
 code:=
 (.seq
 (rg [0,1,2] [
 tC 6])
 (.seq
 (rg [6] [
 mv 7 0,
 mv 8 1,
 vo 9 (.bin false .geq 2 (.t 7) (.t 8)),
 mv 10 9,
 tCW 11 0,
 tCW 12 2,
 og 13 (.bin false .leq 2 (.t 11) (.t 12)) 10 true,
 tAJ 14 10 13,
 sg 6 14])
 .ret))
 modes:=[.lend,.lend,.lend]
 rets:=[⟨6,none⟩]}

def v42 : VFun := {
 code:=
 (.seq
 (rg [1,2,3,4,8] [
 tBX 4 0,
 tAZ 8])
 (.seq
 (rg [1,2,3,8,9] [
 tAC 10 4,
 tX 11 10,
 tFB 12 73,
 tAZ 9,
 tBA 9 12])
 (.seq
 (.region true [8,9] [
 tO 13 9,
 ld 14 28 13,
 tCV 15 14,
 tR 16 15,
 ld 17 96 16,
 tE [0,1,2,3,4] 18 2,
 tE [0,1,2,3,4,5] 19 3,
 tE [0,1,2,3,4,5,6] 20 1,
 wo [0,1,2,3,4,5,6] 21 (.bin false .add 2 (ci 100) (.t 20)),
 tDW [0,1,2,3,4,5,6] 22,
 tEE [2,3,4,6,7,8,9] 23 30 1 1 1 9,
 ⟨none,.store 2 1 (.t 23) (.t 18),none,[2,3,4,6,7,8,9]⟩,
 tEE [2,3,4,7,8,9] 24 30 3 3 1 9,
 ⟨none,.store 2 1 (.t 24) (.t 19),none,[2,3,4,7,8,9]⟩,
 vo 25 (.ia 96 102 2 (.t 17) (ci 1)),
 tAT 26 25,
 tBY 26 22])
 (.seq
 (rg [8] [
 tX 27 9,
 tBA 8 27])
 .ret))))
 modes:=[.lend,.lend,.lend,.lend]
 rets:=[⟨8,some (true,5)⟩]}

def b43_1:VC:=
 (.seq
 (rg [1,51,52,53,54] [
 tD 54 53 52])
 (.seq
 (.cond (.t 54)
 .skip
 (.exit 3))
 (.seq
 (.block 4
 (.seq
 (rg [1,6,7,51,52,53] [
 mv 55 53,
 tAF 56 51 53,
 tAK 57 56,
 tAU 7,
 sg 6 55,
 tAV 7 57])
 (.seq
 (rg [1,51,52,53,62] [
 tAK 58 7,
 cl 59 77 [58],
 mv 60 6,
 tCY 61 60,
 vo 62 (.bin true .neq 4 (.t 59) (.t 61))])
 (.cond (.t 62)
 (.seq
 (rg [2] [
 tAP 2])
 .ret)
 .skip))))
 (rg [1,51,52,53] [
 tB 63 53,
 mv 53 63]))))
def l43_1:VC:=.loop b43_1
def b43_0:VC:=
 (.seq
 (rg [1,38,39,40,41] [
 tD 41 40 39])
 (.seq
 (.cond (.t 41)
 .skip
 (.exit 1))
 (.seq
 (.block 2
 (.seq
 (rg [1,4,38,39,40] [
 tAF 42 38 40,
 tAK 43 42,
 tAU 4,
 tAV 4 43])
 (.seq
 (rg [1,5,38,39,40] [
 tAK 44 4,
 cl 45 76 [44],
 sg 5 45])
 (.seq
 (rg [1,5,38,39,40,47] [
 mv 46 5,
 tW 47 46])
 (.cond (.t 47)
 (.seq
 (rg [2] [
 mv 48 5,
 sg 2 48])
 .ret)
 .skip)))))
 (rg [1,38,39,40] [
 tB 49 40,
 mv 40 49]))))
def l43_0:VC:=.loop b43_0
def v43 : VFun := {
 code:=
 (.seq
 (rg [1] [
 tBE 1 0,
 tA 2])
 (.seq
 (.block 0
 (.seq
 (rg [1,8] [
 tBM 9 1,
 ld 10 2 9,
 cl 11 74 [10],
 tF 12 11,
 mv 13 12,
 tEJ 14 30 1 1 1 1 13,
 tEK 15 2 1 14 13,
 og 16 (.call 41 [(.t 15),(ci 1),(ci 99999)]) 13 false,
 tEG 17 16 13,
 tU 18 13 17,
 mv 19 18,
 tEJ 20 30 2 2 1 1 19,
 tEK 21 2 1 20 19,
 og 22 (.call 75 [(.t 21)]) 19 false,
 tEG 23 22 19,
 tU 24 19 23,
 mv 25 24,
 tEJ 26 30 3 3 1 1 25,
 tEK 27 2 1 26 25,
 og 28 (.call 41 [(.t 27),(ci 0),(ci 65535)]) 25 false,
 tEG 29 28 25,
 tU 30 25 29,
 sg 8 30])
 (.cond (.t 8)
 (.seq
 (rg [2] [
 tAH 2])
 .ret)
 (.seq
 (rg [1,31] [
 tO 32 1,
 ld 33 28 32,
 tAI 34 33,
 vo 35 (.call 41 [(.t 34),(ci 1),(ci 4)]),
 tF 36 35,
 sg 31 36])
 (.cond (.t 31)
 (.seq
 (rg [2] [
 tAN 2])
 .ret)
 .skip)))))
 (.seq
 (.seq
 (rg [1,38,39,40] [
 tO 37 1,
 ld 38 28 37,
 tAI 39 38,
 tT 40])
 (.block 1
 l43_0))
 (.seq
 (.seq
 (rg [1,51,52,53] [
 tO 50 1,
 ld 51 28 50,
 tAI 52 51,
 tT 53])
 (.block 3
 l43_1))
 (.seq
 (.seq
 (rg [66] [
 tX 64 1,
 cl 65 79 [64],
 cl 66 78 [65]])
 (.cond (.t 66)
 (.seq
 (rg [2] [
 tBZ 2])
 .ret)
 .skip))
 (.seq
 (rg [2] [
 tA 2])
 .ret))))))
 modes:=[.lend]
 rets:=[⟨2,none⟩]}

def v44 : VFun := {
 code:=
 (.seq
 (rg [2,3] [
 tBE 2 0,
 tBE 3 1,
 tC 4])
 (.seq
 (.seq
 (rg [2,3,9] [
 tBM 5 2,
 ld 6 2 5,
 tBM 7 3,
 ld 8 2 7,
 tP 9 6 8])
 (.cond (.t 9)
 (.seq
 (rg [4] [
 tC 4])
 .ret)
 .skip))
 (.seq
 (.seq
 (rg [2,3,14] [
 tBR 10 2,
 ld 11 2 10,
 tBR 12 3,
 ld 13 2 12,
 tP 14 11 13])
 (.cond (.t 14)
 (.seq
 (rg [4] [
 tC 4])
 .ret)
 .skip))
 (.seq
 (.seq
 (rg [2,3,19] [
 tCS 15 2,
 ld 16 2 15,
 tCS 17 3,
 ld 18 2 17,
 tP 19 16 18])
 (.cond (.t 19)
 (.seq
 (rg [4] [
 tC 4])
 .ret)
 .skip))
 (.seq
 (.seq
 (rg [2,3,24] [
 tCH 20 2,
 ld 21 2 20,
 tCH 22 3,
 ld 23 2 22,
 tP 24 21 23])
 (.cond (.t 24)
 (.seq
 (rg [4] [
 tC 4])
 .ret)
 .skip))
 (.seq
 (.seq
 (rg [30] [
 tO 25 2,
 ld 26 28 25,
 tO 27 3,
 ld 28 28 27,
 cl 29 80 [26,28],
 tF 30 29])
 (.cond (.t 30)
 (.seq
 (rg [4] [
 tC 4])
 .ret)
 .skip))
 (.seq
 (rg [4] [
 tV 4])
 .ret)))))))
 modes:=[.lend,.lend]
 rets:=[⟨4,none⟩]}

def v45 : VFun := {
 code:=
 (.seq
 (rg [0,1,2] [
 tBE 2 0,
 tA 4])
 (.seq
 (rg [0,1,2] [
 tO 5 2,
 ld 6 28 5,
 mv 7 1,
 tEP 8 51,
 sg 1 8])
 (.seq
 (rg [0,2,4] [
 mv 9 1,
 sg 4 9])
 .ret)))
 modes:=[.io,.lend]
 rets:=[⟨4,none⟩]}

def v46 : VFun := {
 code:=
 (.seq
 (rg [1,2] [
 tBE 2 0,
 tA 4])
 (.seq
 (rg [1] [
 tO 5 2,
 ld 6 28 5,
 mv 7 1,
 tEP 8 81,
 sg 1 8])
 (.seq
 (.seq
 (rg [1,10] [
 mv 9 1,
 tH 10 9])
 (.cond (.t 10)
 (.seq
 (rg [4] [
 tG 4])
 .ret)
 .skip))
 (.seq
 (rg [4] [
 mv 11 1,
 sg 4 11])
 .ret))))
 modes:=[.lend,.lend]
 rets:=[⟨4,none⟩]}

def b47_0:VC:=
 (.seq
 (.seq
 (rg [0,3,11] [
 mv 8 3,
 mv 9 0,
 tBB 10 9,
 tD 11 8 10])
 (.cond (.t 11)
 .skip
 (.exit 0)))
 (.seq
 (.block 1
 (.seq
 (.seq
 (rg [0,3,4] [
 mv 14 0,
 mv 15 3,
 tAD 16 14 15,
 tEV 17 35,
 sg 4 17])
 (.seq
 (rg [0,3,4,19] [
 mv 18 4,
 tW 19 18])
 (.cond (.t 19)
 (.seq
 (rg [2] [
 mv 20 4,
 sg 2 20])
 .ret)
 .skip)))
 (.seq
 (.region true [0,3,36] [
 mv 21 3,
 vo 22 (.bin false .gtr 3 (.t 21) (ci 0)),
 mv 23 22,
 tEQ 24 0 23,
 ⟨some 25,.mov (.t 3),some (23,true),[3]⟩,
 og 26 (.ia 44 35 6 (.t 24) (.t 25)) 23 true,
 tEM 27 35 0 0 1 26 23,
 tEN 28 2 1 27 23,
 ⟨some 29,.mov (.t 0),some (23,true),[3,4,5,6,7]⟩,
 ⟨some 30,.mov (.t 3),some (23,true),[3,4,5,6,7,8]⟩,
 ⟨some 31,.bin false .sub 3 (.t 30) (ci 1),some (23,true),[3,4,5,6,7,8]⟩,
 ⟨some 32,.ia 44 35 6 (.t 29) (.t 31),some (23,true),[3,4,5,6,7]⟩,
 ⟨some 33,.fa 35 0 0 1 (.t 32),some (23,true),[3,4,5,6,7]⟩,
 ⟨some 34,.load 2 false 1 (.t 33),some (23,true),[3,4,5,6,7]⟩,
 og 35 (.bin false .leq 2 (.t 28) (.t 34)) 23 true,
 tAJ 36 23 35])
 (.cond (.t 36)
 (.seq
 (rg [2] [
 tAP 2])
 .ret)
 .skip))))
 (rg [0,3] [
 mv 12 3,
 tB 13 12,
 sg 3 13])))
def l47_0:VC:=.loop b47_0
def v47 : VFun := {
 code:=
 (.seq
 (rg [0] [
 tA 2])
 (.seq
 (.seq
 (rg [0,7] [
 mv 5 0,
 tBB 6 5,
 tCX 7 6])
 (.cond (.t 7)
 (.seq
 (rg [2] [
 tAN 2])
 .ret)
 .skip))
 (.seq
 (.seq
 (rg [0,3] [
 tA 3])
 (.block 0
 l47_0))
 (.seq
 (rg [2] [
 tA 2])
 .ret))))
 modes:=[.lend]
 rets:=[⟨2,none⟩]}

def b51_0:VC:=
 (.seq
 (.seq
 (rg [0,1,5,9] [
 mv 6 5,
 mv 7 0,
 tAI 8 7,
 tD 9 6 8])
 (.cond (.t 9)
 .skip
 (.exit 0)))
 (.seq
 (.block 1
 (.seq
 (rg [0,1,5] [
 mv 12 0,
 mv 13 5,
 mv 14 1,
 tAF 15 12 13,
 tAR 16 15,
 tK 16 14])
 (.seq
 (rg [0,1,5] [
 mv 17 1,
 tB 18 17,
 sg 1 18])
 (.seq
 (rg [0,1,5] [
 mv 19 0,
 mv 20 5,
 tAF 21 19 20,
 tQ 22 21,
 ld 23 95 22,
 mv 24 1,
 cl 25 83 [23,24],
 sg 1 25])
 (rg [0,1,5] [
 mv 26 0,
 mv 27 5,
 tAF 28 26 27,
 tR 29 28,
 ld 30 96 29,
 mv 31 1,
 cl 32 84 [30,31],
 sg 1 32])))))
 (rg [0,1,5] [
 mv 10 5,
 tB 11 10,
 sg 5 11])))
def l51_0:VC:=.loop b51_0
def v51 : VFun := {
 code:=
 (.seq
 (rg [0,1] [
 tA 4])
 (.seq
 (.seq
 (rg [0,1,5] [
 tA 5])
 (.block 0
 l51_0))
 (.seq
 (rg [0,4] [
 mv 33 1,
 sg 4 33])
 .ret)))
 modes:=[.io,.lend]
 rets:=[⟨4,none⟩]}

def v53 : VFun := {
 code:=
 (.seq
 (rg [0,2] [
 tBW 2])
 (.seq
 (rg [2] [
 mv 3 0,
 vo 4 (.build 60 [(.val (.int .i64 0)),(.val (.bool false)),(.val (.int .i64 0)),(.val (.int .i64 0)),(.val (.int .i64 0)),(.val (.int .i64 0)),(.nl 3),(.nl 4)] [(0,0,1,(.t 3))]),
 tN 2 4])
 .ret))
 modes:=[.lend]
 rets:=[⟨2,some (true,8)⟩]}

def b54_0:VC:=
 (.seq
 (.seq
 (rg [0,3,10] [
 mv 7 3,
 mv 8 0,
 tAM 9 8,
 tD 10 7 9])
 (.cond (.t 10)
 .skip
 (.exit 0)))
 (.seq
 (.block 1
 (.seq
 (.seq
 (rg [0,3,17] [
 mv 13 0,
 mv 14 3,
 tAL 15 13 14,
 cl 16 55 [15],
 tF 17 16])
 (.cond (.t 17)
 (.seq
 (rg [2] [
 tAH 2])
 .ret)
 .skip))
 (.seq
 (.region true [0,3,25] [
 mv 18 0,
 tE [0] 19 3,
 vo 20 (.cut 58 (some 63) 4 (.t 18) none (some (.t 19))),
 tE [0,1,2] 21 0,
 tE [0,1,2,3] 22 3,
 wo [0,1,2] 23 (.ia 58 63 4 (.t 21) (.t 22)),
 tBT [0,1,2] 24 23,
 tEX 25 85])
 (.cond (.t 25)
 (.seq
 (rg [2] [
 tBZ 2])
 .ret)
 .skip))))
 (rg [0,3] [
 mv 11 3,
 tB 12 11,
 sg 3 12])))
def l54_0:VC:=.loop b54_0
def v54 : VFun := {
 code:=
 (.seq
 (rg [0] [
 tA 2])
 (.seq
 (.seq
 (rg [0,6] [
 mv 4 0,
 tAM 5 4,
 vo 6 (.bin false .gtr 3 (.t 5) (ci 40))])
 (.cond (.t 6)
 (.seq
 (rg [2] [
 tAN 2])
 .ret)
 .skip))
 (.seq
 (.seq
 (rg [0,3] [
 tA 3])
 (.block 0
 l54_0))
 (.seq
 (rg [2] [
 tA 2])
 .ret))))
 modes:=[.lend]
 rets:=[⟨2,none⟩]}

def v55 : VFun := {
 code:=
 (.seq
 (rg [0] [
 tC 2])
 (.seq
 (rg [2] [
 mv 3 0,
 tM 4 3,
 tBD 5 4,
 ld 6 2 5,
 vo 7 (.call 36 [(.t 6),(ci 0),(ci 9999)]),
 mv 8 7,
 tEQ 9 0 8,
 og 10 (.nilc (.t 9)) 8 true,
 tEM 11 63 1 1 1 10 8,
 tEN 12 2 1 11 8,
 og 13 (.call 36 [(.t 12),(ci 0),(ci 999)]) 8 true,
 tAJ 14 8 13,
 mv 15 14,
 tEQ 16 0 15,
 og 17 (.nilc (.t 16)) 15 true,
 tEM 18 63 2 2 1 17 15,
 tEN 19 2 1 18 15,
 og 20 (.call 36 [(.t 19),(ci 0),(ci 99999)]) 15 true,
 tAJ 21 15 20,
 mv 22 21,
 tEQ 23 0 22,
 og 24 (.nilc (.t 23)) 22 true,
 tEM 25 63 3 3 1 24 22,
 tEN 26 2 1 25 22,
 og 27 (.call 36 [(.t 26),(ci 0),(ci 65535)]) 22 true,
 tAJ 28 22 27,
 sg 2 28])
 .ret))
 modes:=[.lend]
 rets:=[⟨2,none⟩]}

def v56 : VFun := {
 code:=
 (.seq
 (rg [0,1,3,6,8] [
 tBC 6 2,
 tBW 8])
 (.seq
 (rg [0,1,3,6,8,9] [
 mv 13 0,
 tBD 14 6,
 ld 15 2 14,
 cl 16 86 [13,15],
 sg 9 16])
 (.seq
 (.seq
 (rg [0,1,3,6,8,9,18] [
 mv 17 9,
 tH 18 17])
 (.cond (.t 18)
 (.seq
 (rg [8] [
 vo 19 (.call 53 [(ci 4)]),
 tN 8 19])
 .ret)
 .skip))
 (.seq
 (rg [0,1,3,6,8,9,10] [
 mv 20 0,
 mv 21 9,
 tAD 22 20 21,
 tAC 23 22,
 tBR 24 23,
 ld 25 2 24,
 sg 10 25])
 (.seq
 (.seq
 (rg [0,1,3,6,8,9,36] [
 tBS 26 6,
 ld 27 2 26,
 mv 28 10,
 vo 29 (.bin false .lss 2 (.t 27) (.t 28)),
 mv 30 29,
 tEJ 31 63 2 2 1 6 30,
 tEK 32 2 1 31 30,
 tEF 33 10 30,
 og 34 (.bin false .add 2 (.t 33) (ci 60)) 30 false,
 og 35 (.bin false .gtr 2 (.t 32) (.t 34)) 30 false,
 tU 36 30 35])
 (.cond (.t 36)
 (.seq
 (rg [8] [
 vo 37 (.call 53 [(ci 9)]),
 tN 8 37])
 .ret)
 .skip))
 (.seq
 (.seq
 (rg [0,1,3,6,8,9,40] [
 mv 38 1,
 tAQ 39 6,
 cl 40 85 [38,39]])
 (.cond (.t 40)
 (.seq
 (rg [8] [
 vo 41 (.call 53 [(ci 6)]),
 tN 8 41])
 .ret)
 .skip))
 (.seq
 (.region true [1,3,6,8,11] [
 mv 42 0,
 tE [0] 43 9,
 tAD 44 42 43,
 tBK 45 44,
 tEE [0,1,2,3] 46 63 1 1 1 6,
 tL [0,1,2,3] 47 46,
 tEE [0,1,2,3,4,5] 48 63 2 2 1 6,
 tL [0,1,2,3,4,5] 49 48,
 tEE [0,1,2,3,4,5,6,7] 50 63 3 3 1 6,
 tL [0,1,2,3,4,5,6,7] 51 50,
 cl 52 7 [45,47,49,51],
 tDX [0,1,2,3,4,5,6,7,8,9,10] 11,
 tAY 11 52])
 (.seq
 (.seq
 (rg [1,3,6,8,11,55] [
 tCZ 53 11,
 ld 54 2 53,
 tW 55 54])
 (.cond (.t 55)
 (.seq
 (rg [8] [
 tCZ 56 11,
 ld 57 2 56,
 cl 58 53 [57],
 tN 8 58])
 .ret)
 .skip))
 (.seq
 (rg [1,3,6,8,11,12] [
 tEC 59 32 1 1 5 11,
 cl 60 87 [59],
 sg 12 60])
 (.seq
 (.seq
 (rg [1,6,8,11,12,64] [
 mv 61 12,
 mv 62 3,
 vo 63 (.bin false .quo 2 (ci 2147483646) (.t 62)),
 vo 64 (.bin false .gtr 2 (.t 61) (.t 63))])
 (.cond (.t 64)
 (.seq
 (rg [8] [
 vo 65 (.call 53 [(ci 8)]),
 tN 8 65])
 .ret)
 .skip))
 (.seq
 (.seq
 (rg [1,6,8,11,12,68] [
 mv 66 1,
 tAM 67 66,
 vo 68 (.bin false .geq 3 (.t 67) (ci 40))])
 (.cond (.t 68)
 (.seq
 (rg [8] [
 vo 69 (.call 53 [(ci 10)]),
 tN 8 69])
 .ret)
 .skip))
 (.seq
 (.region true [8] [
 mv 70 12,
 tDA [0] 71 11,
 tDB [0] 72 71,
 tL [0] 73 72,
 wo [0] 74 (.call 88 [(.t 73)]),
 vo 75 (.bin false .leq 2 (.t 70) (.t 74)),
 tDA [0,1,2,3,4,5] 76 11,
 tEO [0,1,2,3,4,5] 77 30 5 76,
 wo [0,1,2,3,4,5,6,7] 78 (.lit 58 63 4 0 [(.val (.int .i64 0)),(.val (.int .i64 0)),(.val (.int .i64 0)),(.val (.int .i64 0))] []),
 tE [0,1,2,3,4,5,6,7,8] 79 1,
 wo [0,5,6,7] 80 (.app 58 63 4 32 (.t 78) (.t 79)),
 tBT [0,1,2,3,4,5,6,7,8,9,10] 81 6,
 tDY [0,1,2,3,4,5,6,7,8,9,10] 82,
 wo [0,5,6,7] 83 (.app 58 63 4 32 (.t 80) (.t 82)),
 vo 84 (.build 60 [(.val (.int .i64 0)),(.val (.bool false)),(.val (.int .i64 0)),(.val (.int .i64 0)),(.val (.int .i64 0)),(.val (.int .i64 0)),(.nl 3),(.nl 4)] [(1,1,1,(.t 75)),(2,2,5,(.t 77)),(3,7,1,(.t 83))]),
 tN 8 84])
 .ret))))))))))))
 modes:=[.lend,.lend,.lend,.lend]
 rets:=[⟨8,some (true,8)⟩]}

def b57_0:VC:=
 (.seq
 (rg [0,8,9,10,11] [
 tD 11 10 9])
 (.seq
 (.cond (.t 11)
 .skip
 (.exit 0))
 (.seq
 (.block 1
 (.seq
 (rg [0,3,4,8,9,10] [
 mv 12 10,
 tAL 13 8 10,
 tAQ 14 13,
 tDN 4,
 sg 3 12,
 tEI 63 4 4 14])
 (.block 2
 (.seq
 (rg [0,3,4,8,9,10,15] [
 tAQ 16 4,
 tEV 17 58,
 tF 18 17,
 sg 15 18])
 (.cond (.t 15)
 (.seq
 (rg [2] [
 tAH 2])
 .ret)
 (.seq
 (.region true [0,8,9,10,19] [
 mv 20 0,
 tE [0] 21 3,
 vo 22 (.cut 58 (some 63) 4 (.t 20) none (some (.t 21))),
 tBT [0,1,2] 23 4,
 cl 24 89 [22,23],
 sg 19 24])
 (.cond (.t 19)
 (.seq
 (rg [2] [
 tBZ 2])
 .ret)
 .skip)))))))
 (rg [0,8,9,10] [
 tB 25 10,
 mv 10 25]))))
def l57_0:VC:=.loop b57_0
def v57 : VFun := {
 code:=
 (.seq
 (rg [0] [
 tA 2])
 (.seq
 (.seq
 (rg [0,7] [
 mv 5 0,
 tAM 6 5,
 vo 7 (.bin false .gtr 3 (.t 6) (ci 40))])
 (.cond (.t 7)
 (.seq
 (rg [2] [
 tAN 2])
 .ret)
 .skip))
 (.seq
 (.seq
 (rg [0,8,9,10] [
 mv 8 0,
 tAM 9 8,
 tT 10])
 (.block 0
 l57_0))
 (.seq
 (rg [2] [
 tA 2])
 .ret))))
 modes:=[.lend]
 rets:=[⟨2,none⟩]}

def v58 : VFun := {
 code:=
 (.seq
 (rg [1] [
 tBC 1 0,
 tC 2])
 (.seq
 (rg [2] [
 tBD 3 1,
 ld 4 2 3,
 tER 5 72,
 mv 6 5,
 tEM 7 63 1 1 1 1 6,
 tEN 8 2 1 7 6,
 og 9 (.call 41 [(.t 8),(ci 0),(ci 999)]) 6 true,
 tAJ 10 6 9,
 mv 11 10,
 tEM 12 63 2 2 1 1 11,
 tEN 13 2 1 12 11,
 og 14 (.call 41 [(.t 13),(ci 0),(ci 99999)]) 11 true,
 tAJ 15 11 14,
 mv 16 15,
 tEM 17 63 3 3 1 1 16,
 tEN 18 2 1 17 16,
 og 19 (.call 41 [(.t 18),(ci 0),(ci 65535)]) 16 true,
 tAJ 20 16 19,
 sg 2 20])
 .ret))
 modes:=[.lend]
 rets:=[⟨2,none⟩]}

def v59 : VFun := {
 code:=
 (.seq
 (rg [0] [
 tC 2])
 (.seq
 (rg [2] [
 mv 3 0,
 vo 4 (.call 41 [(.t 3),(ci 1),(ci 9999)]),
 sg 2 4])
 .ret))
 modes:=[.lend]
 rets:=[⟨2,none⟩]}

def v60 : VFun := {
 code:=
 (.seq
 (rg [0,1,3,6,8] [
 tBC 6 2,
 tBW 8])
 (.seq
 (rg [0,1,3,6,8,9] [
 mv 13 0,
 tBD 14 6,
 ld 15 2 14,
 cl 16 90 [13,15],
 sg 9 16])
 (.seq
 (.seq
 (rg [0,1,3,6,8,9,18] [
 mv 17 9,
 tH 18 17])
 (.cond (.t 18)
 (.seq
 (rg [8] [
 vo 19 (.build 60 [(.val (.int .i64 0)),(.val (.bool false)),(.val (.int .i64 0)),(.val (.int .i64 0)),(.val (.int .i64 0)),(.val (.int .i64 0)),(.nl 3),(.nl 4)] [(0,0,1,(ci 4))]),
 tN 8 19])
 .ret)
 .skip))
 (.seq
 (rg [0,1,3,6,8,9,10] [
 mv 20 0,
 mv 21 9,
 tAD 22 20 21,
 tAC 23 22,
 tBR 24 23,
 ld 25 2 24,
 sg 10 25])
 (.seq
 (.block 0
 (.seq
 (rg [0,1,3,6,8,9,26] [
 tBS 27 6,
 ld 28 2 27,
 mv 29 10,
 mv 30 10,
 vo 31 (.bin false .add 2 (.t 30) (ci 60)),
 cl 32 41 [28,29,31],
 tF 33 32,
 sg 26 33])
 (.cond (.t 26)
 (.seq
 (rg [8] [
 vo 34 (.build 60 [(.val (.int .i64 0)),(.val (.bool false)),(.val (.int .i64 0)),(.val (.int .i64 0)),(.val (.int .i64 0)),(.val (.int .i64 0)),(.nl 3),(.nl 4)] [(0,0,1,(ci 9))]),
 tN 8 34])
 .ret)
 (.seq
 (rg [0,1,3,6,8,9,35] [
 mv 36 1,
 tAQ 37 6,
 cl 38 89 [36,37],
 sg 35 38])
 (.cond (.t 35)
 (.seq
 (rg [8] [
 vo 39 (.build 60 [(.val (.int .i64 0)),(.val (.bool false)),(.val (.int .i64 0)),(.val (.int .i64 0)),(.val (.int .i64 0)),(.val (.int .i64 0)),(.nl 3),(.nl 4)] [(0,0,1,(ci 6))]),
 tN 8 39])
 .ret)
 .skip)))))
 (.seq
 (.region true [1,3,6,8,11] [
 mv 40 0,
 tE [0] 41 9,
 tAD 42 40 41,
 tBK 43 42,
 tEE [0,1,2,3] 44 63 1 1 1 6,
 tL [0,1,2,3] 45 44,
 tEE [0,1,2,3,4,5] 46 63 2 2 1 6,
 tL [0,1,2,3,4,5] 47 46,
 tEE [0,1,2,3,4,5,6,7] 48 63 3 3 1 6,
 tL [0,1,2,3,4,5,6,7] 49 48,
 cl 50 9 [43,45,47,49],
 tDX [0,1,2,3,4,5,6,7,8,9,10] 11,
 tAY 11 50])
 (.seq
 (.seq
 (rg [1,3,6,8,11,53] [
 tCZ 51 11,
 ld 52 2 51,
 tW 53 52])
 (.cond (.t 53)
 (.seq
 (rg [8] [
 tCZ 54 11,
 ld 55 2 54,
 vo 56 (.build 60 [(.val (.int .i64 0)),(.val (.bool false)),(.val (.int .i64 0)),(.val (.int .i64 0)),(.val (.int .i64 0)),(.val (.int .i64 0)),(.nl 3),(.nl 4)] [(0,0,1,(.t 55))]),
 tN 8 56])
 .ret)
 .skip))
 (.seq
 (rg [1,3,6,8,11,12] [
 tEC 57 32 1 1 5 11,
 tX 58 57,
 cl 59 91 [58],
 sg 12 59])
 (.seq
 (.block 1
 (.seq
 (rg [1,6,8,11,12,60] [
 mv 61 12,
 mv 62 3,
 vo 63 (.bin false .quo 2 (ci 2147483646) (.t 62)),
 vo 64 (.bin false .gtr 2 (.t 61) (.t 63)),
 sg 60 64])
 (.cond (.t 60)
 (.seq
 (rg [8] [
 vo 65 (.build 60 [(.val (.int .i64 0)),(.val (.bool false)),(.val (.int .i64 0)),(.val (.int .i64 0)),(.val (.int .i64 0)),(.val (.int .i64 0)),(.nl 3),(.nl 4)] [(0,0,1,(ci 8))]),
 tN 8 65])
 .ret)
 (.seq
 (rg [1,6,8,11,12,66] [
 mv 67 1,
 tAM 68 67,
 vo 69 (.bin false .geq 3 (.t 68) (ci 40)),
 sg 66 69])
 (.cond (.t 66)
 (.seq
 (rg [8] [
 vo 70 (.build 60 [(.val (.int .i64 0)),(.val (.bool false)),(.val (.int .i64 0)),(.val (.int .i64 0)),(.val (.int .i64 0)),(.val (.int .i64 0)),(.nl 3),(.nl 4)] [(0,0,1,(ci 10))]),
 tN 8 70])
 .ret)
 .skip)))))
 (.seq
 (.region true [8] [
 mv 71 12,
 tDA [0] 72 11,
 tDB [0] 73 72,
 tL [0] 74 73,
 wo [0] 75 (.call 92 [(.t 74)]),
 vo 76 (.bin false .leq 2 (.t 71) (.t 75)),
 tDA [0,1,2,3,4,5] 77 11,
 tEO [0,1,2,3,4,5] 78 30 5 77,
 tE [0,1,2,3,4,5,6,7] 79 1,
 wo [0,5,6,7] 80 (.call 93 [(.t 79)]),
 tBT [0,1,2,3,4,5,6,7,8,9] 81 6,
 tDY [0,1,2,3,4,5,6,7,8,9] 82,
 wo [0,5,6,7] 83 (.app 58 63 4 32 (.t 80) (.t 82)),
 vo 84 (.build 60 [(.val (.int .i64 0)),(.val (.bool false)),(.val (.int .i64 0)),(.val (.int .i64 0)),(.val (.int .i64 0)),(.val (.int .i64 0)),(.nl 3),(.nl 4)] [(0,0,1,(ci 0)),(1,1,1,(.t 76)),(2,2,5,(.t 78)),(3,7,1,(.t 83))]),
 tN 8 84])
 .ret))))))))))
 modes:=[.lend,.lend,.lend,.lend]
 rets:=[⟨8,some (true,8)⟩]}

def v61 : VFun := {
 code:=
 (.seq
 (rg [2,3] [
 tBC 2 0,
 tBC 3 1,
 tC 4])
 (.seq
 (.seq
 (rg [2,3,9] [
 tBD 5 2,
 ld 6 2 5,
 tBD 7 3,
 ld 8 2 7,
 tP 9 6 8])
 (.cond (.t 9)
 (.seq
 (rg [4] [
 tC 4])
 .ret)
 .skip))
 (.seq
 (.seq
 (rg [2,3,14] [
 tCI 10 2,
 ld 11 2 10,
 tCI 12 3,
 ld 13 2 12,
 tP 14 11 13])
 (.cond (.t 14)
 (.seq
 (rg [4] [
 tC 4])
 .ret)
 .skip))
 (.seq
 (.seq
 (rg [2,3,19] [
 tBS 15 2,
 ld 16 2 15,
 tBS 17 3,
 ld 18 2 17,
 tP 19 16 18])
 (.cond (.t 19)
 (.seq
 (rg [4] [
 tC 4])
 .ret)
 .skip))
 (.seq
 (.seq
 (rg [24] [
 tCJ 20 2,
 ld 21 2 20,
 tCJ 22 3,
 ld 23 2 22,
 tP 24 21 23])
 (.cond (.t 24)
 (.seq
 (rg [4] [
 tC 4])
 .ret)
 .skip))
 (.seq
 (rg [4] [
 tV 4])
 .ret))))))
 modes:=[.lend,.lend]
 rets:=[⟨4,none⟩]}

def b62_0:VC:=
 (.seq
 (.seq
 (rg [0,1,5,9] [
 mv 6 5,
 mv 7 0,
 tAM 8 7,
 tD 9 6 8])
 (.cond (.t 9)
 .skip
 (.exit 0)))
 (.seq
 (.block 1
 (.seq
 (.seq
 (rg [0,1,5,18] [
 mv 12 0,
 mv 13 5,
 tAL 14 12 13,
 tBD 15 14,
 ld 16 2 15,
 mv 17 1,
 tP 18 16 17])
 (.cond (.t 18)
 (.seq
 (rg [4] [
 tG 4])
 .ret)
 .skip))
 (.seq
 (rg [0,1,5] [
 mv 19 1,
 tB 20 19,
 sg 1 20])
 (.seq
 (.seq
 (rg [0,1,5,27] [
 mv 21 0,
 mv 22 5,
 tAL 23 21 22,
 tCI 24 23,
 ld 25 2 24,
 mv 26 1,
 tP 27 25 26])
 (.cond (.t 27)
 (.seq
 (rg [4] [
 tG 4])
 .ret)
 .skip))
 (.seq
 (rg [0,1,5] [
 mv 28 1,
 tB 29 28,
 sg 1 29])
 (.seq
 (.seq
 (rg [0,1,5,36] [
 mv 30 0,
 mv 31 5,
 tAL 32 30 31,
 tBS 33 32,
 ld 34 2 33,
 mv 35 1,
 tP 36 34 35])
 (.cond (.t 36)
 (.seq
 (rg [4] [
 tG 4])
 .ret)
 .skip))
 (.seq
 (rg [0,1,5] [
 mv 37 1,
 tB 38 37,
 sg 1 38])
 (.seq
 (.seq
 (rg [0,1,5,45] [
 mv 39 0,
 mv 40 5,
 tAL 41 39 40,
 tCJ 42 41,
 ld 43 2 42,
 mv 44 1,
 tP 45 43 44])
 (.cond (.t 45)
 (.seq
 (rg [4] [
 tG 4])
 .ret)
 .skip))
 (rg [0,1,5] [
 mv 46 1,
 tB 47 46,
 sg 1 47])))))))))
 (rg [0,1,5] [
 mv 10 5,
 tB 11 10,
 sg 5 11])))
def l62_0:VC:=.loop b62_0
def v62 : VFun := {
 code:=
 (.seq
 (rg [0,1] [
 tA 4])
 (.seq
 (.seq
 (rg [0,1,5] [
 tA 5])
 (.block 0
 l62_0))
 (.seq
 (rg [4] [
 mv 48 1,
 sg 4 48])
 .ret)))
 modes:=[.lend,.lend]
 rets:=[⟨4,none⟩]}

def b63_0:VC:=
 (.seq
 (.seq
 (rg [0,1,5,15] [
 mv 12 5,
 mv 13 0,
 tDC 14 13,
 tD 15 12 14])
 (.cond (.t 15)
 .skip
 (.exit 0)))
 (.seq
 (.block 1
 (.seq
 (rg [0,1,5] [
 mv 18 0,
 mv 19 5,
 tEH 20 22 123 3 18 19,
 tEL 21 123 3 20,
 mv 22 1,
 tFD 23 94,
 sg 1 23])
 (.seq
 (rg [0,1,5,25] [
 mv 24 1,
 tH 25 24])
 (.cond (.t 25)
 (.seq
 (rg [4] [
 tG 4])
 .ret)
 .skip))))
 (rg [0,1,5] [
 mv 16 5,
 tB 17 16,
 sg 5 17])))
def l63_0:VC:=.loop b63_0
def v63 : VFun := {
 code:=
 (.seq
 (rg [0,1] [
 tA 4])
 (.seq
 (rg [0,1] [
 mv 6 1,
 mv 7 0,
 tDC 8 7,
 tBL 9 6 8,
 sg 1 9])
 (.seq
 (.seq
 (rg [0,1,11] [
 mv 10 1,
 tH 11 10])
 (.cond (.t 11)
 (.seq
 (rg [4] [
 tG 4])
 .ret)
 .skip))
 (.seq
 (.seq
 (rg [0,1,5] [
 tA 5])
 (.block 0
 l63_0))
 (.seq
 (rg [4] [
 mv 26 1,
 sg 4 26])
 .ret)))))
 modes:=[.lend,.lend]
 rets:=[⟨4,none⟩]}

def v64 : VFun := {
 code:=
 (.seq
 (rg [1,2] [
 tBE 1 0,
 tAZ 2])
 (.seq
 (rg [1,2] [
 tO 3 1,
 ld 4 28 3,
 tER 5 95,
 tO 6 1,
 tEI 28 1 6 5])
 (.seq
 (rg [2] [
 tX 7 1,
 tBA 2 7])
 .ret)))
 modes:=[.lend]
 rets:=[⟨2,some (true,5)⟩]}

def v65 : VFun := {
 code:=
 (.seq
 (rg [0] [
 tC 2])
 (.seq
 (rg [2] [
 mv 3 0,
 vo 4 (.call 36 [(.t 3),(ci 0),(ci 2147483646)]),
 sg 2 4])
 .ret))
 modes:=[.lend]
 rets:=[⟨2,none⟩]}

def v66 : VFun := {
 code:=
 (.seq
 (rg [0] [
 tC 2])
 (.seq
 (rg [2] [
 mv 3 0,
 vo 4 (.call 36 [(.t 3),(ci 1),(ci 1023)]),
 mv 5 4,
 tEQ 6 0 5,
 og 7 (.bin false .rem 2 (.t 6) (ci 256)) 5 true,
 og 8 (.bin false .gtr 2 (.t 7) (ci 0)) 5 true,
 tAJ 9 5 8,
 sg 2 9])
 .ret))
 modes:=[.lend]
 rets:=[⟨2,none⟩]}

def b67_0:VC:=
 (.seq
 (.seq
 (rg [0,3,39] [
 mv 33 3,
 mv 34 0,
 tM 35 34,
 tQ 36 35,
 ld 37 95 36,
 tZ 38 37,
 tD 39 33 38])
 (.cond (.t 39)
 .skip
 (.exit 0)))
 (.seq
 (.block 1
 (.seq
 (rg [0,3,4] [
 mv 42 0,
 tM 43 42,
 tQ 44 43,
 ld 45 95 44,
 mv 46 3,
 cl 47 96 [45,46],
 sg 4 47])
 (.seq
 (rg [0,3,4,49] [
 mv 48 4,
 tW 49 48])
 (.cond (.t 49)
 (.seq
 (rg [2] [
 mv 50 4,
 sg 2 50])
 .ret)
 .skip))))
 (rg [0,3] [
 mv 40 3,
 tB 41 40,
 sg 3 41])))
def l67_0:VC:=.loop b67_0
def v67 : VFun := {
 code:=
 (.seq
 (rg [0] [
 tA 2])
 (.seq
 (.seq
 (rg [0,10] [
 mv 5 0,
 tM 6 5,
 tAR 7 6,
 ld 8 2 7,
 vo 9 (.call 36 [(.t 8),(ci 0),(ci 65535)]),
 tF 10 9])
 (.cond (.t 10)
 (.seq
 (rg [2] [
 tAH 2])
 .ret)
 .skip))
 (.seq
 (.seq
 (rg [0,32] [
 mv 11 0,
 tM 12 11,
 tQ 13 12,
 ld 14 95 13,
 tZ 15 14,
 tCX 16 15,
 mv 17 16,
 tEF 18 0 17,
 tEU 19 18 17,
 tEJ 20 98 2 2 1 19 17,
 tEK 21 96 1 20 17,
 tFE 22 96 21 17,
 og 23 (.bin false .lss 3 (.t 22) (ci 1)) 17 false,
 tU 24 17 23,
 mv 25 24,
 tEF 26 0 25,
 tEU 27 26 25,
 tEJ 28 98 2 2 1 27 25,
 tEK 29 96 1 28 25,
 tFE 30 96 29 25,
 og 31 (.bin false .gtr 3 (.t 30) (ci 4)) 25 false,
 tU 32 25 31])
 (.cond (.t 32)
 (.seq
 (rg [2] [
 tAN 2])
 .ret)
 .skip))
 (.seq
 (.seq
 (rg [0,3] [
 tA 3])
 (.block 0
 l67_0))
 (.seq
 (rg [2] [
 mv 51 0,
 tM 52 51,
 tR 53 52,
 ld 54 96 53,
 cl 55 97 [54],
 sg 2 55])
 .ret)))))
 modes:=[.lend]
 rets:=[⟨2,none⟩]}

def b68_0:VC:=
 (.seq
 (.seq
 (rg [0,3,10] [
 mv 4 3,
 mv 5 0,
 tM 6 5,
 tO 7 6,
 ld 8 28 7,
 tAI 9 8,
 tD 10 4 9])
 (.cond (.t 10)
 .skip
 (.exit 0)))
 (.seq
 (.block 1
 (.seq
 (rg [0,3,25] [
 mv 13 0,
 tM 14 13,
 tO 15 14,
 ld 16 28 15,
 mv 17 3,
 tAF 18 16 17,
 tQ 19 18,
 ld 20 95 19,
 tZ 21 20,
 tCY 22 21,
 mv 23 3,
 tCY 24 23,
 vo 25 (.bin true .neq 4 (.t 22) (.t 24))])
 (.cond (.t 25)
 (.seq
 (rg [2] [
 tC 2])
 .ret)
 .skip)))
 (rg [0,3] [
 mv 11 3,
 tB 12 11,
 sg 3 12])))
def l68_0:VC:=.loop b68_0
def v68 : VFun := {
 code:=
 (.seq
 (rg [0] [
 tC 2])
 (.seq
 (.seq
 (rg [0,3] [
 tA 3])
 (.block 0
 l68_0))
 (.seq
 (rg [2] [
 tV 2])
 .ret)))
 modes:=[.lend]
 rets:=[⟨2,none⟩]}

def b69_1:VC:=
 (.seq
 (.seq
 (rg [0,3,4,13,27] [
 mv 9 4,
 tB 10 9,
 mv 11 3,
 tJ 12 11,
 tD 13 10 12])
 (.cond (.t 13)
 .skip
 (.exit 2)))
 (.seq
 (.block 3
 (.seq
 (.region true [0,3,4,25,27] [
 mv 16 3,
 tE [0] 17 4,
 tAA 18 16 17,
 ld 19 2 18,
 tE [0,1,2,3] 20 3,
 tE [0,1,2,3,4] 21 4,
 wo [0,1,2,3,4] 22 (.bin false .add 3 (.t 21) (ci 1)),
 tCK [0,1,2,3] 23 20 22,
 tL [0,1,2,3] 24 23,
 tCA 25 19 24])
 (.cond (.t 25)
 (.seq
 (rg [2] [
 tV 2])
 .ret)
 .skip)))
 (rg [0,3,4,27] [
 mv 14 4,
 tDD 15 14,
 sg 4 15])))
def l69_1:VC:=.loop b69_1
def b69_0:VC:=
 (.seq
 (.seq
 (rg [0,3,8,27] [
 mv 6 3,
 tJ 7 6,
 tDE 8 7])
 (.cond (.t 8)
 .skip
 (.exit 0)))
 (.block 1
 (.seq
 (.seq
 (rg [0,3,4,27] [
 tA 4])
 (.block 2
 l69_1))
 (rg [0,3,27] [
 mv 26 3,
 cl 27 98 [26],
 tBU 3 27]))))
def l69_0:VC:=.loop b69_0
def v69 : VFun := {
 code:=
 (.seq
 (rg [0] [
 tC 2])
 (.seq
 (rg [0,3,27] [
 mv 5 0,
 tBU 3 5])
 (.seq
 (.block 0
 l69_0)
 (.seq
 (rg [2] [
 tC 2])
 .ret))))
 modes:=[.eat]
 rets:=[⟨2,none⟩]}

def b70_0:VC:=
 (.seq
 (.seq
 (rg [0,3,4,5,12,24] [
 mv 6 4,
 mv 7 0,
 tM 8 7,
 tO 9 8,
 ld 10 28 9,
 tAI 11 10,
 tD 12 6 11])
 (.cond (.t 12)
 .skip
 (.exit 0)))
 (.seq
 (.block 1
 (rg [0,3,4,5,24] [
 mv 15 3,
 mv 16 0,
 tM 17 16,
 tO 18 17,
 ld 19 28 18,
 mv 20 4,
 tAF 21 19 20,
 cl 22 99 [21],
 vo 23 (.lit 100 2 1 1 [(.val (.int .i64 0))] [(0,(.t 22))]),
 tCL 24 15 23,
 sg 3 24]))
 (rg [0,3,4,5,24] [
 mv 13 4,
 tB 14 13,
 sg 4 14])))
def l70_0:VC:=.loop b70_0
def v70 : VFun := {
 code:=
 (.seq
 (rg [0] [
 tY 2])
 (.seq
 (rg [0,3,5,24] [
 tCM 5,
 sg 3 5])
 (.seq
 (.seq
 (rg [0,3,4,5,24] [
 tA 4])
 (.block 0
 l70_0))
 (.seq
 (rg [2,3,5,24] [
 mv 25 3,
 sg 2 25])
 .ret))))
 modes:=[.lend]
 rets:=[⟨2,none⟩]}

def b71_0:VC:=
 (.seq
 (.seq
 (rg [0,3,4,7,11] [
 mv 8 4,
 mv 9 0,
 tDC 10 9,
 tD 11 8 10])
 (.cond (.t 11)
 .skip
 (.exit 0)))
 (.seq
 (.block 1
 (rg [0,3,4,7] [
 mv 14 3,
 mv 15 4,
 mv 16 0,
 mv 17 4,
 tEH 18 22 123 3 16 17,
 tEL 19 123 3 18,
 tES 20 100,
 tAF 21 14 15,
 tAV 21 20]))
 (rg [0,3,4,7] [
 mv 12 4,
 tB 13 12,
 sg 4 13])))
def l71_0:VC:=.loop b71_0
def v71 : VFun := {
 code:=
 (.seq
 (rg [0] [
 tET 2 3])
 (.seq
 (rg [0,3,7] [
 mv 5 0,
 tDC 6 5,
 vo 7 (.mk 28 98 3 56 [(.val (.int .i64 0)),(.nl 3),(.nl 2)] (.t 6) (.t 6)),
 sg 3 7])
 (.seq
 (.seq
 (rg [0,3,4,7] [
 tA 4])
 (.block 0
 l71_0))
 (.seq
 (rg [2,3,7] [
 mv 22 3,
 sg 2 22])
 .ret))))
 modes:=[.lend]
 rets:=[⟨2,none⟩]}

def v72 : VFun := {
 code:=
 (.seq
 (rg [0] [
 tC 2])
 (.seq
 (rg [2] [
 mv 3 0,
 vo 4 (.call 41 [(.t 3),(ci 0),(ci 9999)]),
 sg 2 4])
 .ret))
 modes:=[.lend]
 rets:=[⟨2,none⟩]}

def v73 : VFun := {
 code:=
 (.seq
 (rg [1,2] [
 tBE 1 0,
 tAZ 2])
 (.seq
 (rg [1,2] [
 tO 3 1,
 ld 4 28 3,
 tER 5 101,
 tO 6 1,
 tEI 28 1 6 5])
 (.seq
 (rg [2] [
 tX 7 1,
 tBA 2 7])
 .ret)))
 modes:=[.lend]
 rets:=[⟨2,some (true,5)⟩]}

def v74 : VFun := {
 code:=
 (.seq
 (rg [0] [
 tC 2])
 (.seq
 (rg [2] [
 mv 3 0,
 vo 4 (.call 41 [(.t 3),(ci 0),(ci 2147483646)]),
 sg 2 4])
 .ret))
 modes:=[.lend]
 rets:=[⟨2,none⟩]}

def v75 : VFun := {
 code:=
 (.seq
 (rg [0] [
 tC 2])
 (.seq
 (rg [2] [
 mv 3 0,
 vo 4 (.call 41 [(.t 3),(ci 1),(ci 1023)]),
 mv 5 4,
 tEQ 6 0 5,
 og 7 (.bin false .rem 2 (.t 6) (ci 256)) 5 true,
 og 8 (.bin false .gtr 2 (.t 7) (ci 0)) 5 true,
 tAJ 9 5 8,
 sg 2 9])
 .ret))
 modes:=[.lend]
 rets:=[⟨2,none⟩]}

def b76_1:VC:=
 (.seq
 (rg [1,45,46,47,48] [
 tD 48 47 46])
 (.seq
 (.cond (.t 48)
 .skip
 (.exit 3))
 (.seq
 (.block 4
 (.seq
 (rg [1,7,45,46,47] [
 tAO 49 45 47,
 tBV 50 49,
 tCB 7,
 tCC 7 50])
 (.seq
 (.seq
 (rg [1,7,45,46,47,54] [
 tBF 51 7,
 ld 52 2 51,
 cl 53 103 [52],
 tF 54 53])
 (.cond (.t 54)
 (.seq
 (rg [2] [
 tAH 2])
 .ret)
 .skip))
 (.seq
 (rg [1,8,45,46,47] [
 tAT 55 7,
 ld 56 100 55,
 cl 57 104 [56],
 sg 8 57])
 (.seq
 (rg [1,8,45,46,47,59] [
 mv 58 8,
 tW 59 58])
 (.cond (.t 59)
 (.seq
 (rg [2] [
 mv 60 8,
 sg 2 60])
 .ret)
 .skip))))))
 (rg [1,45,46,47] [
 tB 61 47,
 mv 47 61]))))
def l76_1:VC:=.loop b76_1
def b76_0:VC:=
 (.seq
 (rg [1,27,28,29,30] [
 tD 30 29 28])
 (.seq
 (.cond (.t 30)
 .skip
 (.exit 1))
 (.seq
 (.block 2
 (.seq
 (rg [1,3,4,27,28,29] [
 mv 31 29,
 tAG 32 27 29,
 tBG 33 32,
 tCD 4,
 sg 3 31,
 tCE 4 33])
 (.seq
 (.region true [1,5,27,28,29] [
 tBG 34 4,
 tBN [0] 35 1,
 tBO [0] 36 35,
 tE [0,1,2] 37 3,
 wo [0] 38 (.cut 95 (some 130) 3 (.t 36) none (some (.t 37))),
 cl 39 102 [34,38],
 sg 5 39])
 (.seq
 (rg [1,5,27,28,29,41] [
 mv 40 5,
 tW 41 40])
 (.cond (.t 41)
 (.seq
 (rg [2] [
 mv 42 5,
 sg 2 42])
 .ret)
 .skip)))))
 (rg [1,27,28,29] [
 tB 43 29,
 mv 29 43]))))
def l76_0:VC:=.loop b76_0
def v76 : VFun := {
 code:=
 (.seq
 (rg [1] [
 tBP 1 0,
 tA 2])
 (.seq
 (.block 0
 (.seq
 (rg [1,9] [
 tAR 10 1,
 ld 11 2 10,
 vo 12 (.call 41 [(.t 11),(ci 0),(ci 65535)]),
 tF 13 12,
 sg 9 13])
 (.cond (.t 9)
 (.seq
 (rg [2] [
 tAH 2])
 .ret)
 (.seq
 (rg [1,14] [
 tQ 15 1,
 ld 16 95 15,
 tZ 17 16,
 tCX 18 17,
 mv 19 18,
 tEJ 20 98 2 2 1 1 19,
 tEK 21 96 1 20 19,
 tFE 22 96 21 19,
 og 23 (.call 41 [(.t 22),(ci 1),(ci 4)]) 19 false,
 tEG 24 23 19,
 tU 25 19 24,
 sg 14 25])
 (.cond (.t 14)
 (.seq
 (rg [2] [
 tAN 2])
 .ret)
 .skip)))))
 (.seq
 (.seq
 (rg [1,27,28,29] [
 tQ 26 1,
 ld 27 95 26,
 tZ 28 27,
 tT 29])
 (.block 1
 l76_0))
 (.seq
 (.seq
 (rg [1,45,46,47] [
 tR 44 1,
 ld 45 96 44,
 tAE 46 45,
 tT 47])
 (.block 3
 l76_1))
 (.seq
 (.seq
 (rg [66] [
 tR 62 1,
 ld 63 96 62,
 cl 64 105 [63],
 cl 65 103 [64],
 tF 66 65])
 (.cond (.t 66)
 (.seq
 (rg [2] [
 vo 2 (.asg (ci 7))])
 .ret)
 .skip))
 (.seq
 (rg [2] [
 tA 2])
 .ret))))))
 modes:=[.lend]
 rets:=[⟨2,none⟩]}

def v77 : VFun := {
 code:=
 (.seq
 (rg [1] [
 tBP 1 0,
 tC 2])
 (.seq
 (rg [2] [
 tQ 3 1,
 ld 4 95 3,
 tZ 5 4,
 tCY 6 5,
 sg 2 6])
 .ret))
 modes:=[.lend]
 rets:=[⟨2,none⟩]}

def b78_1:VC:=
 (.seq
 (.seq
 (rg [0,3,4,13,17] [
 mv 14 4,
 mv 15 3,
 tJ 16 15,
 tD 17 14 16])
 (.cond (.t 17)
 .skip
 (.exit 2)))
 (.seq
 (.block 3
 (.seq
 (.region true [0,3,4,13,29] [
 mv 20 3,
 tE [0] 21 4,
 wo [0] 22 (.bin false .sub 3 (.t 21) (ci 1)),
 tAA 23 20 22,
 ld 24 2 23,
 tE [0,1,2,3,4] 25 3,
 tE [0,1,2,3,4,5] 26 4,
 tCK [0,1,2,3,4] 27 25 26,
 tL [0,1,2,3,4] 28 27,
 tCA 29 24 28])
 (.cond (.t 29)
 (.seq
 (rg [2] [
 tV 2])
 .ret)
 .skip)))
 (rg [0,3,4,13] [
 mv 18 4,
 tDD 19 18,
 sg 4 19])))
def l78_1:VC:=.loop b78_1
def b78_0:VC:=
 (.seq
 (.seq
 (rg [0,3,11,13] [
 mv 9 3,
 tJ 10 9,
 tDE 11 10])
 (.cond (.t 11)
 .skip
 (.exit 0)))
 (.seq
 (.block 1
 (.seq
 (rg [0,3,4,13] [
 tAP 4])
 (.block 2
 l78_1)))
 (rg [0,3,13] [
 mv 12 3,
 cl 13 107 [12],
 tBU 3 13])))
def l78_0:VC:=.loop b78_0
def v78 : VFun := {
 code:=
 (.seq
 (rg [0] [
 tC 2])
 (.seq
 (.seq
 (rg [0,7] [
 mv 5 0,
 cl 6 106 [5],
 tW 7 6])
 (.cond (.t 7)
 (.seq
 (rg [2] [
 tC 2])
 .ret)
 .skip))
 (.seq
 (.seq
 (rg [0,3,13] [
 mv 8 0,
 tBU 3 8])
 (.block 0
 l78_0))
 (.seq
 (rg [2] [
 tC 2])
 .ret))))
 modes:=[.eat]
 rets:=[⟨2,none⟩]}

def b79_0:VC:=
 (.seq
 (rg [1,3,6,8,9,10,11,18] [
 tD 11 10 9])
 (.seq
 (.cond (.t 11)
 .skip
 (.exit 0))
 (.seq
 (.block 1
 (.seq
 (rg [1,3,5,6,8,9,10,18] [
 tAF 12 8 10,
 tAK 13 12,
 tAU 5,
 tAV 5 13])
 (rg [1,3,6,8,9,10,18] [
 mv 14 3,
 tAK 15 5,
 cl 16 108 [15],
 vo 17 (.lit 100 2 1 1 [(.val (.int .i64 0))] [(0,(.t 16))]),
 tCL 18 14 17,
 sg 3 18])))
 (rg [1,3,6,8,9,10,18] [
 tB 19 10,
 mv 10 19]))))
def l79_0:VC:=.loop b79_0
def v79 : VFun := {
 code:=
 (.seq
 (rg [1] [
 tBE 1 0,
 tY 2])
 (.seq
 (rg [1,3,6,18] [
 tCM 6,
 sg 3 6])
 (.seq
 (.seq
 (rg [1,3,6,8,9,10,18] [
 tO 7 1,
 ld 8 28 7,
 tAI 9 8,
 tT 10])
 (.block 0
 l79_0))
 (.seq
 (rg [2,3,6,18] [
 mv 20 3,
 sg 2 20])
 .ret))))
 modes:=[.lend]
 rets:=[⟨2,none⟩]}

def b80_0:VC:=
 (.seq
 (.seq
 (rg [0,1,5,14] [
 mv 11 5,
 mv 12 0,
 tAI 13 12,
 tD 14 11 13])
 (.cond (.t 14)
 .skip
 (.exit 0)))
 (.seq
 (.block 1
 (.seq
 (.region true [0,1,5,26] [
 mv 17 0,
 tE [0] 18 5,
 tAF 19 17 18,
 tAK 20 19,
 tE [0,1,2,3] 21 1,
 tE [0,1,2,3,4] 22 5,
 wo [0,1,2,3] 23 (.ia 28 98 3 (.t 21) (.t 22)),
 tEO [0,1,2,3] 24 98 3 23,
 tEX 25 109,
 tF 26 25])
 (.cond (.t 26)
 (.seq
 (rg [4] [
 tC 4])
 .ret)
 .skip)))
 (rg [0,1,5] [
 mv 15 5,
 tB 16 15,
 sg 5 16])))
def l80_0:VC:=.loop b80_0
def v80 : VFun := {
 code:=
 (.seq
 (rg [0,1] [
 tC 4])
 (.seq
 (.seq
 (rg [0,1,10] [
 mv 6 0,
 tAI 7 6,
 mv 8 1,
 tAI 9 8,
 tBI 10 7 9])
 (.cond (.t 10)
 (.seq
 (rg [4] [
 tC 4])
 .ret)
 .skip))
 (.seq
 (.seq
 (rg [0,1,5] [
 tA 5])
 (.block 0
 l80_0))
 (.seq
 (rg [4] [
 tV 4])
 .ret))))
 modes:=[.lend,.lend]
 rets:=[⟨4,none⟩]}

def b81_0:VC:=
 (.seq
 (.seq
 (rg [0,1,5,9] [
 mv 6 5,
 mv 7 0,
 tAI 8 7,
 tD 9 6 8])
 (.cond (.t 9)
 .skip
 (.exit 0)))
 (.seq
 (.block 1
 (.seq
 (.seq
 (rg [0,1,5,18] [
 mv 12 0,
 mv 13 5,
 tAF 14 12 13,
 tAR 15 14,
 ld 16 2 15,
 mv 17 1,
 tP 18 16 17])
 (.cond (.t 18)
 (.seq
 (rg [4] [
 tG 4])
 .ret)
 .skip))
 (.seq
 (rg [0,1,5] [
 mv 19 1,
 tB 20 19,
 sg 1 20])
 (.seq
 (rg [0,1,5] [
 mv 21 0,
 mv 22 5,
 tAF 23 21 22,
 tQ 24 23,
 ld 25 95 24,
 mv 26 1,
 cl 27 110 [25,26],
 sg 1 27])
 (.seq
 (.seq
 (rg [0,1,5,29] [
 mv 28 1,
 tH 29 28])
 (.cond (.t 29)
 (.seq
 (rg [4] [
 tG 4])
 .ret)
 .skip))
 (.seq
 (rg [0,1,5] [
 mv 30 0,
 mv 31 5,
 tAF 32 30 31,
 tR 33 32,
 ld 34 96 33,
 mv 35 1,
 cl 36 111 [34,35],
 sg 1 36])
 (.seq
 (rg [0,1,5,38] [
 mv 37 1,
 tH 38 37])
 (.cond (.t 38)
 (.seq
 (rg [4] [
 tG 4])
 .ret)
 .skip))))))))
 (rg [0,1,5] [
 mv 10 5,
 tB 11 10,
 sg 5 11])))
def l81_0:VC:=.loop b81_0
def v81 : VFun := {
 code:=
 (.seq
 (rg [0,1] [
 tA 4])
 (.seq
 (.seq
 (rg [0,1,5] [
 tA 5])
 (.block 0
 l81_0))
 (.seq
 (rg [4] [
 mv 39 1,
 sg 4 39])
 .ret)))
 modes:=[.lend,.lend]
 rets:=[⟨4,none⟩]}

def b83_0:VC:=
 (.seq
 (.seq
 (rg [0,1,5,9] [
 mv 6 5,
 mv 7 0,
 tZ 8 7,
 tD 9 6 8])
 (.cond (.t 9)
 .skip
 (.exit 0)))
 (.seq
 (.block 1
 (.seq
 (rg [0,1,5] [
 mv 12 0,
 mv 13 5,
 mv 14 1,
 tAG 15 12 13,
 tAW 16 15,
 tK 16 14])
 (.seq
 (rg [0,1,5] [
 mv 17 1,
 tB 18 17,
 sg 1 18])
 (.seq
 (rg [0,1,5] [
 mv 19 0,
 mv 20 5,
 mv 21 1,
 tAG 22 19 20,
 tCF 23 22,
 tK 23 21])
 (.seq
 (rg [0,1,5] [
 mv 24 1,
 tB 25 24,
 sg 1 25])
 (rg [0,1,5] [
 mv 26 0,
 mv 27 5,
 tAG 28 26 27,
 tAS 29 28,
 ld 30 100 29,
 mv 31 1,
 cl 32 112 [30,31],
 sg 1 32]))))))
 (rg [0,1,5] [
 mv 10 5,
 tB 11 10,
 sg 5 11])))
def l83_0:VC:=.loop b83_0
def v83 : VFun := {
 code:=
 (.seq
 (rg [0,1] [
 tA 4])
 (.seq
 (.seq
 (rg [0,1,5] [
 tA 5])
 (.block 0
 l83_0))
 (.seq
 (rg [0,4] [
 mv 33 1,
 sg 4 33])
 .ret)))
 modes:=[.io,.lend]
 rets:=[⟨4,none⟩]}

def b84_0:VC:=
 (.seq
 (.seq
 (rg [0,1,5,9] [
 mv 6 5,
 mv 7 0,
 tAE 8 7,
 tD 9 6 8])
 (.cond (.t 9)
 .skip
 (.exit 0)))
 (.seq
 (.block 1
 (.seq
 (rg [0,1,5] [
 mv 12 0,
 mv 13 5,
 mv 14 1,
 tAO 15 12 13,
 tBF 16 15,
 tK 16 14])
 (.seq
 (rg [0,1,5] [
 mv 17 1,
 tB 18 17,
 sg 1 18])
 (rg [0,1,5] [
 mv 19 0,
 mv 20 5,
 tAO 21 19 20,
 tAT 22 21,
 ld 23 100 22,
 mv 24 1,
 cl 25 112 [23,24],
 sg 1 25]))))
 (rg [0,1,5] [
 mv 10 5,
 tB 11 10,
 sg 5 11])))
def l84_0:VC:=.loop b84_0
def v84 : VFun := {
 code:=
 (.seq
 (rg [0,1] [
 tA 4])
 (.seq
 (.seq
 (rg [0,1,5] [
 tA 5])
 (.block 0
 l84_0))
 (.seq
 (rg [0,4] [
 mv 26 1,
 sg 4 26])
 .ret)))
 modes:=[.io,.lend]
 rets:=[⟨4,none⟩]}

def b85_0:VC:=
 (.seq
 (.seq
 (rg [0,3,5,9] [
 mv 6 5,
 mv 7 0,
 tAM 8 7,
 tD 9 6 8])
 (.cond (.t 9)
 .skip
 (.exit 0)))
 (.seq
 (.block 1
 (.seq
 (.region true [0,3,5,17] [
 mv 12 0,
 tE [0] 13 5,
 tAL 14 12 13,
 tAQ 15 14,
 tBT [0,1,2,3] 16 3,
 vo 17 (.eqs false 63 [1,1,1,1] (.t 15) (.t 16))])
 (.cond (.t 17)
 (.seq
 (rg [4] [
 tV 4])
 .ret)
 .skip)))
 (rg [0,3,5] [
 mv 10 5,
 tB 11 10,
 sg 5 11])))
def l85_0:VC:=.loop b85_0
def v85 : VFun := {
 code:=
 (.seq
 (rg [0,3] [
 tBC 3 1,
 tC 4])
 (.seq
 (.seq
 (rg [0,3,5] [
 tA 5])
 (.block 0
 l85_0))
 (.seq
 (rg [4] [
 tC 4])
 .ret)))
 modes:=[.lend,.lend]
 rets:=[⟨4,none⟩]}

def b86_0:VC:=
 (.seq
 (.seq
 (rg [0,1,5,9] [
 mv 6 5,
 mv 7 0,
 tBB 8 7,
 tD 9 6 8])
 (.cond (.t 9)
 .skip
 (.exit 0)))
 (.seq
 (.block 1
 (.seq
 (rg [0,1,5,18] [
 mv 12 0,
 mv 13 5,
 tAD 14 12 13,
 tBJ 15 14,
 ld 16 2 15,
 mv 17 1,
 tCA 18 16 17])
 (.cond (.t 18)
 (.seq
 (rg [4] [
 mv 19 5,
 sg 4 19])
 .ret)
 .skip)))
 (rg [0,1,5] [
 mv 10 5,
 tB 11 10,
 sg 5 11])))
def l86_0:VC:=.loop b86_0
def v86 : VFun := {
 code:=
 (.seq
 (rg [0,1] [
 tA 4])
 (.seq
 (.seq
 (rg [0,1,5] [
 tA 5])
 (.block 0
 l86_0))
 (.seq
 (rg [4] [
 tG 4])
 .ret)))
 modes:=[.lend,.lend]
 rets:=[⟨4,none⟩]}

def v87 : VFun := {
 code:=
 (.seq
 (rg [0] [
 tA 2])
 (.seq
 (.region true [2] [
 mv 3 0,
 tM 4 3,
 tBM 5 4,
 ld 6 2 5,
 tE [0,1,2,3] 7 0,
 wo [0,1,2,3] 8 (.call 70 [(.t 7)]),
 wo [0,1,2,3] 9 (.call 114 [(.t 8)]),
 tE [0,1,2,3,4,5,6] 10 0,
 tBH [0,1,2,3,4,5,6] 11 10,
 tEE [0,1,2,3,4,5,6] 12 30 1 1 1 11,
 tL [0,1,2,3,4,5,6] 13 12,
 tE [0,1,2,3,4,5,6,7,8,9,10] 14 0,
 tBH [0,1,2,3,4,5,6,7,8,9,10] 15 14,
 tDB [0,1,2,3,4,5,6,7,8,9,10] 16 15,
 tL [0,1,2,3,4,5,6,7,8,9,10] 17 16,
 tE [0,1,2,3,4,5,6,7,8,9,10,11,12,13,14] 18 0,
 tBH [0,1,2,3,4,5,6,7,8,9,10,11,12,13,14] 19 18,
 tEE [0,1,2,3,4,5,6,7,8,9,10,11,12,13,14] 20 30 3 3 1 19,
 tL [0,1,2,3,4,5,6,7,8,9,10,11,12,13,14] 21 20,
 vo 22 (.lit 100 2 1 5 [(.val (.int .i64 0))] [(0,(.t 6)),(1,(.t 9)),(2,(.t 13)),(3,(.t 17)),(4,(.t 21))]),
 cl 23 113 [22],
 sg 2 23])
 .ret))
 modes:=[.lend]
 rets:=[⟨2,none⟩]}

def v88 : VFun := {
 code:=
 (.seq
 (rg [0] [
 tA 2])
 (.seq
 (rg [0,3] [
 mv 4 0,
 tDO 5 4,
 vo 6 (.bin false .mul 2 (ci 7) (.t 5)),
 vo 7 (.conv 2 135 .u64 (.t 6)),
 sg 3 7])
 (.seq
 (rg [2] [
 mv 8 0,
 tDP 9 8,
 mv 10 3,
 vo 11 (.bin false .shl 2 (.t 9) (.t 10)),
 mv 12 3,
 vo 13 (.bin false .shl 2 (ci 1) (.t 12)),
 tCN 14 11 13,
 vo 15 (.bin false .sub 2 (.t 14) (ci 1)),
 sg 2 15])
 .ret)))
 modes:=[.lend]
 rets:=[⟨2,none⟩]}

def v89 : VFun := {
 code:=
 (.seq
 (rg [0,3] [
 tBC 3 1,
 tC 4])
 (.seq
 (rg [4] [
 mv 5 0,
 tAQ 6 3,
 tFF 7 115,
 tDF 8 7,
 sg 4 8])
 .ret))
 modes:=[.lend,.lend]
 rets:=[⟨4,none⟩]}

def v90 : VFun := {
 code:=
 (.seq
 (rg [0,3] [
 tED 3 2 1,
 tA 4])
 (.seq
 (rg [4] [
 mv 5 0,
 vo 6 (.fn 117 [] [(.t 3)]),
 tFF 7 116,
 sg 4 7])
 .ret))
 modes:=[.lend,.lend]
 rets:=[⟨4,none⟩]}

def v91 : VFun := {
 code:=
 (.seq
 (rg [1] [
 tBE 1 0,
 tA 2])
 (.seq
 (.region true [2] [
 tBM 3 1,
 ld 4 2 3,
 tEO [0,1] 5 30 5 1,
 wo [0,1] 6 (.call 79 [(.t 5)]),
 wo [0,1] 7 (.call 119 [(.t 6)]),
 tEE [0,1,2,3,4] 8 30 1 1 1 1,
 tL [0,1,2,3,4] 9 8,
 tDB [0,1,2,3,4,5,6] 10 1,
 tL [0,1,2,3,4,5,6] 11 10,
 tEE [0,1,2,3,4,5,6,7,8] 12 30 3 3 1 1,
 tL [0,1,2,3,4,5,6,7,8] 13 12,
 vo 14 (.lit 100 2 1 5 [(.val (.int .i64 0))] [(0,(.t 4)),(1,(.t 7)),(2,(.t 9)),(3,(.t 11)),(4,(.t 13))]),
 cl 15 118 [14],
 sg 2 15])
 .ret))
 modes:=[.lend]
 rets:=[⟨2,none⟩]}

def v92 : VFun := {
 code:=
 (.seq
 (rg [0] [
 tA 2])
 (.seq
 (rg [2] [
 mv 3 0,
 tDP 4 3,
 tDQ 5 4,
 mv 6 0,
 tDO 7 6,
 vo 8 (.bin false .mul 2 (ci 7) (.t 7)),
 vo 9 (.bin false .shl 2 (.t 5) (.t 8)),
 vo 10 (.bin false .sub 2 (.t 9) (ci 1)),
 sg 2 10])
 .ret))
 modes:=[.lend]
 rets:=[⟨2,none⟩]}

def v94 : VFun := {
 code:=
 (.seq
 (rg [1,2] [
 tED 2 123 0,
 tA 4])
 (.seq
 (rg [1,2] [
 tEC 5 123 1 1 1 2,
 ld 6 120 5,
 mv 7 1,
 tEP 8 120,
 sg 1 8])
 (.seq
 (.seq
 (rg [1,2,10] [
 mv 9 1,
 tH 10 9])
 (.cond (.t 10)
 (.seq
 (rg [4] [
 tG 4])
 .ret)
 .skip))
 (.seq
 (rg [1] [
 tEC 11 123 2 2 1 2,
 ld 12 121 11,
 mv 13 1,
 cl 14 121 [12,13],
 sg 1 14])
 (.seq
 (.seq
 (rg [1,16] [
 mv 15 1,
 tH 16 15])
 (.cond (.t 16)
 (.seq
 (rg [4] [
 tG 4])
 .ret)
 .skip))
 (.seq
 (rg [4] [
 mv 17 1,
 sg 4 17])
 .ret))))))
 modes:=[.lend,.lend]
 rets:=[⟨4,none⟩]}

def b95_0:VC:=
 (.seq
 (.seq
 (rg [0,3,4,5,9,19] [
 mv 6 4,
 mv 7 0,
 tAI 8 7,
 tD 9 6 8])
 (.cond (.t 9)
 .skip
 (.exit 0)))
 (.seq
 (.block 1
 (rg [0,3,4,5,19] [
 mv 12 3,
 mv 13 0,
 mv 14 4,
 tAF 15 13 14,
 tAK 16 15,
 tEV 17 122,
 vo 18 (.lit 28 98 3 1 [(.val (.int .i64 0)),(.nl 3),(.nl 2)] [(0,(.t 17))]),
 tEW 19 28 98 3 56 12 18,
 sg 3 19]))
 (rg [0,3,4,5,19] [
 mv 10 4,
 tB 11 10,
 sg 4 11])))
def l95_0:VC:=.loop b95_0
def v95 : VFun := {
 code:=
 (.seq
 (rg [0] [
 tET 2 3])
 (.seq
 (rg [0,3,5,19] [
 tDZ 5,
 sg 3 5])
 (.seq
 (.seq
 (rg [0,3,4,5,19] [
 tA 4])
 (.block 0
 l95_0))
 (.seq
 (rg [2,3,5,19] [
 mv 20 3,
 sg 2 20])
 .ret))))
 modes:=[.lend]
 rets:=[⟨2,none⟩]}

def b96_0:VC:=
 (.seq
 (.seq
 (rg [0,1,5,6,38] [
 mv 36 6,
 mv 37 1,
 tD 38 36 37])
 (.cond (.t 38)
 .skip
 (.exit 0)))
 (.seq
 (.block 1
 (.seq
 (.region true [0,1,5,6,62] [
 mv 41 0,
 tE [0] 42 6,
 tAG 43 41 42,
 tAW 44 43,
 ld 45 2 44,
 tE [0,1,2,3,4] 46 5,
 tBH [0,1,2,3,4] 47 46,
 tDG [0,1,2,3,4] 48 47,
 tL [0,1,2,3,4] 49 48,
 tCA 50 45 49,
 mv 51 50,
 tEQ 52 0 51,
 ⟨some 53,.mov (.t 6),some (51,true),[11]⟩,
 og 54 (.ia 95 130 3 (.t 52) (.t 53)) 51 true,
 tEM 55 130 1 1 1 54 51,
 tEN 56 2 1 55 51,
 ⟨some 57,.mov (.t 5),some (51,true),[11,12,13,14,15]⟩,
 ⟨some 58,.nilc (.t 57),some (51,true),[11,12,13,14,15]⟩,
 ⟨some 59,.fa 130 1 1 1 (.t 58),some (51,true),[11,12,13,14,15]⟩,
 ⟨some 60,.load 2 false 1 (.t 59),some (51,true),[11,12,13,14,15]⟩,
 og 61 (.bin false .eql 2 (.t 56) (.t 60)) 51 true,
 tAJ 62 51 61])
 (.cond (.t 62)
 (.seq
 (rg [4] [
 tBZ 4])
 .ret)
 .skip)))
 (rg [0,1,5,6] [
 mv 39 6,
 tB 40 39,
 sg 6 40])))
def l96_0:VC:=.loop b96_0
def v96 : VFun := {
 code:=
 (.seq
 (rg [0,1] [
 tA 4])
 (.seq
 (rg [0,1,5] [
 mv 7 0,
 mv 8 1,
 tAG 9 7 8,
 sg 5 9])
 (.seq
 (.seq
 (rg [0,1,5,23] [
 mv 10 5,
 tM 11 10,
 tAW 12 11,
 ld 13 2 12,
 vo 14 (.call 36 [(.t 13),(ci 0),(ci 2147483646)]),
 tF 15 14,
 mv 16 15,
 tEF 17 5 16,
 tEU 18 17 16,
 tEJ 19 130 1 1 1 18 16,
 tEK 20 2 1 19 16,
 og 21 (.call 36 [(.t 20),(ci 0),(ci 3)]) 16 false,
 tEG 22 21 16,
 tU 23 16 22])
 (.cond (.t 23)
 (.seq
 (rg [4] [
 tAH 4])
 .ret)
 .skip))
 (.seq
 (.seq
 (rg [0,1,5,29] [
 mv 24 5,
 tM 25 24,
 tAS 26 25,
 ld 27 100 26,
 tJ 28 27,
 vo 29 (.bin false .gtr 3 (.t 28) (ci 8))])
 (.cond (.t 29)
 (.seq
 (rg [4] [
 tAN 4])
 .ret)
 .skip))
 (.seq
 (.seq
 (rg [0,1,5,35] [
 mv 30 5,
 tM 31 30,
 tAS 32 31,
 ld 33 100 32,
 vo 34 (.call 123 [(.t 33),(ci 0),(ci 9999)]),
 tF 35 34])
 (.cond (.t 35)
 (.seq
 (rg [4] [
 tAH 4])
 .ret)
 .skip))
 (.seq
 (.seq
 (rg [0,1,5,6] [
 tA 6])
 (.block 0
 l96_0))
 (.seq
 (rg [4] [
 tA 4])
 .ret)))))))
 modes:=[.lend,.lend]
 rets:=[⟨4,none⟩]}

def b97_0:VC:=
 (.seq
 (.seq
 (rg [0,3,4,9] [
 mv 6 4,
 mv 7 0,
 tAE 8 7,
 tD 9 6 8])
 (.cond (.t 9)
 .skip
 (.exit 0)))
 (.seq
 (.block 1
 (.seq
 (.seq
 (rg [0,3,4,18] [
 mv 12 0,
 mv 13 4,
 tAO 14 12 13,
 tBF 15 14,
 ld 16 2 15,
 tEV 17 124,
 tF 18 17])
 (.cond (.t 18)
 (.seq
 (rg [2] [
 tAH 2])
 .ret)
 .skip))
 (.seq
 (.seq
 (rg [0,3,4,5] [
 mv 19 0,
 mv 20 4,
 tAO 21 19 20,
 tAT 22 21,
 ld 23 100 22,
 cl 24 125 [23],
 sg 5 24])
 (.seq
 (rg [0,3,4,5,26] [
 mv 25 5,
 tW 26 25])
 (.cond (.t 26)
 (.seq
 (rg [2] [
 mv 27 5,
 sg 2 27])
 .ret)
 .skip)))
 (rg [0,3,4] [
 mv 28 3,
 mv 29 0,
 mv 30 4,
 tAO 31 29 30,
 tBF 32 31,
 ld 33 2 32,
 tCN 34 28 33,
 sg 3 34]))))
 (rg [0,3,4] [
 mv 10 4,
 tB 11 10,
 sg 4 11])))
def l97_0:VC:=.loop b97_0
def v97 : VFun := {
 code:=
 (.seq
 (rg [0] [
 tA 2])
 (.seq
 (rg [0,3] [
 tA 3])
 (.seq
 (.seq
 (rg [0,3,4] [
 tA 4])
 (.block 0
 l97_0))
 (.seq
 (.seq
 (rg [37] [
 mv 35 3,
 cl 36 124 [35],
 tF 37 36])
 (.cond (.t 37)
 (.seq
 (rg [2] [
 vo 2 (.asg (ci 7))])
 .ret)
 .skip))
 (.seq
 (rg [2] [
 tA 2])
 .ret)))))
 modes:=[.lend]
 rets:=[⟨2,none⟩]}

def b98_0:VC:=
 (.seq
 (.seq
 (rg [0,3,4,5,9,22] [
 mv 6 4,
 mv 7 0,
 tJ 8 7,
 tD 9 6 8])
 (.cond (.t 9)
 .skip
 (.exit 0)))
 (.seq
 (.block 1
 (.region true [0,3,4,5,22] [
 mv 12 3,
 tE [0] 13 0,
 tE [0,1] 14 4,
 tCK [0] 15 13 14,
 tL [0] 16 15,
 tE [0,1,2,3,4] 17 0,
 tE [0,1,2,3,4,5] 18 4,
 wo [0,1,2,3,4] 19 (.call 127 [(.t 17),(.t 18)]),
 wo [0] 20 (.call 126 [(.t 16),(.t 19)]),
 wo [0] 21 (.lit 100 2 1 1 [(.val (.int .i64 0))] [(0,(.t 20))]),
 tCL 22 12 21,
 sg 3 22]))
 (rg [0,3,4,5,22] [
 mv 10 4,
 tDD 11 10,
 sg 4 11])))
def l98_0:VC:=.loop b98_0
def v98 : VFun := {
 code:=
 (.seq
 (rg [0] [
 tY 2])
 (.seq
 (rg [0,3,5,22] [
 tCM 5,
 sg 3 5])
 (.seq
 (.seq
 (rg [0,3,4,5,22] [
 tA 4])
 (.block 0
 l98_0))
 (.seq
 (rg [2,3,5,22] [
 mv 23 3,
 sg 2 23])
 .ret))))
 modes:=[.lend]
 rets:=[⟨2,none⟩]}

def v99 : VFun := {
 code:=
 (.seq
 (rg [0] [
 tA 2])
 (.seq
 (rg [2] [
 mv 3 0,
 vo 4 (.call 129 [(.t 3),(.c (.bool false))]),
 tER 5 128,
 sg 2 5])
 .ret))
 modes:=[.lend]
 rets:=[⟨2,none⟩]}

def v100 : VFun := {
 code:=
 (.seq
 (rg [1,2] [
 tED 1 123 0,
 tAU 2])
 (.seq
 (rg [1,2,3] [
 tAU 3])
 (.seq
 (rg [1,2,3] [
 tEC 4 123 0 0 1 1,
 ld 5 2 4,
 tAR 6 3,
 tK 6 5])
 (.seq
 (rg [1,2,3] [
 tEC 7 123 1 1 1 1,
 ld 8 120 7,
 tEZ 9 130,
 tQ 10 3,
 tDH 10 9])
 (.seq
 (rg [2,3] [
 tEC 11 123 2 2 1 1,
 ld 12 121 11,
 cl 13 131 [12],
 tR 14 3,
 tEI 96 1 14 13])
 (.seq
 (rg [2] [
 tAK 15 3,
 tAV 2 15])
 .ret))))))
 modes:=[.lend]
 rets:=[⟨2,some (true,3)⟩]}

def b101_0:VC:=
 (.seq
 (rg [3,6,7,8,9,10,17] [
 tD 10 9 8])
 (.seq
 (.cond (.t 10)
 .skip
 (.exit 0))
 (.seq
 (.block 1
 (.seq
 (rg [3,5,6,7,8,9,17] [
 tAF 11 7 9,
 tAK 12 11,
 tAU 5,
 tAV 5 12])
 (rg [3,6,7,8,9,17] [
 mv 13 3,
 tAK 14 5,
 cl 15 132 [14],
 vo 16 (.lit 28 98 3 1 [(.val (.int .i64 0)),(.nl 3),(.nl 2)] [(0,(.t 15))]),
 tEW 17 28 98 3 56 13 16,
 sg 3 17])))
 (rg [3,6,7,8,9,17] [
 tB 18 9,
 mv 9 18]))))
def l101_0:VC:=.loop b101_0
def v101 : VFun := {
 code:=
 (.seq
 (rg [0] [
 tET 2 3])
 (.seq
 (rg [0,3,6,17] [
 tDZ 6,
 sg 3 6])
 (.seq
 (.seq
 (rg [3,6,7,8,9,17] [
 mv 7 0,
 tAI 8 7,
 tT 9])
 (.block 0
 l101_0))
 (.seq
 (rg [2,3,6,17] [
 mv 19 3,
 sg 2 19])
 .ret))))
 modes:=[.lend]
 rets:=[⟨2,none⟩]}

def v102 : VFun := {
 code:=
 (.seq
 (rg [1,2] [
 tED 2 130 0,
 tA 4])
 (.seq
 (.block 0
 (.seq
 (rg [1,2,5] [
 tAW 6 2,
 ld 7 2 6,
 tEY 8 74,
 tF 9 8,
 mv 10 9,
 tEJ 11 130 1 1 1 2 10,
 tEK 12 2 1 11 10,
 og 13 (.call 41 [(.t 12),(ci 0),(ci 3)]) 10 false,
 tEG 14 13 10,
 tU 15 10 14,
 sg 5 15])
 (.cond (.t 5)
 (.seq
 (rg [4] [
 tAH 4])
 .ret)
 (.seq
 (rg [1,2,16] [
 tAS 17 2,
 ld 18 100 17,
 tJ 19 18,
 vo 20 (.bin false .gtr 3 (.t 19) (ci 8)),
 sg 16 20])
 (.cond (.t 16)
 (.seq
 (rg [4] [
 tAN 4])
 .ret)
 (.seq
 (rg [1,2,21] [
 tAS 22 2,
 ld 23 100 22,
 vo 24 (.call 133 [(.t 23),(.f 134)]),
 sg 21 24])
 (.cond (.t 21)
 (.seq
 (rg [4] [
 tAH 4])
 .ret)
 (.seq
 (rg [25] [
 mv 26 1,
 vo 27 (.fn 136 [] [(.t 2)]),
 cl 28 135 [26,27],
 sg 25 28])
 (.cond (.t 25)
 (.seq
 (rg [4] [
 tBZ 4])
 .ret)
 .skip)))))))))
 (.seq
 (rg [4] [
 tA 4])
 .ret)))
 modes:=[.lend,.lend]
 rets:=[⟨4,none⟩]}

def v103 : VFun := {
 code:=
 (.seq
 (rg [0] [
 tC 2])
 (.seq
 (rg [2] [
 mv 3 0,
 vo 4 (.call 41 [(.t 3),(ci 0),(ci 1000000)]),
 sg 2 4])
 .ret))
 modes:=[.lend]
 rets:=[⟨2,none⟩]}

def v104 : VFun := {
 code:=
 (.seq
 (rg [0] [
 tA 2])
 (.seq
 (.seq
 (rg [0,5] [
 mv 3 0,
 tJ 4 3,
 vo 5 (.bin false .gtr 3 (.t 4) (ci 12))])
 (.cond (.t 5)
 (.seq
 (rg [2] [
 tAN 2])
 .ret)
 .skip))
 (.seq
 (.seq
 (rg [7] [
 mv 6 0,
 vo 7 (.call 133 [(.t 6),(.f 137)])])
 (.cond (.t 7)
 (.seq
 (rg [2] [
 tAP 2])
 .ret)
 .skip))
 (.seq
 (rg [2] [
 tA 2])
 .ret))))
 modes:=[.lend]
 rets:=[⟨2,none⟩]}

def b105_0:VC:=
 (.seq
 (rg [3,6,7,8,9] [
 tD 9 8 7])
 (.seq
 (.cond (.t 9)
 .skip
 (.exit 0))
 (.seq
 (.block 1
 (.seq
 (rg [3,5,6,7,8] [
 tAO 10 6 8,
 tBV 11 10,
 tCB 5,
 tCC 5 11])
 (rg [3,6,7,8] [
 mv 12 3,
 tBF 13 5,
 ld 14 2 13,
 tCN 15 12 14,
 sg 3 15])))
 (rg [3,6,7,8] [
 tB 16 8,
 mv 8 16]))))
def l105_0:VC:=.loop b105_0
def v105 : VFun := {
 code:=
 (.seq
 (rg [0] [
 tA 2])
 (.seq
 (rg [0,3] [
 tA 3])
 (.seq
 (.seq
 (rg [3,6,7,8] [
 mv 6 0,
 tAE 7 6,
 tT 8])
 (.block 0
 l105_0))
 (.seq
 (rg [2] [
 mv 17 3,
 sg 2 17])
 .ret))))
 modes:=[.lend]
 rets:=[⟨2,none⟩]}

def v106 : VFun := {
 code:=
 (.seq
 (rg [0] [
 tA 2])
 (.seq
 (.seq
 (rg [0,6] [
 mv 3 0,
 tJ 4 3,
 vo 5 (.call 41 [(.t 4),(ci 1),(ci 8)]),
 tF 6 5])
 (.cond (.t 6)
 (.seq
 (rg [2] [
 tAN 2])
 .ret)
 .skip))
 (.seq
 (rg [2] [
 mv 7 0,
 tEY 8 138,
 sg 2 8])
 .ret)))
 modes:=[.lend]
 rets:=[⟨2,none⟩]}

def b107_0:VC:=
 (.seq
 (.seq
 (rg [0,3,4,5,9,23] [
 mv 6 4,
 mv 7 0,
 tJ 8 7,
 tD 9 6 8])
 (.cond (.t 9)
 .skip
 (.exit 0)))
 (.seq
 (.block 1
 (.region true [0,3,4,5,23] [
 mv 12 3,
 tE [0] 13 0,
 tE [0,1] 14 4,
 tCK [0] 15 13 14,
 tL [0] 16 15,
 tE [0,1,2,3,4] 17 0,
 tE [0,1,2,3,4,5] 18 4,
 wo [0,1,2,3,4] 19 (.call 139 [(.t 17),(.t 18)]),
 wo [0] 20 (.lit 100 2 1 2 [(.val (.int .i64 0))] [(0,(.t 16)),(1,(.t 19))]),
 wo [0] 21 (.call 118 [(.t 20)]),
 tDW [0] 22,
 tCL 23 12 22,
 sg 3 23]))
 (rg [0,3,4,5,23] [
 mv 10 4,
 tDD 11 10,
 sg 4 11])))
def l107_0:VC:=.loop b107_0
def v107 : VFun := {
 code:=
 (.seq
 (rg [0] [
 tY 2])
 (.seq
 (rg [0,3,5,23] [
 tCM 5,
 sg 3 5])
 (.seq
 (.seq
 (rg [0,3,4,5,23] [
 tA 4])
 (.block 0
 l107_0))
 (.seq
 (rg [2,3,5,23] [
 mv 24 3,
 sg 2 24])
 .ret))))
 modes:=[.lend]
 rets:=[⟨2,none⟩]}

def b108_0:VC:=
 (.seq
 (rg [1,3,12,13,14,15] [
 tD 15 14 13])
 (.seq
 (.cond (.t 15)
 .skip
 (.exit 0))
 (.seq
 (.block 1
 (.seq
 (rg [1,3,5,12,13,14] [
 tAG 16 12 14,
 tBG 17 16,
 tCD 5,
 tCE 5 17])
 (rg [1,3,12,13,14] [
 tQ 18 3,
 ld 19 95 18,
 tAW 20 5,
 ld 21 2 20,
 tCF 22 5,
 ld 23 2 22,
 vo 24 (.build 130 [(.val (.int .i64 0)),(.val (.int .i64 0)),(.nl 1)] [(0,0,1,(.t 21)),(1,1,1,(.t 23))]),
 tEA 25,
 tEW 26 95 130 3 40 19 25,
 tQ 27 3,
 tDH 27 26])))
 (rg [1,3,12,13,14] [
 tB 28 14,
 mv 14 28]))))
def l108_0:VC:=.loop b108_0
def v108 : VFun := {
 code:=
 (.seq
 (rg [1] [
 tBP 1 0,
 tA 2])
 (.seq
 (rg [1,3] [
 tAR 6 1,
 ld 7 2 6,
 tR 8 1,
 ld 9 96 8,
 vo 10 (.build 98 [(.val (.int .i64 0)),(.nl 3),(.nl 2)] [(0,0,1,(.t 7)),(1,1,1,(.n 3)),(2,2,1,(.t 9))]),
 tAU 3,
 tAV 3 10])
 (.seq
 (.seq
 (rg [1,3,12,13,14] [
 tQ 11 1,
 ld 12 95 11,
 tZ 13 12,
 tT 14])
 (.block 0
 l108_0))
 (.seq
 (rg [2] [
 tAK 29 3,
 cl 30 141 [29],
 cl 31 140 [30],
 sg 2 31])
 .ret))))
 modes:=[.lend]
 rets:=[⟨2,none⟩]}

def v109 : VFun := {
 code:=
 (.seq
 (rg [2,3] [
 tBP 2 0,
 tBP 3 1,
 tC 4])
 (.seq
 (.seq
 (rg [2,3,9] [
 tAR 5 2,
 ld 6 2 5,
 tAR 7 3,
 ld 8 2 7,
 tP 9 6 8])
 (.cond (.t 9)
 (.seq
 (rg [4] [
 tC 4])
 .ret)
 .skip))
 (.seq
 (.seq
 (rg [2,3,15] [
 tQ 10 2,
 ld 11 95 10,
 tQ 12 3,
 ld 13 95 12,
 cl 14 142 [11,13],
 tF 15 14])
 (.cond (.t 15)
 (.seq
 (rg [4] [
 tC 4])
 .ret)
 .skip))
 (.seq
 (.seq
 (rg [21] [
 tR 16 2,
 ld 17 96 16,
 tR 18 3,
 ld 19 96 18,
 cl 20 143 [17,19],
 tF 21 20])
 (.cond (.t 21)
 (.seq
 (rg [4] [
 tC 4])
 .ret)
 .skip))
 (.seq
 (rg [4] [
 tV 4])
 .ret)))))
 modes:=[.lend,.lend]
 rets:=[⟨4,none⟩]}

def b110_0:VC:=
 (.seq
 (.seq
 (rg [0,1,5,9] [
 mv 6 5,
 mv 7 0,
 tZ 8 7,
 tD 9 6 8])
 (.cond (.t 9)
 .skip
 (.exit 0)))
 (.seq
 (.block 1
 (.seq
 (.seq
 (rg [0,1,5,18] [
 mv 12 0,
 mv 13 5,
 tAG 14 12 13,
 tAW 15 14,
 ld 16 2 15,
 mv 17 1,
 tP 18 16 17])
 (.cond (.t 18)
 (.seq
 (rg [4] [
 tG 4])
 .ret)
 .skip))
 (.seq
 (rg [0,1,5] [
 mv 19 1,
 tB 20 19,
 sg 1 20])
 (.seq
 (.seq
 (rg [0,1,5,27] [
 mv 21 0,
 mv 22 5,
 tAG 23 21 22,
 tCF 24 23,
 ld 25 2 24,
 mv 26 1,
 tP 27 25 26])
 (.cond (.t 27)
 (.seq
 (rg [4] [
 tG 4])
 .ret)
 .skip))
 (.seq
 (rg [0,1,5] [
 mv 28 1,
 tB 29 28,
 sg 1 29])
 (.seq
 (rg [0,1,5] [
 mv 30 0,
 mv 31 5,
 tAG 32 30 31,
 tAS 33 32,
 ld 34 100 33,
 mv 35 1,
 cl 36 144 [34,35],
 sg 1 36])
 (.seq
 (rg [0,1,5,38] [
 mv 37 1,
 tH 38 37])
 (.cond (.t 38)
 (.seq
 (rg [4] [
 tG 4])
 .ret)
 .skip))))))))
 (rg [0,1,5] [
 mv 10 5,
 tB 11 10,
 sg 5 11])))
def l110_0:VC:=.loop b110_0
def v110 : VFun := {
 code:=
 (.seq
 (rg [0,1] [
 tA 4])
 (.seq
 (.seq
 (rg [0,1,5] [
 tA 5])
 (.block 0
 l110_0))
 (.seq
 (rg [4] [
 mv 39 1,
 sg 4 39])
 .ret)))
 modes:=[.lend,.lend]
 rets:=[⟨4,none⟩]}

def b111_0:VC:=
 (.seq
 (.seq
 (rg [0,1,5,9] [
 mv 6 5,
 mv 7 0,
 tAE 8 7,
 tD 9 6 8])
 (.cond (.t 9)
 .skip
 (.exit 0)))
 (.seq
 (.block 1
 (.seq
 (.seq
 (rg [0,1,5,18] [
 mv 12 0,
 mv 13 5,
 tAO 14 12 13,
 tBF 15 14,
 ld 16 2 15,
 mv 17 1,
 tP 18 16 17])
 (.cond (.t 18)
 (.seq
 (rg [4] [
 tG 4])
 .ret)
 .skip))
 (.seq
 (rg [0,1,5] [
 mv 19 1,
 tB 20 19,
 sg 1 20])
 (.seq
 (rg [0,1,5] [
 mv 21 0,
 mv 22 5,
 tAO 23 21 22,
 tAT 24 23,
 ld 25 100 24,
 mv 26 1,
 cl 27 144 [25,26],
 sg 1 27])
 (.seq
 (rg [0,1,5,29] [
 mv 28 1,
 tH 29 28])
 (.cond (.t 29)
 (.seq
 (rg [4] [
 tG 4])
 .ret)
 .skip))))))
 (rg [0,1,5] [
 mv 10 5,
 tB 11 10,
 sg 5 11])))
def l111_0:VC:=.loop b111_0
def v111 : VFun := {
 code:=
 (.seq
 (rg [0,1] [
 tA 4])
 (.seq
 (.seq
 (rg [0,1,5] [
 tA 5])
 (.block 0
 l111_0))
 (.seq
 (rg [4] [
 mv 30 1,
 sg 4 30])
 .ret)))
 modes:=[.lend,.lend]
 rets:=[⟨4,none⟩]}

def b112_0:VC:=
 (.seq
 (.seq
 (rg [0,1,5,9] [
 mv 6 5,
 mv 7 0,
 tJ 8 7,
 tD 9 6 8])
 (.cond (.t 9)
 .skip
 (.exit 0)))
 (.seq
 (.block 1
 (.seq
 (rg [0,1,5] [
 mv 12 0,
 mv 13 5,
 mv 14 1,
 tAA 15 12 13,
 tK 15 14])
 (rg [0,1,5] [
 mv 16 1,
 tB 17 16,
 sg 1 17])))
 (rg [0,1,5] [
 mv 10 5,
 tB 11 10,
 sg 5 11])))
def l112_0:VC:=.loop b112_0
def v112 : VFun := {
 code:=
 (.seq
 (rg [0,1] [
 tA 4])
 (.seq
 (.seq
 (rg [0,1,5] [
 tA 5])
 (.block 0
 l112_0))
 (.seq
 (rg [0,4] [
 mv 18 1,
 sg 4 18])
 .ret)))
 modes:=[.io,.lend]
 rets:=[⟨4,none⟩]}

def b113_0:VC:=
 (.seq
 (.seq
 (rg [0,3,4,5,9,18] [
 mv 6 4,
 mv 7 0,
 tJ 8 7,
 tD 9 6 8])
 (.cond (.t 9)
 .skip
 (.exit 0)))
 (.seq
 (.block 1
 (rg [0,3,4,5,18] [
 mv 12 3,
 mv 13 0,
 mv 14 4,
 tAA 15 13 14,
 ld 16 2 15,
 tEV 17 145,
 tAB 18 12 17,
 sg 3 18]))
 (rg [0,3,4,5,18] [
 mv 10 4,
 tB 11 10,
 sg 4 11])))
def l113_0:VC:=.loop b113_0
def v113 : VFun := {
 code:=
 (.seq
 (rg [0] [
 tA 2])
 (.seq
 (rg [0,3,5,18] [
 vo 5 (.lit 148 5 1 0 [(.val (.int .u8 0))] []),
 sg 3 5])
 (.seq
 (.seq
 (rg [0,3,4,5,18] [
 tA 4])
 (.block 0
 l113_0))
 (.seq
 (rg [2] [
 mv 19 3,
 tES 20 128,
 sg 2 20])
 .ret))))
 modes:=[.lend]
 rets:=[⟨2,none⟩]}

def b114_0:VC:=
 (.seq
 (.seq
 (rg [0,3,7,9] [
 mv 5 3,
 tJ 6 5,
 tDE 7 6])
 (.cond (.t 7)
 .skip
 (.exit 0)))
 (.block 1
 (rg [0,3,9] [
 mv 8 3,
 tEZ 9 98,
 tBU 3 9])))
def l114_0:VC:=.loop b114_0
def v114 : VFun := {
 code:=
 (.seq
 (rg [0] [
 tA 2])
 (.seq
 (rg [0,3,9] [
 mv 4 0,
 tBU 3 4])
 (.seq
 (.block 0
 l114_0)
 (.seq
 (rg [2] [
 mv 10 3,
 vo 11 (.ia 100 2 1 (.t 10) (ci 0)),
 ld 12 2 11,
 sg 2 12])
 .ret))))
 modes:=[.eat]
 rets:=[⟨2,none⟩]}

def b115_0:VC:=
 (.seq
 (rg [0,3,7,8,9] [
 tD 9 8 7])
 (.seq
 (.cond (.t 9)
 .skip
 (.exit 0))
 (.seq
 (.block 1
 (.seq
 (rg [0,3,5,7,8] [
 mv 10 8,
 sg 5 10])
 (.seq
 (.region true [0,3,5,7,8,16] [
 tAQ 11 3,
 tE [0] 12 0,
 tE [0,1] 13 5,
 wo [0] 14 (.ia 58 63 4 (.t 12) (.t 13)),
 tBT [0] 15 14,
 vo 16 (.eqs false 63 [1,1,1,1] (.t 11) (.t 15))])
 (.cond (.t 16)
 (.seq
 (rg [4] [
 mv 17 5,
 sg 4 17])
 .ret)
 .skip))))
 (rg [0,3,7,8] [
 tB 18 8,
 mv 8 18]))))
def l115_0:VC:=.loop b115_0
def v115 : VFun := {
 code:=
 (.seq
 (rg [0,3] [
 tBC 3 1,
 tA 4])
 (.seq
 (.seq
 (rg [0,3,7,8] [
 mv 6 0,
 tAM 7 6,
 tT 8])
 (.block 0
 l115_0))
 (.seq
 (rg [4] [
 tG 4])
 .ret)))
 modes:=[.lend,.lend]
 rets:=[⟨4,none⟩]}

def b116_0:VC:=
 (.seq
 (rg [0,1,7,8,9] [
 tD 9 8 7])
 (.seq
 (.cond (.t 9)
 .skip
 (.exit 0))
 (.seq
 (.block 1
 (.seq
 (rg [0,1,5,7,8] [
 mv 10 8,
 sg 5 10])
 (.seq
 (rg [0,1,5,7,8,16] [
 mv 11 1,
 mv 12 0,
 mv 13 5,
 tAD 14 12 13,
 tBK 15 14,
 vo 16 (.callv (.t 11) [(.t 15)])])
 (.cond (.t 16)
 (.seq
 (rg [4] [
 mv 17 5,
 sg 4 17])
 .ret)
 .skip))))
 (rg [0,1,7,8] [
 tB 18 8,
 mv 8 18]))))
def l116_0:VC:=.loop b116_0
def v116 : VFun := {
 code:=
 (.seq
 (rg [0,1] [
 tA 4])
 (.seq
 (.seq
 (rg [0,1,7,8] [
 mv 6 0,
 tBB 7 6,
 tT 8])
 (.block 0
 l116_0))
 (.seq
 (rg [4] [
 tG 4])
 .ret)))
 modes:=[.lend,.lend]
 rets:=[⟨4,none⟩]}

def v117 : VFun := {
 code:=
 (.seq
 (rg [1,2] [
 tBX 2 0,
 tC 3])
 (.seq
 (rg [3] [
 tBJ 4 2,
 ld 5 2 4,
 ld 6 2 1,
 tCA 7 5 6,
 sg 3 7])
 .ret))
 modes:=[.lend,.lend]
 rets:=[⟨3,none⟩]}

def b118_0:VC:=
 (.seq
 (rg [3,6,7,8,9,10,16] [
 tD 10 9 8])
 (.seq
 (.cond (.t 10)
 .skip
 (.exit 0))
 (.seq
 (.block 1
 (.seq
 (rg [3,5,6,7,8,9,16] [
 tAA 11 7 9,
 ld 12 2 11,
 sg 5 12])
 (rg [3,6,7,8,9,16] [
 mv 13 3,
 mv 14 5,
 vo 15 (.call 146 [(.t 14),(ci 4)]),
 tAB 16 13 15,
 sg 3 16])))
 (rg [3,6,7,8,9,16] [
 tB 17 9,
 mv 9 17]))))
def l118_0:VC:=.loop b118_0
def v118 : VFun := {
 code:=
 (.seq
 (rg [0] [
 tA 2])
 (.seq
 (rg [0,3,6,16] [
 vo 6 (.lit 148 5 1 0 [(.val (.int .u8 0))] []),
 sg 3 6])
 (.seq
 (.seq
 (rg [3,6,7,8,9,16] [
 mv 7 0,
 tJ 8 7,
 tT 9])
 (.block 0
 l118_0))
 (.seq
 (rg [2] [
 mv 18 3,
 cl 19 140 [18],
 sg 2 19])
 .ret))))
 modes:=[.lend]
 rets:=[⟨2,none⟩]}

def b119_0:VC:=
 (.seq
 (.seq
 (rg [0,5,7] [
 mv 3 0,
 tJ 4 3,
 tDE 5 4])
 (.cond (.t 5)
 .skip
 (.exit 0)))
 (.block 1
 (rg [0,7] [
 mv 6 0,
 cl 7 107 [6],
 tBU 0 7])))
def l119_0:VC:=.loop b119_0
def v119 : VFun := {
 code:=
 (.seq
 (rg [0,7] [
 tA 2])
 (.seq
 (.block 0
 l119_0)
 (.seq
 (rg [2] [
 mv 8 0,
 vo 9 (.ia 100 2 1 (.t 8) (ci 0)),
 ld 10 2 9,
 sg 2 10])
 .ret)))
 modes:=[.eat]
 rets:=[⟨2,none⟩]}

def b120_0:VC:=
 (.seq
 (.seq
 (rg [0,1,5,15] [
 mv 12 5,
 mv 13 0,
 tDI 14 13,
 tD 15 12 14])
 (.cond (.t 15)
 .skip
 (.exit 0)))
 (.seq
 (.block 1
 (.seq
 (rg [0,1,5] [
 mv 18 0,
 mv 19 5,
 tEH 20 120 161 3 18 19,
 tEL 21 161 3 20,
 mv 22 1,
 tFD 23 147,
 sg 1 23])
 (.seq
 (rg [0,1,5,25] [
 mv 24 1,
 tH 25 24])
 (.cond (.t 25)
 (.seq
 (rg [4] [
 tG 4])
 .ret)
 .skip))))
 (rg [0,1,5] [
 mv 16 5,
 tB 17 16,
 sg 5 17])))
def l120_0:VC:=.loop b120_0
def v120 : VFun := {
 code:=
 (.seq
 (rg [0,1] [
 tA 4])
 (.seq
 (rg [0,1] [
 mv 6 1,
 mv 7 0,
 tDI 8 7,
 tBL 9 6 8,
 sg 1 9])
 (.seq
 (.seq
 (rg [0,1,11] [
 mv 10 1,
 tH 11 10])
 (.cond (.t 11)
 (.seq
 (rg [4] [
 tG 4])
 .ret)
 .skip))
 (.seq
 (.seq
 (rg [0,1,5] [
 tA 5])
 (.block 0
 l120_0))
 (.seq
 (rg [4] [
 mv 26 1,
 sg 4 26])
 .ret)))))
 modes:=[.lend,.lend]
 rets:=[⟨4,none⟩]}

def b121_0:VC:=
 (.seq
 (.seq
 (rg [0,1,5,15] [
 mv 12 5,
 mv 13 0,
 tDJ 14 13,
 tD 15 12 14])
 (.cond (.t 15)
 .skip
 (.exit 0)))
 (.seq
 (.block 1
 (.seq
 (rg [0,1,5] [
 mv 18 0,
 mv 19 5,
 tEH 20 121 163 2 18 19,
 tEL 21 163 2 20,
 mv 22 1,
 tFD 23 148,
 sg 1 23])
 (.seq
 (rg [0,1,5,25] [
 mv 24 1,
 tH 25 24])
 (.cond (.t 25)
 (.seq
 (rg [4] [
 tG 4])
 .ret)
 .skip))))
 (rg [0,1,5] [
 mv 16 5,
 tB 17 16,
 sg 5 17])))
def l121_0:VC:=.loop b121_0
def v121 : VFun := {
 code:=
 (.seq
 (rg [0,1] [
 tA 4])
 (.seq
 (rg [0,1] [
 mv 6 1,
 mv 7 0,
 tDJ 8 7,
 tBL 9 6 8,
 sg 1 9])
 (.seq
 (.seq
 (rg [0,1,11] [
 mv 10 1,
 tH 11 10])
 (.cond (.t 11)
 (.seq
 (rg [4] [
 tG 4])
 .ret)
 .skip))
 (.seq
 (.seq
 (rg [0,1,5] [
 tA 5])
 (.block 0
 l121_0))
 (.seq
 (rg [4] [
 mv 26 1,
 sg 4 26])
 .ret)))))
 modes:=[.lend,.lend]
 rets:=[⟨4,none⟩]}

def b122_1:VC:=
 (.seq
 (.seq
 (rg [1,2,3,5,45] [
 mv 41 5,
 tR 42 1,
 ld 43 96 42,
 tAE 44 43,
 tD 45 41 44])
 (.cond (.t 45)
 .skip
 (.exit 2)))
 (.seq
 (.block 3
 (.region true [1,2,3,5] [
 tR 48 3,
 ld 49 96 48,
 tDK [0,1] 50 1,
 tDL [0,1] 51 50,
 tE [0,1,2,3] 52 5,
 tCO [0,1] 53 51 52,
 tEE [0,1] 54 102 0 0 1 53,
 tL [0,1] 55 54,
 tDK [0,1,2,3,4,5,6,7] 56 1,
 tDL [0,1,2,3,4,5,6,7] 57 56,
 tE [0,1,2,3,4,5,6,7,8,9] 58 5,
 tCO [0,1,2,3,4,5,6,7] 59 57 58,
 tEE [0,1,2,3,4,5,6,7] 60 102 1 1 1 59,
 tCP [0,1,2,3,4,5,6,7] 61 60,
 wo [0,1,2,3,4,5,6,7] 62 (.call 149 [(.t 61)]),
 wo [0,1] 63 (.build 102 [(.val (.int .i64 0)),(.nl 1)] [(0,0,1,(.t 55)),(1,1,1,(.t 62))]),
 wo [0,1] 64 (.lit 96 102 2 1 [(.val (.int .i64 0)),(.nl 1)] [(0,(.t 63))]),
 tEW 65 96 102 2 32 49 64,
 tR 66 3,
 tEI 96 1 66 65]))
 (rg [1,2,3,5] [
 mv 46 5,
 tB 47 46,
 sg 5 47])))
def l122_1:VC:=.loop b122_1
def b122_0:VC:=
 (.seq
 (.seq
 (rg [1,2,3,4,13] [
 mv 9 4,
 tQ 10 1,
 ld 11 95 10,
 tZ 12 11,
 tD 13 9 12])
 (.cond (.t 13)
 .skip
 (.exit 0)))
 (.seq
 (.block 1
 (.region true [1,2,3,4] [
 tQ 16 3,
 ld 17 95 16,
 tBN [0,1] 18 1,
 tBO [0,1] 19 18,
 tE [0,1,2,3] 20 4,
 tCG [0,1] 21 19 20,
 tDG [0,1] 22 21,
 tL [0,1] 23 22,
 tBN [0,1,2,3,4,5,6,7] 24 1,
 tBO [0,1,2,3,4,5,6,7] 25 24,
 tE [0,1,2,3,4,5,6,7,8,9] 26 4,
 tCG [0,1,2,3,4,5,6,7] 27 25 26,
 tEE [0,1,2,3,4,5,6,7] 28 130 1 1 1 27,
 tL [0,1,2,3,4,5,6,7] 29 28,
 tBN [0,1,2,3,4,5,6,7,8,9,10,11,12,13] 30 1,
 tBO [0,1,2,3,4,5,6,7,8,9,10,11,12,13] 31 30,
 tE [0,1,2,3,4,5,6,7,8,9,10,11,12,13,14,15] 32 4,
 tCG [0,1,2,3,4,5,6,7,8,9,10,11,12,13] 33 31 32,
 tEE [0,1,2,3,4,5,6,7,8,9,10,11,12,13] 34 130 2 2 1 33,
 tCP [0,1,2,3,4,5,6,7,8,9,10,11,12,13] 35 34,
 wo [0,1,2,3,4,5,6,7,8,9,10,11,12,13] 36 (.call 149 [(.t 35)]),
 wo [0,1] 37 (.build 130 [(.val (.int .i64 0)),(.val (.int .i64 0)),(.nl 1)] [(0,0,1,(.t 23)),(1,1,1,(.t 29)),(2,2,1,(.t 36))]),
 wo [0,1] 38 (.lit 95 130 3 1 [(.val (.int .i64 0)),(.val (.int .i64 0)),(.nl 1)] [(0,(.t 37))]),
 tEW 39 95 130 3 40 17 38,
 tQ 40 3,
 tDH 40 39]))
 (rg [1,2,3,4] [
 mv 14 4,
 tB 15 14,
 sg 4 15])))
def l122_0:VC:=.loop b122_0
def v122 : VFun := {
 code:=
 (.seq
 (rg [1,2] [
 tBP 1 0,
 tAU 2])
 (.seq
 (rg [1,2,3] [
 tAR 6 1,
 ld 7 2 6,
 vo 8 (.build 98 [(.val (.int .i64 0)),(.nl 3),(.nl 2)] [(0,0,1,(.t 7))]),
 tAU 3,
 tAV 3 8])
 (.seq
 (.seq
 (rg [1,2,3,4] [
 tA 4])
 (.block 0
 l122_0))
 (.seq
 (.seq
 (rg [1,2,3,5] [
 tA 5])
 (.block 2
 l122_1))
 (.seq
 (rg [2] [
 tAK 67 3,
 tAV 2 67])
 .ret)))))
 modes:=[.lend]
 rets:=[⟨2,some (true,3)⟩]}

def b123_0:VC:=
 (.seq
 (.seq
 (rg [0,1,2,7,11] [
 mv 8 7,
 mv 9 0,
 tJ 10 9,
 tD 11 8 10])
 (.cond (.t 11)
 .skip
 (.exit 0)))
 (.seq
 (.block 1
 (.seq
 (rg [0,1,2,7,21] [
 mv 14 0,
 mv 15 7,
 tAA 16 14 15,
 ld 17 2 16,
 mv 18 1,
 mv 19 2,
 cl 20 36 [17,18,19],
 tF 21 20])
 (.cond (.t 21)
 (.seq
 (rg [6] [
 tC 6])
 .ret)
 .skip)))
 (rg [0,1,2,7] [
 mv 12 7,
 tB 13 12,
 sg 7 13])))
def l123_0:VC:=.loop b123_0
def v123 : VFun := {
 code:=
 (.seq
 (rg [0,1,2] [
 tC 6])
 (.seq
 (.seq
 (rg [0,1,2,7] [
 tA 7])
 (.block 0
 l123_0))
 (.seq
 (rg [6] [
 tV 6])
 .ret)))
 modes:=[.lend,.lend,.lend]
 rets:=[⟨6,none⟩]}

def v124 : VFun := {
 code:=
 (.seq
 (rg [0] [
 tC 2])
 (.seq
 (rg [2] [
 mv 3 0,
 vo 4 (.call 36 [(.t 3),(ci 0),(ci 1000000)]),
 sg 2 4])
 .ret))
 modes:=[.lend]
 rets:=[⟨2,none⟩]}

def b125_0:VC:=
 (.seq
 (.seq
 (rg [0,3,10] [
 mv 7 3,
 mv 8 0,
 tJ 9 8,
 tD 10 7 9])
 (.cond (.t 10)
 .skip
 (.exit 0)))
 (.seq
 (.block 1
 (.seq
 (rg [0,3,18] [
 mv 13 0,
 mv 14 3,
 tAA 15 13 14,
 ld 16 2 15,
 tEV 17 150,
 tF 18 17])
 (.cond (.t 18)
 (.seq
 (rg [2] [
 tAP 2])
 .ret)
 .skip)))
 (rg [0,3] [
 mv 11 3,
 tB 12 11,
 sg 3 12])))
def l125_0:VC:=.loop b125_0
def v125 : VFun := {
 code:=
 (.seq
 (rg [0] [
 tA 2])
 (.seq
 (.seq
 (rg [0,6] [
 mv 4 0,
 tJ 5 4,
 vo 6 (.bin false .gtr 3 (.t 5) (ci 12))])
 (.cond (.t 6)
 (.seq
 (rg [2] [
 tAN 2])
 .ret)
 .skip))
 (.seq
 (.seq
 (rg [0,3] [
 tA 3])
 (.block 0
 l125_0))
 (.seq
 (rg [2] [
 tA 2])
 .ret))))
 modes:=[.lend]
 rets:=[⟨2,none⟩]}

def v126 : VFun := {
 code:=
 (.seq
 (rg [0,1] [
 tA 4])
 (.seq
 (rg [4] [
 mv 5 0,
 mv 6 1,
 vo 7 (.lit 100 2 1 2 [(.val (.int .i64 0))] [(0,(.t 5)),(1,(.t 6))]),
 tEY 8 113,
 sg 4 8])
 .ret))
 modes:=[.lend,.lend]
 rets:=[⟨4,none⟩]}

def v127 : VFun := {
 code:=
 (.seq
 (rg [0,1] [
 tA 4])
 (.seq
 (rg [0,1,5] [
 mv 6 1,
 tB 7 6,
 sg 5 7])
 (.seq
 (.seq
 (rg [0,1,5,10] [
 mv 8 1,
 vo 9 (.bin false .rem 3 (.t 8) (ci 2)),
 vo 10 (.bin false .eql 3 (.t 9) (ci 1))])
 (.cond (.t 10)
 (rg [0,1,5] [
 mv 11 1,
 tDR 12 11,
 sg 5 12])
 .skip))
 (.seq
 (.seq
 (rg [0,1,5,16] [
 mv 13 5,
 mv 14 0,
 tJ 15 14,
 vo 16 (.bin false .geq 3 (.t 13) (.t 15))])
 (.cond (.t 16)
 (rg [0,5] [
 mv 17 1,
 sg 5 17])
 .skip))
 (.seq
 (rg [4] [
 mv 18 0,
 mv 19 5,
 tAA 20 18 19,
 ld 21 2 20,
 sg 4 21])
 .ret)))))
 modes:=[.lend,.lend]
 rets:=[⟨4,none⟩]}

def b128_0:VC:=
 (.seq
 (.seq
 (rg [0,3,4,8] [
 mv 5 4,
 mv 6 0,
 tCQ 7 6,
 tD 8 5 7])
 (.cond (.t 8)
 .skip
 (.exit 0)))
 (.seq
 (.block 1
 (rg [0,3,4] [
 mv 11 3,
 vo 12 (.bin false .mul 2 (.t 11) (ci 33)),
 mv 13 0,
 mv 14 4,
 tEH 15 148 5 1 13 14,
 ld 16 5 15,
 vo 17 (.conv 5 2 .i64 (.t 16)),
 tCN 18 12 17,
 tDQ 19 18,
 vo 20 (.bin false .rem 2 (.t 19) (ci 2147483647)),
 sg 3 20]))
 (rg [0,3,4] [
 mv 9 4,
 tB 10 9,
 sg 4 10])))
def l128_0:VC:=.loop b128_0
def v128 : VFun := {
 code:=
 (.seq
 (rg [0] [
 tA 2])
 (.seq
 (rg [0,3] [
 vo 3 (.asg (ci 5381))])
 (.seq
 (.seq
 (rg [0,3,4] [
 tA 4])
 (.block 0
 l128_0))
 (.seq
 (rg [2] [
 mv 21 3,
 sg 2 21])
 .ret))))
 modes:=[.lend]
 rets:=[⟨2,none⟩]}

def b129_1:VC:=
 (.seq
 (.seq
 (rg [0,5,7,19,49,61,64,72,79,102] [
 mv 73 7,
 mv 74 0,
 tM 75 74,
 tR 76 75,
 ld 77 96 76,
 tAE 78 77,
 tD 79 73 78])
 (.cond (.t 79)
 .skip
 (.exit 2)))
 (.seq
 (.block 3
 (.region true [0,5,7,19,49,61,64,72,102] [
 mv 82 5,
 tE [0] 83 0,
 tBH [0] 84 83,
 tDK [0] 85 84,
 tDL [0] 86 85,
 tE [0,1,2,3,4] 87 7,
 tCO [0] 88 86 87,
 tEE [0] 89 102 0 0 1 88,
 tL [0] 90 89,
 wo [0] 91 (.call 152 [(.t 90)]),
 tAB 92 82 91,
 tE [0,1,2,3,4,5,6,7,8,9,10] 93 0,
 tBH [0,1,2,3,4,5,6,7,8,9,10] 94 93,
 tDK [0,1,2,3,4,5,6,7,8,9,10] 95 94,
 tDL [0,1,2,3,4,5,6,7,8,9,10] 96 95,
 tE [0,1,2,3,4,5,6,7,8,9,10,11,12,13,14] 97 7,
 tCO [0,1,2,3,4,5,6,7,8,9,10] 98 96 97,
 tEE [0,1,2,3,4,5,6,7,8,9,10] 99 102 1 1 1 98,
 tCP [0,1,2,3,4,5,6,7,8,9,10] 100 99,
 cl 101 153 [100],
 tAB 102 92 101,
 sg 5 102]))
 (rg [0,5,7,19,49,61,64,72,102] [
 mv 80 7,
 tB 81 80,
 sg 7 81])))
def l129_1:VC:=.loop b129_1
def b129_0:VC:=
 (.seq
 (.seq
 (rg [0,1,5,6,19,26,49,61,64,72,102] [
 mv 20 6,
 mv 21 0,
 tM 22 21,
 tQ 23 22,
 ld 24 95 23,
 tZ 25 24,
 tD 26 20 25])
 (.cond (.t 26)
 .skip
 (.exit 0)))
 (.seq
 (.block 1
 (.seq
 (.region true [0,1,5,6,19,49,61,64,72,102] [
 mv 29 5,
 tE [0] 30 0,
 tBH [0] 31 30,
 tBN [0] 32 31,
 tBO [0] 33 32,
 tE [0,1,2,3,4] 34 6,
 tCG [0] 35 33 34,
 tDG [0] 36 35,
 tL [0] 37 36,
 wo [0] 38 (.call 152 [(.t 37)]),
 tAB 39 29 38,
 tE [0,1,2,3,4,5,6,7,8,9,10] 40 0,
 tBH [0,1,2,3,4,5,6,7,8,9,10] 41 40,
 tBN [0,1,2,3,4,5,6,7,8,9,10] 42 41,
 tBO [0,1,2,3,4,5,6,7,8,9,10] 43 42,
 tE [0,1,2,3,4,5,6,7,8,9,10,11,12,13,14] 44 6,
 tCG [0,1,2,3,4,5,6,7,8,9,10] 45 43 44,
 tEE [0,1,2,3,4,5,6,7,8,9,10] 46 130 1 1 1 45,
 tL [0,1,2,3,4,5,6,7,8,9,10] 47 46,
 cl 48 151 [47],
 tAB 49 39 48,
 sg 5 49])
 (.seq
 (rg [0,1,5,6,19,49,50,61,64,72,102] [
 mv 50 1])
 (.cond (.t 50)
 (rg [0,1,5,6,19,49,61,64,72,102] [
 mv 51 5,
 mv 52 0,
 tM 53 52,
 tQ 54 53,
 ld 55 95 54,
 mv 56 6,
 tAG 57 55 56,
 tAS 58 57,
 ld 59 100 58,
 cl 60 153 [59],
 tAB 61 51 60,
 sg 5 61])
 (rg [0,1,5,6,19,49,61,64,72,102] [
 mv 62 5,
 vo 63 (.lit 148 5 1 1 [(.val (.int .u8 0))] [(0,(.c (.int .u8 0)))]),
 tAB 64 62 63,
 sg 5 64])))))
 (rg [0,1,5,6,19,49,61,64,72,102] [
 mv 27 6,
 tB 28 27,
 sg 6 28])))
def l129_0:VC:=.loop b129_0
def v129 : VFun := {
 code:=
 (.seq
 (rg [0,1] [
 tY 4])
 (.seq
 (.region true [0,1,5,19,49,61,64,72,102] [
 mv 8 0,
 tM 9 8,
 tAR 10 9,
 ld 11 2 10,
 tFB 12 151,
 tE [0,1,2,3,4] 13 0,
 tBH [0,1,2,3,4] 14 13,
 tBN [0,1,2,3,4] 15 14,
 tBO [0,1,2,3,4] 16 15,
 wo [0,1,2,3,4] 17 (.len false 95 (.t 16)),
 tFC 18 151,
 tAB 19 12 18,
 sg 5 19])
 (.seq
 (.seq
 (rg [0,1,5,6,19,49,61,64,72,102] [
 tA 6])
 (.block 0
 l129_0))
 (.seq
 (rg [0,5,19,49,61,64,72,102] [
 mv 65 5,
 mv 66 0,
 tM 67 66,
 tR 68 67,
 ld 69 96 68,
 tAE 70 69,
 cl 71 151 [70],
 tAB 72 65 71,
 sg 5 72])
 (.seq
 (.seq
 (rg [0,5,7,19,49,61,64,72,102] [
 tA 7])
 (.block 2
 l129_1))
 (.seq
 (rg [4,5,19,49,61,64,72,102] [
 mv 103 5,
 sg 4 103])
 .ret))))))
 modes:=[.lend,.lend]
 rets:=[⟨4,none⟩]}

def b130_0:VC:=
 (.seq
 (.seq
 (rg [0,3,4,7,11] [
 mv 8 4,
 mv 9 0,
 tDI 10 9,
 tD 11 8 10])
 (.cond (.t 11)
 .skip
 (.exit 0)))
 (.seq
 (.block 1
 (rg [0,3,4,7] [
 mv 14 3,
 mv 15 4,
 mv 16 0,
 mv 17 4,
 tEH 18 120 161 3 16 17,
 tEL 19 161 3 18,
 tES 20 154,
 tAG 21 14 15,
 tCE 21 20]))
 (rg [0,3,4,7] [
 mv 12 4,
 tB 13 12,
 sg 4 13])))
def l130_0:VC:=.loop b130_0
def v130 : VFun := {
 code:=
 (.seq
 (rg [0] [
 tET 2 3])
 (.seq
 (rg [0,3,7] [
 mv 5 0,
 tDI 6 5,
 vo 7 (.mk 95 130 3 40 [(.val (.int .i64 0)),(.val (.int .i64 0)),(.nl 1)] (.t 6) (.t 6)),
 sg 3 7])
 (.seq
 (.seq
 (rg [0,3,4,7] [
 tA 4])
 (.block 0
 l130_0))
 (.seq
 (rg [2,3,7] [
 mv 22 3,
 sg 2 22])
 .ret))))
 modes:=[.lend]
 rets:=[⟨2,none⟩]}

def b131_0:VC:=
 (.seq
 (.seq
 (rg [0,3,4,7,11] [
 mv 8 4,
 mv 9 0,
 tDJ 10 9,
 tD 11 8 10])
 (.cond (.t 11)
 .skip
 (.exit 0)))
 (.seq
 (.block 1
 (rg [0,3,4,7] [
 mv 14 3,
 mv 15 4,
 mv 16 0,
 mv 17 4,
 tEH 18 121 163 2 16 17,
 tEL 19 163 2 18,
 tES 20 155,
 tAO 21 14 15,
 tCC 21 20]))
 (rg [0,3,4,7] [
 mv 12 4,
 tB 13 12,
 sg 4 13])))
def l131_0:VC:=.loop b131_0
def v131 : VFun := {
 code:=
 (.seq
 (rg [0] [
 tET 2 2])
 (.seq
 (rg [0,3,7] [
 mv 5 0,
 tDJ 6 5,
 vo 7 (.mk 96 102 2 32 [(.val (.int .i64 0)),(.nl 1)] (.t 6) (.t 6)),
 sg 3 7])
 (.seq
 (.seq
 (rg [0,3,4,7] [
 tA 4])
 (.block 0
 l131_0))
 (.seq
 (rg [2,3,7] [
 mv 22 3,
 sg 2 22])
 .ret))))
 modes:=[.lend]
 rets:=[⟨2,none⟩]}

def b132_1:VC:=
 (.seq
 (rg [1,2,3,30,31,32,33] [
 tD 33 32 31])
 (.seq
 (.cond (.t 33)
 .skip
 (.exit 2))
 (.seq
 (.block 3
 (.seq
 (rg [1,2,3,7,30,31,32] [
 tAO 34 30 32,
 tBV 35 34,
 tCB 7,
 tCC 7 35])
 (.seq
 (rg [1,2,3,7,30,31,32] [
 tAT 36 7,
 ld 37 100 36,
 cl 38 156 [37],
 tAT 39 7,
 tBY 39 38])
 (rg [1,2,3,30,31,32] [
 tR 40 3,
 ld 41 96 40,
 tBV 42 7,
 vo 43 (.lit 96 102 2 1 [(.val (.int .i64 0)),(.nl 1)] [(0,(.t 42))]),
 tEW 44 96 102 2 32 41 43,
 tR 45 3,
 tEI 96 1 45 44]))))
 (rg [1,2,3,30,31,32] [
 tB 46 32,
 mv 32 46]))))
def l132_1:VC:=.loop b132_1
def b132_0:VC:=
 (.seq
 (rg [1,2,3,12,13,14,15] [
 tD 15 14 13])
 (.seq
 (.cond (.t 15)
 .skip
 (.exit 0))
 (.seq
 (.block 1
 (.seq
 (rg [1,2,3,5,12,13,14] [
 tAG 16 12 14,
 tBG 17 16,
 tCD 5,
 tCE 5 17])
 (.seq
 (rg [1,2,3,5,12,13,14] [
 tAS 18 5,
 ld 19 100 18,
 tES 20 156,
 tAS 21 5,
 tBY 21 20])
 (rg [1,2,3,12,13,14] [
 tQ 22 3,
 ld 23 95 22,
 tBG 24 5,
 tEA 25,
 tEW 26 95 130 3 40 23 25,
 tQ 27 3,
 tDH 27 26]))))
 (rg [1,2,3,12,13,14] [
 tB 28 14,
 mv 14 28]))))
def l132_0:VC:=.loop b132_0
def v132 : VFun := {
 code:=
 (.seq
 (rg [1,2] [
 tBP 1 0,
 tAU 2])
 (.seq
 (rg [1,2,3] [
 tAR 8 1,
 ld 9 2 8,
 vo 10 (.build 98 [(.val (.int .i64 0)),(.nl 3),(.nl 2)] [(0,0,1,(.t 9))]),
 tAU 3,
 tAV 3 10])
 (.seq
 (.seq
 (rg [1,2,3,12,13,14] [
 tQ 11 1,
 ld 12 95 11,
 tZ 13 12,
 tT 14])
 (.block 0
 l132_0))
 (.seq
 (.seq
 (rg [1,2,3,30,31,32] [
 tR 29 1,
 ld 30 96 29,
 tAE 31 30,
 tT 32])
 (.block 2
 l132_1))
 (.seq
 (rg [2] [
 tAK 47 3,
 tAV 2 47])
 .ret)))))
 modes:=[.lend]
 rets:=[⟨2,some (true,3)⟩]}

def v133 : VFun := {
 code:=
 (.seq
 (rg [0,1] [
 tC 4])
 (.seq
 (rg [4] [
 mv 5 0,
 mv 6 1,
 tFF 7 157,
 tDF 8 7,
 sg 4 8])
 .ret))
 modes:=[.lend,.lend]
 rets:=[⟨4,none⟩]}

def v134 : VFun := {
 code:=
 (.seq
 (rg [0] [
 tC 2])
 (.seq
 (rg [2] [
 mv 3 0,
 vo 4 (.call 41 [(.t 3),(ci 0),(ci 9999)]),
 tF 5 4,
 sg 2 5])
 .ret))
 modes:=[.lend]
 rets:=[⟨2,none⟩]}

def v135 : VFun := {
 code:=
 (.seq
 (rg [0,1] [
 tC 4])
 (.seq
 (rg [4] [
 mv 5 0,
 mv 6 1,
 tFF 7 158,
 tDF 8 7,
 sg 4 8])
 .ret))
 modes:=[.lend,.lend]
 rets:=[⟨4,none⟩]}

def v136 : VFun := {
 code:=
 (.seq
 (rg [1,2] [
 tED 2 130 0,
 tC 3])
 (.seq
 (rg [3] [
 tAW 4 1,
 ld 5 2 4,
 tAW 6 2,
 ld 7 2 6,
 tCA 8 5 7,
 mv 9 8,
 tEM 10 130 1 1 1 1 9,
 tEN 11 2 1 10 9,
 tEM 12 130 1 1 1 2 9,
 tEN 13 2 1 12 9,
 og 14 (.bin false .eql 2 (.t 11) (.t 13)) 9 true,
 tAJ 15 9 14,
 sg 3 15])
 .ret))
 modes:=[.lend,.lend]
 rets:=[⟨3,none⟩]}

def v137 : VFun := {
 code:=
 (.seq
 (rg [0] [
 tC 2])
 (.seq
 (rg [2] [
 mv 3 0,
 vo 4 (.call 41 [(.t 3),(ci 1),(ci 9)]),
 tF 5 4,
 mv 6 5,
 tEQ 7 0 6,
 og 8 (.call 41 [(.t 7),(ci 100),(ci 1099)]) 6 true,
 og 9 (.un .not (.t 8)) 6 true,
 tAJ 10 6 9,
 sg 2 10])
 .ret))
 modes:=[.lend]
 rets:=[⟨2,none⟩]}

def v138 : VFun := {
 code:=
 (.seq
 (rg [0] [
 tA 2])
 (.seq
 (.seq
 (rg [4] [
 mv 3 0,
 vo 4 (.call 133 [(.t 3),(.f 159)])])
 (.cond (.t 4)
 (.seq
 (rg [2] [
 tAH 2])
 .ret)
 .skip))
 (.seq
 (rg [2] [
 tA 2])
 .ret)))
 modes:=[.lend]
 rets:=[⟨2,none⟩]}

def v139 : VFun := {
 code:=
 (.seq
 (rg [0,1] [
 tA 4])
 (.seq
 (.seq
 (rg [0,1,9] [
 mv 5 1,
 vo 6 (.bin false .xor 3 (.t 5) (ci 1)),
 mv 7 0,
 tJ 8 7,
 tD 9 6 8])
 (.cond (.t 9)
 (.seq
 (rg [4] [
 mv 10 0,
 mv 11 1,
 vo 12 (.bin false .xor 3 (.t 11) (ci 1)),
 tAA 13 10 12,
 ld 14 2 13,
 sg 4 14])
 .ret)
 .skip))
 (.seq
 (rg [4] [
 mv 15 0,
 mv 16 1,
 tAA 17 15 16,
 ld 18 2 17,
 sg 4 18])
 .ret)))
 modes:=[.lend,.lend]
 rets:=[⟨4,none⟩]}

def b140_0:VC:=
 (.seq
 (rg [3,6,7,8,9] [
 tD 9 8 7])
 (.seq
 (.cond (.t 9)
 .skip
 (.exit 0))
 (.seq
 (.block 1
 (.seq
 (rg [3,5,6,7,8] [
 tEH 10 148 5 1 6 8,
 ld 11 5 10,
 sg 5 11])
 (rg [3,6,7,8] [
 mv 12 3,
 vo 13 (.bin false .mul 2 (ci 33) (.t 12)),
 mv 14 5,
 vo 15 (.conv 5 2 .i64 (.t 14)),
 tCN 16 13 15,
 tDQ 17 16,
 vo 18 (.bin false .rem 2 (.t 17) (ci 2147483647)),
 sg 3 18])))
 (rg [3,6,7,8] [
 tB 19 8,
 mv 8 19]))))
def l140_0:VC:=.loop b140_0
def v140 : VFun := {
 code:=
 (.seq
 (rg [0] [
 tA 2])
 (.seq
 (rg [0,3] [
 vo 3 (.asg (ci 5381))])
 (.seq
 (.seq
 (rg [3,6,7,8] [
 mv 6 0,
 tCQ 7 6,
 tT 8])
 (.block 0
 l140_0))
 (.seq
 (rg [2] [
 mv 20 3,
 sg 2 20])
 .ret))))
 modes:=[.lend]
 rets:=[⟨2,none⟩]}

def b141_1:VC:=
 (.seq
 (rg [1,3,15,34,41,43,44,45,46,57] [
 tD 46 45 44])
 (.seq
 (.cond (.t 46)
 .skip
 (.exit 2))
 (.seq
 (.block 3
 (.seq
 (rg [1,3,7,15,34,41,43,44,45,57] [
 tAO 47 43 45,
 tBV 48 47,
 tCB 7,
 tCC 7 48])
 (.region true [1,3,15,34,41,43,44,45,57] [
 mv 49 3,
 tEE [0] 50 102 0 0 1 7,
 tL [0] 51 50,
 wo [0] 52 (.call 162 [(.t 51)]),
 tEE [0,1,2,3] 53 102 1 1 1 7,
 tCP [0,1,2,3] 54 53,
 wo [0] 55 (.call 163 [(.t 54)]),
 vo 56 (.lit 172 148 1 3 [(.nl 1)] [(0,(.t 49)),(1,(.t 52)),(2,(.t 55))]),
 cl 57 161 [56],
 sg 3 57])))
 (rg [1,3,15,34,41,43,44,45,57] [
 tB 58 45,
 mv 45 58]))))
def l141_1:VC:=.loop b141_1
def b141_0:VC:=
 (.seq
 (rg [1,3,15,17,18,19,20,34,41,57] [
 tD 20 19 18])
 (.seq
 (.cond (.t 20)
 .skip
 (.exit 0))
 (.seq
 (.block 1
 (.seq
 (rg [1,3,5,15,17,18,19,34,41,57] [
 tAG 21 17 19,
 tBG 22 21,
 tCD 5,
 tCE 5 22])
 (.region true [1,3,15,17,18,19,34,41,57] [
 mv 23 3,
 tDG [0] 24 5,
 tL [0] 25 24,
 wo [0] 26 (.call 162 [(.t 25)]),
 tEE [0,1,2,3] 27 130 1 1 1 5,
 tL [0,1,2,3] 28 27,
 wo [0] 29 (.call 160 [(.t 28)]),
 tEE [0,1,2,3,4,5,6] 30 130 2 2 1 5,
 tCP [0,1,2,3,4,5,6] 31 30,
 wo [0] 32 (.call 163 [(.t 31)]),
 vo 33 (.lit 172 148 1 4 [(.nl 1)] [(0,(.t 23)),(1,(.t 26)),(2,(.t 29)),(3,(.t 32))]),
 cl 34 161 [33],
 sg 3 34])))
 (rg [1,3,15,17,18,19,34,41,57] [
 tB 35 19,
 mv 19 35]))))
def l141_0:VC:=.loop b141_0
def v141 : VFun := {
 code:=
 (.seq
 (rg [1] [
 tBP 1 0,
 tY 2])
 (.seq
 (.region true [1,3,15,34,41,57] [
 tAR 8 1,
 ld 9 2 8,
 cl 10 160 [9],
 tBN [0,1,2] 11 1,
 tBO [0,1,2] 12 11,
 wo [0,1,2] 13 (.len false 95 (.t 12)),
 cl 14 160 [13],
 tAB 15 10 14,
 sg 3 15])
 (.seq
 (.seq
 (rg [1,3,15,17,18,19,34,41,57] [
 tQ 16 1,
 ld 17 95 16,
 tZ 18 17,
 tT 19])
 (.block 0
 l141_0))
 (.seq
 (rg [1,3,15,34,41,57] [
 mv 36 3,
 tR 37 1,
 ld 38 96 37,
 tAE 39 38,
 cl 40 160 [39],
 tAB 41 36 40,
 sg 3 41])
 (.seq
 (.seq
 (rg [1,3,15,34,41,43,44,45,57] [
 tR 42 1,
 ld 43 96 42,
 tAE 44 43,
 tT 45])
 (.block 2
 l141_1))
 (.seq
 (rg [2,3,15,34,41,57] [
 mv 59 3,
 sg 2 59])
 .ret))))))
 modes:=[.lend]
 rets:=[⟨2,none⟩]}

def b142_0:VC:=
 (.seq
 (.seq
 (rg [0,1,5,14] [
 mv 11 5,
 mv 12 0,
 tZ 13 12,
 tD 14 11 13])
 (.cond (.t 14)
 .skip
 (.exit 0)))
 (.seq
 (.block 1
 (.seq
 (.region true [0,1,5,26] [
 mv 17 0,
 tE [0] 18 5,
 tAG 19 17 18,
 tBG 20 19,
 tE [0,1,2,3] 21 1,
 tE [0,1,2,3,4] 22 5,
 tCG [0,1,2,3] 23 21 22,
 tEO [0,1,2,3] 24 130 3 23,
 tEX 25 164,
 tF 26 25])
 (.cond (.t 26)
 (.seq
 (rg [4] [
 tC 4])
 .ret)
 .skip)))
 (rg [0,1,5] [
 mv 15 5,
 tB 16 15,
 sg 5 16])))
def l142_0:VC:=.loop b142_0
def v142 : VFun := {
 code:=
 (.seq
 (rg [0,1] [
 tC 4])
 (.seq
 (.seq
 (rg [0,1,10] [
 mv 6 0,
 tZ 7 6,
 mv 8 1,
 tZ 9 8,
 tBI 10 7 9])
 (.cond (.t 10)
 (.seq
 (rg [4] [
 tC 4])
 .ret)
 .skip))
 (.seq
 (.seq
 (rg [0,1,5] [
 tA 5])
 (.block 0
 l142_0))
 (.seq
 (rg [4] [
 tV 4])
 .ret))))
 modes:=[.lend,.lend]
 rets:=[⟨4,none⟩]}

def b143_0:VC:=
 (.seq
 (.seq
 (rg [0,1,5,14] [
 mv 11 5,
 mv 12 0,
 tAE 13 12,
 tD 14 11 13])
 (.cond (.t 14)
 .skip
 (.exit 0)))
 (.seq
 (.block 1
 (.seq
 (.region true [0,1,5,26] [
 mv 17 0,
 tE [0] 18 5,
 tAO 19 17 18,
 tBV 20 19,
 tE [0,1,2,3] 21 1,
 tE [0,1,2,3,4] 22 5,
 tCO [0,1,2,3] 23 21 22,
 tEO [0,1,2,3] 24 102 2 23,
 tEX 25 165,
 tF 26 25])
 (.cond (.t 26)
 (.seq
 (rg [4] [
 tC 4])
 .ret)
 .skip)))
 (rg [0,1,5] [
 mv 15 5,
 tB 16 15,
 sg 5 16])))
def l143_0:VC:=.loop b143_0
def v143 : VFun := {
 code:=
 (.seq
 (rg [0,1] [
 tC 4])
 (.seq
 (.seq
 (rg [0,1,10] [
 mv 6 0,
 tAE 7 6,
 mv 8 1,
 tAE 9 8,
 tBI 10 7 9])
 (.cond (.t 10)
 (.seq
 (rg [4] [
 tC 4])
 .ret)
 .skip))
 (.seq
 (.seq
 (rg [0,1,5] [
 tA 5])
 (.block 0
 l143_0))
 (.seq
 (rg [4] [
 tV 4])
 .ret))))
 modes:=[.lend,.lend]
 rets:=[⟨4,none⟩]}

def b144_0:VC:=
 (.seq
 (.seq
 (rg [0,1,5,9] [
 mv 6 5,
 mv 7 0,
 tJ 8 7,
 tD 9 6 8])
 (.cond (.t 9)
 .skip
 (.exit 0)))
 (.seq
 (.block 1
 (.seq
 (.seq
 (rg [0,1,5,17] [
 mv 12 0,
 mv 13 5,
 tAA 14 12 13,
 ld 15 2 14,
 mv 16 1,
 tP 17 15 16])
 (.cond (.t 17)
 (.seq
 (rg [4] [
 tG 4])
 .ret)
 .skip))
 (rg [0,1,5] [
 mv 18 1,
 tB 19 18,
 sg 1 19])))
 (rg [0,1,5] [
 mv 10 5,
 tB 11 10,
 sg 5 11])))
def l144_0:VC:=.loop b144_0
def v144 : VFun := {
 code:=
 (.seq
 (rg [0,1] [
 tA 4])
 (.seq
 (.seq
 (rg [0,1,5] [
 tA 5])
 (.block 0
 l144_0))
 (.seq
 (rg [4] [
 mv 20 1,
 sg 4 20])
 .ret)))
 modes:=[.lend,.lend]
 rets:=[⟨4,none⟩]}

def v145 : VFun := {
 code:=
 (.seq
 (rg [0] [
 tY 2])
 (.seq
 (rg [2,14] [
 mv 3 0,
 vo 4 (.bin false .shr 2 (.t 3) (.c (.int .u64 24))),
 tAX 5 4,
 mv 6 0,
 vo 7 (.bin false .shr 2 (.t 6) (.c (.int .u64 16))),
 tAX 8 7,
 mv 9 0,
 tDS 10 9,
 tAX 11 10,
 mv 12 0,
 tAX 13 12,
 vo 14 (.lit 148 5 1 4 [(.val (.int .u8 0))] [(0,(.t 5)),(1,(.t 8)),(2,(.t 11)),(3,(.t 13))]),
 sg 2 14])
 .ret))
 modes:=[.lend]
 rets:=[⟨2,none⟩]}

def b146_0:VC:=
 (.seq
 (.seq
 (rg [0,5,6,8,12] [
 mv 11 6,
 tDF 12 11])
 (.cond (.t 12)
 .skip
 (.exit 0)))
 (.seq
 (.block 1
 (.seq
 (rg [0,5,6,8] [
 mv 15 5,
 mv 16 6,
 mv 17 0,
 tAX 18 17,
 tEH 19 148 5 1 15 16,
 tEI 5 1 19 18])
 (rg [0,5,6,8] [
 mv 20 0,
 tDS 21 20,
 sg 0 21])))
 (rg [0,5,6,8] [
 mv 13 6,
 tDR 14 13,
 sg 6 14])))
def l146_0:VC:=.loop b146_0
def v146 : VFun := {
 code:=
 (.seq
 (rg [0,1] [
 tY 4])
 (.seq
 (rg [0,1,5,8] [
 mv 7 1,
 vo 8 (.mk 148 5 1 1 [(.val (.int .u8 0))] (.t 7) (.t 7)),
 sg 5 8])
 (.seq
 (.seq
 (rg [0,5,6,8] [
 mv 9 1,
 tDR 10 9,
 sg 6 10])
 (.block 0
 l146_0))
 (.seq
 (rg [4,5,8] [
 mv 22 5,
 sg 4 22])
 .ret))))
 modes:=[.lend,.lend]
 rets:=[⟨4,none⟩]}

def v147 : VFun := {
 code:=
 (.seq
 (rg [1,2] [
 tED 2 161 0,
 tA 4])
 (.seq
 (rg [1] [
 tEC 5 161 2 2 1 2,
 ld 6 100 5,
 mv 7 1,
 tEP 8 166,
 sg 1 8])
 (.seq
 (.seq
 (rg [1,10] [
 mv 9 1,
 tH 10 9])
 (.cond (.t 10)
 (.seq
 (rg [4] [
 tG 4])
 .ret)
 .skip))
 (.seq
 (rg [4] [
 mv 11 1,
 sg 4 11])
 .ret))))
 modes:=[.lend,.lend]
 rets:=[⟨4,none⟩]}

def v148 : VFun := {
 code:=
 (.seq
 (rg [1,2] [
 tED 2 163 0,
 tA 4])
 (.seq
 (rg [1] [
 tEC 5 163 1 1 1 2,
 ld 6 100 5,
 mv 7 1,
 tEP 8 166,
 sg 1 8])
 (.seq
 (.seq
 (rg [1,10] [
 mv 9 1,
 tH 10 9])
 (.cond (.t 10)
 (.seq
 (rg [4] [
 tG 4])
 .ret)
 .skip))
 (.seq
 (rg [4] [
 mv 11 1,
 sg 4 11])
 .ret))))
 modes:=[.lend,.lend]
 rets:=[⟨4,none⟩]}

def v149 : VFun := {
 code:=
 (.seq
 (rg [0] [
 tY 2])
 (.seq
 (rg [2,5] [
 tCM 3,
 mv 4 0,
 tCL 5 3 4,
 sg 2 5])
 .ret))
 modes:=[.lend]
 rets:=[⟨2,none⟩]}

def v150 : VFun := {
 code:=
 (.seq
 (rg [0] [
 tC 2])
 (.seq
 (rg [2] [
 mv 3 0,
 vo 4 (.call 36 [(.t 3),(ci 1),(ci 9)]),
 mv 5 4,
 tEF 6 0 5,
 og 7 (.call 36 [(.t 6),(ci 100),(ci 1099)]) 5 false,
 tU 8 5 7,
 sg 2 8])
 .ret))
 modes:=[.lend]
 rets:=[⟨2,none⟩]}

def v151 : VFun := {
 code:=
 (.seq
 (rg [0] [
 tY 2])
 (.seq
 (.seq
 (rg [0,4] [
 mv 3 0,
 vo 4 (.bin false .lss 2 (.t 3) (ci 253))])
 (.cond (.t 4)
 (.seq
 (rg [2,7,14] [
 mv 5 0,
 tAX 6 5,
 tEB 7,
 sg 2 7])
 .ret)
 .skip))
 (.seq
 (rg [2,7,14] [
 mv 8 0,
 tDP 9 8,
 tAX 10 9,
 mv 11 0,
 tDO 12 11,
 tAX 13 12,
 vo 14 (.lit 148 5 1 3 [(.val (.int .u8 0))] [(0,(.c (.int .u8 253))),(1,(.t 10)),(2,(.t 13))]),
 sg 2 14])
 .ret)))
 modes:=[.lend]
 rets:=[⟨2,none⟩]}

def v152 : VFun := {
 code:=
 (.seq
 (rg [0] [
 tY 2])
 (.seq
 (rg [2,9] [
 mv 3 0,
 vo 4 (.bin false .rem 2 (.t 3) (ci 65536)),
 tER 5 151,
 mv 6 0,
 vo 7 (.bin false .quo 2 (.t 6) (ci 65536)),
 tEY 8 151,
 tAB 9 5 8,
 sg 2 9])
 .ret))
 modes:=[.lend]
 rets:=[⟨2,none⟩]}

def b153_0:VC:=
 (.seq
 (.seq
 (rg [0,3,4,7,11,20] [
 mv 8 4,
 mv 9 0,
 tJ 10 9,
 tD 11 8 10])
 (.cond (.t 11)
 .skip
 (.exit 0)))
 (.seq
 (.block 1
 (rg [0,3,4,7,20] [
 mv 14 3,
 mv 15 0,
 mv 16 4,
 tAA 17 15 16,
 ld 18 2 17,
 cl 19 151 [18],
 tAB 20 14 19,
 sg 3 20]))
 (rg [0,3,4,7,20] [
 mv 12 4,
 tB 13 12,
 sg 4 13])))
def l153_0:VC:=.loop b153_0
def v153 : VFun := {
 code:=
 (.seq
 (rg [0] [
 tY 2])
 (.seq
 (rg [0,3,7,20] [
 mv 5 0,
 tJ 6 5,
 cl 7 151 [6],
 sg 3 7])
 (.seq
 (.seq
 (rg [0,3,4,7,20] [
 tA 4])
 (.block 0
 l153_0))
 (.seq
 (rg [2,3,7,20] [
 mv 21 3,
 sg 2 21])
 .ret))))
 modes:=[.lend]
 rets:=[⟨2,none⟩]}

def v154 : VFun := {
 code:=
 (.seq
 (rg [1,2] [
 tED 1 161 0,
 tCD 2])
 (.seq
 (rg [1,2,3] [
 tCD 3])
 (.seq
 (rg [1,2,3] [
 tEC 4 161 0 0 1 1,
 ld 5 2 4,
 tAW 6 3,
 tK 6 5])
 (.seq
 (rg [1,2,3] [
 tEC 7 161 1 1 1 1,
 ld 8 2 7,
 tCF 9 3,
 tK 9 8])
 (.seq
 (rg [2,3] [
 tEC 10 161 2 2 1 1,
 ld 11 100 10,
 tFB 12 167,
 tAS 13 3,
 tBY 13 12])
 (.seq
 (rg [2] [
 tBG 14 3,
 tCE 2 14])
 .ret))))))
 modes:=[.lend]
 rets:=[⟨2,some (true,3)⟩]}

def v155 : VFun := {
 code:=
 (.seq
 (rg [1,2] [
 tED 1 163 0,
 tCB 2])
 (.seq
 (rg [1,2,3] [
 tCB 3])
 (.seq
 (rg [1,2,3] [
 tEC 4 163 0 0 1 1,
 ld 5 2 4,
 tBF 6 3,
 tK 6 5])
 (.seq
 (rg [2,3] [
 tEC 7 163 1 1 1 1,
 ld 8 100 7,
 tEZ 9 167,
 tAT 10 3,
 tBY 10 9])
 (.seq
 (rg [2] [
 tBV 11 3,
 tCC 2 11])
 .ret)))))
 modes:=[.lend]
 rets:=[⟨2,some (true,2)⟩]}

def b157_0:VC:=
 (.seq
 (rg [0,1,7,8,9] [
 tD 9 8 7])
 (.seq
 (.cond (.t 9)
 .skip
 (.exit 0))
 (.seq
 (.block 1
 (.seq
 (rg [0,1,5,7,8] [
 mv 10 8,
 sg 5 10])
 (.seq
 (rg [0,1,5,7,8,16] [
 mv 11 1,
 mv 12 0,
 mv 13 5,
 tAA 14 12 13,
 ld 15 2 14,
 vo 16 (.callv (.t 11) [(.t 15)])])
 (.cond (.t 16)
 (.seq
 (rg [4] [
 mv 17 5,
 sg 4 17])
 .ret)
 .skip))))
 (rg [0,1,7,8] [
 tB 18 8,
 mv 8 18]))))
def l157_0:VC:=.loop b157_0
def v157 : VFun := {
 code:=
 (.seq
 (rg [0,1] [
 tA 4])
 (.seq
 (.seq
 (rg [0,1,7,8] [
 mv 6 0,
 tJ 7 6,
 tT 8])
 (.block 0
 l157_0))
 (.seq
 (rg [4] [
 tG 4])
 .ret)))
 modes:=[.lend,.lend]
 rets:=[⟨4,none⟩]}

def b158_0:VC:=
 (.seq
 (rg [0,1,7,8,9] [
 tD 9 8 7])
 (.seq
 (.cond (.t 9)
 .skip
 (.exit 0))
 (.seq
 (.block 1
 (.seq
 (rg [0,1,5,7,8] [
 mv 10 8,
 sg 5 10])
 (.seq
 (rg [0,1,5,7,8,16] [
 mv 11 1,
 mv 12 0,
 mv 13 5,
 tAG 14 12 13,
 tBG 15 14,
 vo 16 (.callv (.t 11) [(.t 15)])])
 (.cond (.t 16)
 (.seq
 (rg [4] [
 mv 17 5,
 sg 4 17])
 .ret)
 .skip))))
 (rg [0,1,7,8] [
 tB 18 8,
 mv 8 18]))))
def l158_0:VC:=.loop b158_0
def v158 : VFun := {
 code:=
 (.seq
 (rg [0,1] [
 tA 4])
 (.seq
 (.seq
 (rg [0,1,7,8] [
 mv 6 0,
 tZ 7 6,
 tT 8])
 (.block 0
 l158_0))
 (.seq
 (rg [4] [
 tG 4])
 .ret)))
 modes:=[.lend,.lend]
 rets:=[⟨4,none⟩]}

def v159 : VFun := {
 code:=
 (.seq
 (rg [0] [
 tC 2])
 (.seq
 (rg [2] [
 mv 3 0,
 cl 4 74 [3],
 tF 5 4,
 sg 2 5])
 .ret))
 modes:=[.lend]
 rets:=[⟨2,none⟩]}

def v160 : VFun := {
 code:=
 (.seq
 (rg [0] [
 tY 2])
 (.seq
 (.seq
 (rg [0,4] [
 mv 3 0,
 vo 4 (.bin false .lss 2 (.t 3) (ci 253))])
 (.cond (.t 4)
 (.seq
 (rg [2,7,13] [
 mv 5 0,
 tAX 6 5,
 tEB 7,
 sg 2 7])
 .ret)
 .skip))
 (.seq
 (rg [2,7,13] [
 mv 8 0,
 tAX 9 8,
 mv 10 0,
 tDS 11 10,
 tAX 12 11,
 vo 13 (.lit 148 5 1 3 [(.val (.int .u8 0))] [(0,(.c (.int .u8 253))),(1,(.t 9)),(2,(.t 12))]),
 sg 2 13])
 .ret)))
 modes:=[.lend]
 rets:=[⟨2,none⟩]}

def b161_1:VC:=
 (.seq
 (rg [6,24,25,26,27,28,33] [
 tD 28 27 26])
 (.seq
 (.cond (.t 28)
 .skip
 (.exit 2))
 (.seq
 (.block 3
 (.seq
 (rg [6,8,24,25,26,27,33] [
 tEH 29 172 148 1 25 27,
 ld 30 148 29,
 sg 8 30])
 (rg [6,24,25,26,27,33] [
 mv 31 6,
 mv 32 8,
 tAB 33 31 32,
 sg 6 33])))
 (rg [6,24,25,26,27,33] [
 tB 34 27,
 mv 27 34]))))
def l161_1:VC:=.loop b161_1
def b161_0:VC:=
 (.seq
 (rg [0,3,9,10,11,12] [
 tD 12 11 10])
 (.seq
 (.cond (.t 12)
 .skip
 (.exit 0))
 (.seq
 (.block 1
 (.seq
 (rg [0,3,5,9,10,11] [
 tEH 13 172 148 1 9 11,
 ld 14 148 13,
 sg 5 14])
 (.seq
 (rg [0,3,9,10,11] [
 mv 15 3,
 mv 16 5,
 tCQ 17 16,
 vo 18 (.bin false .add 3 (.t 15) (.t 17)),
 sg 3 18])
 (.seq
 (rg [0,3,9,10,11,20] [
 mv 19 3,
 tH 20 19])
 (.cond (.t 20)
 .any
 .skip)))))
 (rg [0,3,9,10,11] [
 tB 22 11,
 mv 11 22]))))
def l161_0:VC:=.loop b161_0
def v161 : VFun := {
 code:=
 (.seq
 (rg [0] [
 tY 2])
 (.seq
 (rg [0,3] [
 tA 3])
 (.seq
 (.seq
 (rg [0,3,9,10,11] [
 mv 9 0,
 tFA 10 172 9,
 tT 11])
 (.block 0
 l161_0))
 (.seq
 (rg [0,6,24,33] [
 mv 23 3,
 vo 24 (.call 168 [(.n 1),(.t 23)]),
 sg 6 24])
 (.seq
 (.seq
 (rg [6,24,25,26,27,33] [
 mv 25 0,
 tFA 26 172 25,
 tT 27])
 (.block 2
 l161_1))
 (.seq
 (rg [2,6,24,33] [
 mv 35 6,
 sg 2 35])
 .ret))))))
 modes:=[.lend]
 rets:=[⟨2,none⟩]}

def v162 : VFun := {
 code:=
 (.seq
 (rg [0] [
 tY 2])
 (.seq
 (rg [2,9] [
 mv 3 0,
 vo 4 (.bin false .rem 2 (.t 3) (ci 65536)),
 tER 5 160,
 mv 6 0,
 vo 7 (.bin false .quo 2 (.t 6) (ci 65536)),
 tEY 8 160,
 tAB 9 5 8,
 sg 2 9])
 .ret))
 modes:=[.lend]
 rets:=[⟨2,none⟩]}

def b163_0:VC:=
 (.seq
 (rg [3,8,9,10,11,12,18] [
 tD 12 11 10])
 (.seq
 (.cond (.t 12)
 .skip
 (.exit 0))
 (.seq
 (.block 1
 (.seq
 (rg [3,5,8,9,10,11,18] [
 tAA 13 9 11,
 ld 14 2 13,
 sg 5 14])
 (rg [3,8,9,10,11,18] [
 mv 15 3,
 mv 16 5,
 tEV 17 160,
 tAB 18 15 17,
 sg 3 18])))
 (rg [3,8,9,10,11,18] [
 tB 19 11,
 mv 11 19]))))
def l163_0:VC:=.loop b163_0
def v163 : VFun := {
 code:=
 (.seq
 (rg [0] [
 tY 2])
 (.seq
 (rg [0,3,8,18] [
 mv 6 0,
 tJ 7 6,
 tEY 8 160,
 sg 3 8])
 (.seq
 (.seq
 (rg [3,8,9,10,11,18] [
 mv 9 0,
 tJ 10 9,
 tT 11])
 (.block 0
 l163_0))
 (.seq
 (rg [2,3,8,18] [
 mv 20 3,
 sg 2 20])
 .ret))))
 modes:=[.lend]
 rets:=[⟨2,none⟩]}

def v164 : VFun := {
 code:=
 (.seq
 (rg [2,3] [
 tED 2 130 0,
 tED 3 130 1,
 tC 4])
 (.seq
 (.seq
 (rg [2,3,9] [
 tAW 5 2,
 ld 6 2 5,
 tAW 7 3,
 ld 8 2 7,
 tP 9 6 8])
 (.cond (.t 9)
 (.seq
 (rg [4] [
 tC 4])
 .ret)
 .skip))
 (.seq
 (.seq
 (rg [2,3,14] [
 tCF 10 2,
 ld 11 2 10,
 tCF 12 3,
 ld 13 2 12,
 tP 14 11 13])
 (.cond (.t 14)
 (.seq
 (rg [4] [
 tC 4])
 .ret)
 .skip))
 (.seq
 (.seq
 (rg [20] [
 tAS 15 2,
 ld 16 100 15,
 tAS 17 3,
 ld 18 100 17,
 cl 19 169 [16,18],
 tF 20 19])
 (.cond (.t 20)
 (.seq
 (rg [4] [
 tC 4])
 .ret)
 .skip))
 (.seq
 (rg [4] [
 tV 4])
 .ret)))))
 modes:=[.lend,.lend]
 rets:=[⟨4,none⟩]}

def v165 : VFun := {
 code:=
 (.seq
 (rg [2,3] [
 tED 2 102 0,
 tED 3 102 1,
 tC 4])
 (.seq
 (.seq
 (rg [2,3,9] [
 tBF 5 2,
 ld 6 2 5,
 tBF 7 3,
 ld 8 2 7,
 tP 9 6 8])
 (.cond (.t 9)
 (.seq
 (rg [4] [
 tC 4])
 .ret)
 .skip))
 (.seq
 (.seq
 (rg [15] [
 tAT 10 2,
 ld 11 100 10,
 tAT 12 3,
 ld 13 100 12,
 cl 14 169 [11,13],
 tF 15 14])
 (.cond (.t 15)
 (.seq
 (rg [4] [
 tC 4])
 .ret)
 .skip))
 (.seq
 (rg [4] [
 tV 4])
 .ret))))
 modes:=[.lend,.lend]
 rets:=[⟨4,none⟩]}

def v166 : VFun := {
 code:=
 (.seq
 (rg [0,1] [
 tA 4])
 (.seq
 (rg [1] [
 mv 5 1,
 mv 6 0,
 tJ 7 6,
 tBL 8 5 7,
 sg 1 8])
 (.seq
 (.seq
 (rg [1,10] [
 mv 9 1,
 tH 10 9])
 (.cond (.t 10)
 (.seq
 (rg [4] [
 tG 4])
 .ret)
 .skip))
 (.seq
 (rg [4] [
 mv 11 1,
 sg 4 11])
 .ret))))
 modes:=[.lend,.lend]
 rets:=[⟨4,none⟩]}

def b167_0:VC:=
 (.seq
 (.seq
 (rg [0,3,4,7,11] [
 mv 8 4,
 mv 9 0,
 tJ 10 9,
 tD 11 8 10])
 (.cond (.t 11)
 .skip
 (.exit 0)))
 (.seq
 (.block 1
 (rg [0,3,4,7] [
 mv 14 3,
 mv 15 4,
 mv 16 0,
 mv 17 4,
 tAA 18 16 17,
 ld 19 2 18,
 tAA 20 14 15,
 tK 20 19]))
 (rg [0,3,4,7] [
 mv 12 4,
 tB 13 12,
 sg 4 13])))
def l167_0:VC:=.loop b167_0
def v167 : VFun := {
 code:=
 (.seq
 (rg [0] [
 tY 2])
 (.seq
 (rg [0,3,7] [
 mv 5 0,
 tJ 6 5,
 vo 7 (.mk 100 2 1 8 [(.val (.int .i64 0))] (.t 6) (.t 6)),
 sg 3 7])
 (.seq
 (.seq
 (rg [0,3,4,7] [
 tA 4])
 (.block 0
 l167_0))
 (.seq
 (rg [2,3,7] [
 mv 21 3,
 sg 2 21])
 .ret))))
 modes:=[.lend]
 rets:=[⟨2,none⟩]}

def v168 : VFun := {
 code:=
 (.seq
 (rg [0,1,25] [
 tY 4])
 (.seq
 (.seq
 (rg [0,1,6,25] [
 mv 5 1,
 tH 6 5])
 (.cond (.t 6)
 .any
 .skip))
 (.seq
 (.seq
 (rg [0,1,25] [
 mv 8 1,
 mv 9 0,
 vo 10 (.capn 148 (.t 9)),
 mv 11 0,
 tCQ 12 11,
 tBL 13 10 12,
 tBL 14 8 13,
 sg 1 14])
 (.seq
 (rg [0,1,16,25] [
 mv 15 1,
 vo 16 (.bin false .gtr 3 (.t 15) (ci 0))])
 (.cond (.t 16)
 (rg [0,25] [
 mv 17 0,
 mv 18 0,
 vo 19 (.capn 148 (.t 18)),
 vo 20 (.cut 148 (some 5) 1 (.t 17) none (some (.t 19))),
 mv 21 1,
 vo 22 (.appn 148 5 1 1 [(.val (.int .u8 0))] (.t 20) (.t 21)),
 mv 23 0,
 tCQ 24 23,
 vo 25 (.trunc 148 5 1 (.t 22) (.t 24)),
 sg 0 25])
 .skip)))
 (.seq
 (rg [0,4,25] [
 mv 26 0,
 sg 4 26])
 .ret))))
 modes:=[.nl,.lend]
 rets:=[⟨4,none⟩]}

def b169_0:VC:=
 (.seq
 (.seq
 (rg [0,1,5,14] [
 mv 11 5,
 mv 12 0,
 tJ 13 12,
 tD 14 11 13])
 (.cond (.t 14)
 .skip
 (.exit 0)))
 (.seq
 (.block 1
 (.seq
 (.region true [0,1,5,25] [
 mv 17 0,
 tE [0] 18 5,
 tAA 19 17 18,
 ld 20 2 19,
 tE [0,1,2,3] 21 1,
 tE [0,1,2,3,4] 22 5,
 tCK [0,1,2,3] 23 21 22,
 tL [0,1,2,3] 24 23,
 tP 25 20 24])
 (.cond (.t 25)
 (.seq
 (rg [4] [
 tC 4])
 .ret)
 .skip)))
 (rg [0,1,5] [
 mv 15 5,
 tB 16 15,
 sg 5 16])))
def l169_0:VC:=.loop b169_0
def v169 : VFun := {
 code:=
 (.seq
 (rg [0,1] [
 tC 4])
 (.seq
 (.seq
 (rg [0,1,10] [
 mv 6 0,
 tJ 7 6,
 mv 8 1,
 tJ 9 8,
 tBI 10 7 9])
 (.cond (.t 10)
 (.seq
 (rg [4] [
 tC 4])
 .ret)
 .skip))
 (.seq
 (.seq
 (rg [0,1,5] [
 tA 5])
 (.block 0
 l169_0))
 (.seq
 (rg [4] [
 tV 4])
 .ret))))
 modes:=[.lend,.lend]
 rets:=[⟨4,none⟩]}

def tab:List (Nat × VFun):=[(5,v5),(6,v6),(7,v7),(8,v8),(9,v9),(11,v11),(15,v15),(17,v17),(20,v20),(21,v21),(24,v24),(25,v25),(26,v26),(27,v27),(28,v28),(29,v29),(30,v30),(31,v31),(32,v32),(33,v33),(34,v34),(35,v35),(36,v36),(37,v37),(38,v38),(39,v39),(40,v40),(41,v41),(42,v42),(43,v43),(44,v44),(45,v45),(46,v46),(47,v47),(51,v51),(53,v53),(54,v54),(55,v55),(56,v56),(57,v57),(58,v58),(59,v59),(60,v60),(61,v61),(62,v62),(63,v63),(64,v64),(65,v65),(66,v66),(67,v67),(68,v68),(69,v69),(70,v70),(71,v71),(72,v72),(73,v73),(74,v74),(75,v75),(76,v76),(77,v77),(78,v78),(79,v79),(80,v80),(81,v81),(83,v83),(84,v84),(85,v85),(86,v86),(87,v87),(88,v88),(89,v89),(90,v90),(91,v91),(92,v92),(94,v94),(95,v95),(96,v96),(97,v97),(98,v98),(99,v99),(100,v100),(101,v101),(102,v102),(103,v103),(104,v104),(105,v105),(106,v106),(107,v107),(108,v108),(109,v109),(110,v110),(111,v111),(112,v112),(113,v113),(114,v114),(115,v115),(116,v116),(117,v117),(118,v118),(119,v119),(120,v120),(121,v121),(122,v122),(123,v123),(124,v124),(125,v125),(126,v126),(127,v127),(128,v128),(129,v129),(130,v130),(131,v131),(132,v132),(133,v133),(134,v134),(135,v135),(136,v136),(137,v137),(138,v138),(139,v139),(140,v140),(141,v141),(142,v142),(143,v143),(144,v144),(145,v145),(146,v146),(147,v147),(148,v148),(149,v149),(150,v150),(151,v151),(152,v152),(153,v153),(154,v154),(155,v155),(157,v157),(158,v158),(159,v159),(160,v160),(161,v161),(162,v162),(163,v163),(164,v164),(165,v165),(166,v166),(167,v167),(168,v168),(169,v169)]
def F (f:FuncId):Option VFun:=getA none (tab.map fun x=>(x.1,some x.2)) f
theorem tab_ok:tab.all (fun x=>matchFun Tryz.prog x.1 x.2)=true:=by kernel_rfl
theorem F_mem {f:FuncId} {fn:VFun}:∀ {l:List (Nat × VFun)},getA none (l.map fun x=>(x.1,some x.2)) f=some fn→(f,fn)∈l
  |[],h=>by simp[getA] at h
  |(k,v)::l,h=>by
    simp only[List.map_cons,getA] at h
    split at h
    · rename_i e
      injection h with h
      subst e; subst h
      exact List.mem_cons_self ..
    · exact List.mem_cons_of_mem _ (F_mem h)
theorem F_ok (f:FuncId) (fn:VFun) (h:F f=some fn):matchFun Tryz.prog f fn=true:=List.all_eq_true.1 tab_ok _ (F_mem h)
end Go.Proofs.YtmdocdnidilaiaaGreat.CheckShare
