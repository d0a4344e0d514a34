/- V's text of the functions that this law reaches. -/
import Derived.Test.YtihjlmgakpgkeaaDoorVCode
import Derived.Test.YtihjlmgakpgkeaaDoorRows
import Derived.KernelRfl
namespace Go.Proofs.YtihjlmgakpgkeaaDoor.Journals
open Go Go.Proofs.YtihjlmgakpgkeaaDoor.V
set_option maxRecDepth 20000
def vo (d:Nat) (x:VOp):VO:=⟨some d,x,none,[]⟩
def wo (l:List Nat) (d:Nat) (x:VOp):VO:=⟨some d,x,none,l⟩
def vn (x:VOp):VO:=⟨none,x,none,[]⟩
def mv (d x:Nat):VO:=vo d (.mov (.t x))
def ld (d t x:Nat):VO:=vo d (.load t false 1 (.t x))
def sg (d x:Nat):VO:=vo d (.asg (.t x))
def og (d:Nat) (x:VOp) (g:Nat) (b:Bool):VO:=⟨some d,x,some (g,b),[]⟩
def ci (x:Int):VX:=.c (.int .i64 x)
def rg (k:List Nat) (o:List VO):VC:=.region false k o
def cl (d f:Nat) (l:List Nat):VO:=vo d (.call f (l.map .t))
def tA (a:List Nat) (b c:Nat):VO:=wo a b (.mov (.t c))
def tB (a:Nat):VO:=vo a (.asg (ci 0))
def tC (a:Nat):VO:=vo a (.asg (.c (.bool false)))
def tD (a b c:Nat):VO:=vo a (.pick (.t b) (.c (.bool true)) (.t c))
def tE (a b:Nat):VO:=vn (.store 31 10 (.t a) (.t b))
def tF (a b:Nat):VO:=vo a (.len false 22 (.t b))
def tG (a:List Nat) (b c:Nat):VO:=wo a b (.load 2 false 1 (.t c))
def tH (a b:Nat):VO:=vn (.store 52 4 (.t a) (.t b))
def tI (a b:Nat):VO:=vo a (.un .not (.t b))
def tJ (a b:Nat):VO:=vo a (.load 27 true 8 (.t b))
def tK (a b c:Nat):VO:=vo a (.bin false .lss 3 (.t b) (.t c))
def tL (a b:Nat):VO:=vo a (.bin false .add 3 (.t b) (ci 1))
def tM (a b c:Nat):VO:=vo a (.bin false .add 2 (.t b) (.t c))
def tN (a:List Nat) (b c:Nat):VO:=wo a b (.nilc (.t c))
def tO (a b:Nat):VO:=vo a (.nilc (.t b))
def tP (a b:Nat):VO:=vo a (.load 52 true 4 (.t b))
def tQ (a b c:Nat):VO:=vo a (.ia 24 34 2 (.t b) (.t c))
def tR (a b:Nat):VO:=vo a (.fa 27 3 3 1 (.t b))
def tS (a b:Nat):VO:=vo a (.fa 50 0 0 1 (.t b))
def tT (a b:Nat):VO:=vn (.store 2 1 (.t a) (.t b))
def tU (a:Nat):VO:=vo a (.alloc 52 [(.val (.int .i64 0)),(.val (.string (⟨#[]⟩:ByteArray))),(.val (.int .i64 0)),(.val (.int .i64 0))])
def tV (a b:Nat):VO:=vo a (.bin false .neq 2 (.t b) (ci 0))
def tW (a b c:Nat):VO:=vo a (.app 22 5 1 1 (.t b) (.t c))
def tX (a b:Nat):VO:=vo a (.fa 34 1 1 1 (.t b))
def tY (a b:Nat):VO:=vo a (.ext (.t b) 0)
def tZ (a b:Nat):VO:=vn (.store 50 2 (.t a) (.t b))
def tAA (a:Nat):VO:=vo a (.alloc 27 [(.val (.int .i64 0)),(.val (.int .i64 0)),(.nl 2),(.nl 5),(.nl 2),(.val (.int .i64 0)),(.val (.int .i64 0)),(.val (.int .i64 0))])
def tAB (a b:Nat):VO:=vn (.store 27 8 (.t a) (.t b))
def tAC (a b:Nat):VO:=vo a (.conv 2 5 .u8 (.t b))
def tAD (a b:Nat):VO:=vo a (.ext (.t b) 1)
def tAE (a:Nat):VO:=vo a (.alloc 50 [(.nl 1),(.val (.int .i64 0))])
def tAF (a b:Nat):VO:=vn (.store 56 3 (.t a) (.t b))
def tAG (a b c:Nat):VO:=vo a (.pick (.t b) (.t c) (.c (.bool false)))
def tAH (a:Nat):VO:=vo a (.asg (.n 1))
def tAI (a b:Nat):VO:=vo a (.fa 52 0 0 1 (.t b))
def tAJ (a b c:Nat):VO:=vo a (.ia 22 5 1 (.t b) (.t c))
def tAK (a b:Nat):VO:=vo a (.conv 5 2 .i64 (.t b))
def tAL (a b:Nat):VO:=vo a (.len false 24 (.t b))
def tAM (a b:Nat):VO:=vo a (.load 50 true 2 (.t b))
def tAN (a:Nat):VO:=vo a (.alloc 31 [(.val (.int .i64 0)),(.val (.int .i64 0)),(.val (.int .i64 0)),(.val (.int .i64 0)),(.nl 2),(.nl 5),(.nl 2),(.val (.int .i64 0)),(.val (.int .i64 0)),(.val (.int .i64 0))])
def tAO (a b:Nat):VO:=vn (.store 47 3 (.t a) (.t b))
def tAP (a b:Nat):VO:=vo a (.box 52 (.t b))
def tAQ (a b:Nat):VO:=vo a (.box 27 (.t b))
def tAR (a b:Nat):VO:=vo a (.fa 27 4 4 1 (.t b))
def tAS (a b c:Nat):VO:=vo a (.ia 25 96 5 (.t b) (.t c))
def tAT (a:Nat):VO:=vo a (.asg (.n 2))
def tAU (a b c:Nat):VO:=vo a (.app 24 34 2 24 (.t b) (.t c))
def tAV (a b:Nat):VO:=vn (.store 59 2 (.t a) (.t b))
def tAW (a b:Nat):VO:=vo a (.bin false .add 2 (.t b) (ci 1))
def tAX (a b:Nat):VO:=vo a (.bin false .eql 2 (.t b) (ci 0))
def tAY (a b c:Nat):VO:=vo a (.bin false .rem 2 (.t b) (.t c))
def tAZ (a b:Nat):VO:=vo a (.fa 27 2 2 1 (.t b))
def tBA (a b:Nat):VO:=vn (.store 24 1 (.t a) (.t b))
def tBB (a:List Nat) (b c:Nat):VO:=wo a b (.fa 52 1 1 1 (.t c))
def tBC (a:List Nat) (b c:Nat):VO:=wo a b (.load 9 false 1 (.t c))
def tBD (a b:Nat):VO:=vo a (.fa 47 2 2 1 (.t b))
def tBE (a:Nat):VO:=vo a (.alloc 47 [(.val (.int .i64 0)),(.val (.int .i64 0)),(.nl 4)])
def tBF (a b:Nat):VO:=vo a (.bin false .gtr 3 (.t b) (ci 1200))
def tBG (a:List Nat) (b c:Nat):VO:=wo a b (.load 22 false 1 (.t c))
def tBH (a b:Nat):VO:=vo a (.bin false .eql 2 (.t b) (ci 1))
def tBI (a:Nat):VO:=vo a (.asg (ci 3))
def tBJ (a b:Nat):VO:=vo a (.fa 34 0 0 1 (.t b))
def tBK (a b:Nat):VO:=vo a (.bin false .lss 3 (.t b) (ci 0))
def tBL (a:List Nat) (b c d:Nat):VO:=wo a b (.ia 24 34 2 (.t c) (.t d))
def tBM (a:List Nat) (b c:Nat):VO:=wo a b (.fa 34 1 1 1 (.t c))
def tBN (a:Nat):VO:=vo a (.build 52 [(.val (.int .i64 0)),(.val (.string (⟨#[]⟩:ByteArray))),(.val (.int .i64 0)),(.val (.int .i64 0))] [])
def tBO (a b:Nat):VO:=vo a (.ia 22 5 1 (.t b) (ci 0))
def tBP (a:List Nat) (b c:Nat):VO:=wo a b (.fa 52 2 2 1 (.t c))
def tBQ (a:List Nat) (b c:Nat):VO:=wo a b (.fa 52 3 3 1 (.t c))
def tBR (a b:Nat):VO:=vo a (.fa 96 4 4 1 (.t b))
def tBS (a:Nat):VO:=vo a (.lit 24 34 2 0 [(.val (.string (⟨#[]⟩:ByteArray))),(.val (.int .i64 0))] [])
def tBT (a:Nat):VO:=vo a (.alloc 59 [(.val (.int .i64 0)),(.nl 1)])
def tBU (a:List Nat) (b c d:Nat):VO:=wo a b (.cut 22 (some 5) 1 (.t c) (some (.t d)) none)
def tBV (a b:Nat):VO:=og a (.mov (.t b)) 10 true
def tBW (a b:Nat):VO:=vo a (.bin false .sub 2 (.t b) (ci 1))
def tBX (a:List Nat) (b c:Nat):VO:=wo a b (.load 5 false 1 (.t c))
def tBY (a:List Nat) (b c:Nat):VO:=wo a b (.conv 5 2 .i64 (.t c))
def tBZ (a:Nat):VO:=vo a (.call 52 [(ci 7)])
def tCA (a b:Nat):VO:=vo a (.fa 50 1 1 1 (.t b))
def tCB (a b:Nat):VO:=vo a (.bin false .eql 2 (.t b) (ci 2))
def tCC (a:List Nat) (b c:Nat):VO:=wo a b (.len false 22 (.t c))
def tCD (a b:Nat):VO:=vo a (.conv 5 3 .i64 (.t b))
def tCE (a b:Nat):VO:=vo a (.len false 25 (.t b))
def tCF (a b:Nat):VO:=vo a (.bin false .geq 3 (.t b) (ci 0))
def tCG (a:Nat):VO:=vo a (.alloc 56 [(.val (.int .i64 0)),(.nl 1),(.val (.int .i64 0))])
def tCH (a:Nat):VO:=vo a (.lit 22 5 1 0 [(.val (.int .u8 0))] [])
def tCI (a b c:Nat):VO:=vo a (.cut 22 (some 5) 1 (.t b) none (some (.t c)))
def tCJ (a b c:Nat):VO:=vo a (.bin false .add 3 (.t b) (.t c))
def tCK (a b:Nat):VO:=vo a (.bin false .eql 2 (.t b) (ci 3))
def tCL (a b:Nat):VO:=vo a (.bin false .gtr 3 (.t b) (ci 0))
def tCM (a b:Nat):VO:=vo a (.bin false .shr 2 (.t b) (.c (.int .u64 8)))
def tCN (a b:Nat):VO:=vo a (.bin false .gtr 2 (.t b) (ci 0))
def tCO (a b c:Nat):VO:=vo a (.bin false .mul 2 (.t b) (.t c))
def tCP (a:Nat):VO:=vo a (.build 47 [(.val (.int .i64 0)),(.val (.int .i64 0)),(.nl 4)] [(0,0,1,(ci 2))])
def tCQ (a:Nat):VO:=vo a (.build 56 [(.val (.int .i64 0)),(.nl 1),(.val (.int .i64 0))] [(0,0,1,(ci 10))])
def tCR (a:Nat):VO:=vo a (.alloc 96 [(.val (.int .i64 0)),(.val (.int .i64 0)),(.val (.int .i64 0)),(.nl 2),(.val (.int .i64 0))])
def tCS (a b c d e f:Nat):VO:=vo a (.fa b c d e (.t f))
def tCT (a b c:Nat):VO:=og a (.mov (.t b)) c false
def tCU (a b c d e:Nat):VO:=og a (.load b false c (.t d)) e false
def tCV (a b c d e f g:Nat):VO:=og a (.fa b c d e (.t f)) g false
def tCW (a:List Nat) (b c d e f g:Nat):VO:=wo a b (.fa c d e f (.t g))
def tCX (a b c d e f g:Nat):VO:=og a (.fa b c d e (.t f)) g true
def tCY (a b c d e:Nat):VO:=og a (.load b false c (.t d)) e true
def tCZ (a b c:Nat):VO:=og a (.mov (.t b)) c true
def tDA (a b c d:Nat):VO:=og a (.pick (.t b) (.t c) (.c (.bool false))) d false
def tDB (a b c d:Nat):VO:=vn (.store a b (.t c) (.t d))
def tDC (a b c:Nat):VO:=og a (.un .not (.t b)) c false
def tDD (a b c d e f:Nat):VO:=vo a (.ia b c d (.t e) (.t f))
def tDE (a b c d:Nat):VO:=vo a (.load b true c (.t d))
def tDF (a b c:Nat):VO:=vo a (.box b (.t c))
def tDG (a b c:Nat):VO:=vo a (.len false b (.t c))
def tDH (a b:Nat):VO:=vo a (.call b [(.t 10)])
def tDI (a b c:Nat):VO:=og a (.nilc (.t b)) c true
def tDJ (a:List Nat) (b c d e:Nat):VO:=wo a b (.load c true d (.t e))
def tDK (a b:Nat):VO:=vo a (.call b [(.t 4)])
def tDL (a b c d e:Nat):VO:=og a (.bin false .neq b (.t c) (.t d)) e false
def tDM (a b c d:Nat):VO:=vo a (.bin false .eql b (.t c) (.t d))
def tDN (a b c d:Nat):VO:=og a (.bin false .neq b (.t c) (ci 0)) d true
def tDO (a b c d:Nat):VO:=vo a (.bin false .sub b (.t c) (.t d))
def tDP (a b c d:Nat):VO:=og a (.bin false .eql b (.t c) (ci 0)) d false
def tDQ (a b c d:Nat):VO:=og a (.pick (.t b) (.c (.bool true)) (.t c)) d true
def tDR (a b c d:Nat):VO:=og a (.bin false .eql b (.t c) (ci 2)) d false

def b4_1:VC:=
 (.seq
 (.seq
 (rg [3,4,11,12,13,17,175] [
 mv 171 13,
 tBD 172 12,
 ld 173 45 172,
 tDG 174 45 173,
 tK 175 171 174])
 (.cond (.t 175)
 .skip
 (.exit 2)))
 (.seq
 (.block 3
 (.seq
 (.region true [3,4,11,12,13,17,188] [
 tBD 178 12,
 ld 179 45 178,
 tA [0,1] 180 13,
 tDD 181 45 52 4 179 180,
 tP 182 181,
 tCW [0,1,2,3,4] 183 47 2 2 1 4,
 wo [0,1,2,3,4] 184 (.load 45 false 1 (.t 183)),
 tA [0,1,2,3,4,5,6] 185 13,
 wo [0,1,2,3,4] 186 (.ia 45 52 4 (.t 184) (.t 185)),
 tDJ [0,1,2,3,4] 187 52 4 186,
 vo 188 (.eqs true 52 [1,2,1,1] (.t 182) (.t 187))])
 (.cond (.t 188)
 (.seq
 (rg [2] [
 tC 2])
 .ret)
 .skip)))
 (rg [3,4,11,12,13,17] [
 mv 176 13,
 tL 177 176,
 sg 13 177])))
def l4_1:VC:=.loop b4_1
def b4_0:VC:=
 (.seq
 (.seq
 (rg [0,3,4,9,10,17,113,118,129] [
 mv 114 10,
 tBD 115 4,
 ld 116 45 115,
 tDG 117 45 116,
 tK 118 114 117])
 (.cond (.t 118)
 .skip
 (.exit 0)))
 (.seq
 (.block 1
 (rg [0,3,4,9,10,17,113,129] [
 mv 121 9,
 tBD 122 4,
 ld 123 45 122,
 mv 124 10,
 tDD 125 45 52 4 123 124,
 tP 126 125,
 cl 127 22 [126],
 vo 128 (.fld 59 1 1 1 false (.t 127)),
 tW 129 121 128,
 sg 9 129]))
 (rg [0,3,4,9,10,17,113,129] [
 mv 119 10,
 tL 120 119,
 sg 10 120])))
def l4_0:VC:=.loop b4_0
def v4 : VFun := {
 code:=
 (.seq
 (rg [0] [
 tC 2])
 (.seq
 (.seq
 (rg [0,15] [
 mv 14 0,
 cl 15 6 [14]])
 (.cond (.t 15)
 (.seq
 (rg [2] [
 vo 2 (.asg (.c (.bool true)))])
 .ret)
 .skip))
 (.seq
 (rg [0,3,17] [
 mv 16 0,
 cl 17 18 [16],
 sg 3 17])
 (.seq
 (rg [0,3,4,17] [
 mv 18 3,
 cl 19 19 [18],
 tBE 4,
 tAO 4 19])
 (.seq
 (rg [0,3,4,5,6,17] [
 mv 21 0,
 cl 22 20 [21],
 mv 20 22,
 tY 23 20,
 tAD 24 20,
 tAE 5,
 tU 6,
 tZ 5 23,
 tH 6 24])
 (.seq
 (rg [0,3,4,5,6,7,17] [
 tAM 25 5,
 tP 26 6,
 cl 27 21 [25,26],
 tCG 7,
 tAF 7 27])
 (.seq
 (rg [0,3,4,5,6,7,8,17] [
 tP 28 6,
 cl 29 22 [28],
 tBT 8,
 tAV 8 29])
 (.seq
 (.seq
 (.region true [0,3,4,17,103] [
 tCS 30 59 0 0 1 8,
 ld 31 2 30,
 tDJ [0,1] 32 52 4 6,
 wo [0,1] 33 (.call 23 [(.t 32)]),
 wo [0,1] 34 (.fld 59 0 0 1 false (.t 33)),
 vo 35 (.bin false .neq 2 (.t 31) (.t 34)),
 mv 36 35,
 og 37 (.load 52 true 4 (.t 6)) 36 false,
 og 38 (.call 24 [(.t 37)]) 36 false,
 ⟨some 39,.load 52 true 4 (.t 6),some (36,false),[7,8]⟩,
 og 40 (.call 25 [(.t 39)]) 36 false,
 tDL 41 2 38 40 36,
 tD 42 36 41,
 mv 43 42,
 tCV 44 59 0 0 1 8 43,
 tCU 45 2 1 44 43,
 tDP 46 2 45 43,
 tCT 47 46 43,
 tCX 48 59 1 1 1 8 47,
 tCY 49 22 1 48 47,
 og 50 (.call 19 [(.t 49)]) 47 true,
 og 51 (.fld 47 2 2 1 false (.t 50)) 47 true,
 og 52 (.len false 45 (.t 51)) 47 true,
 og 53 (.bin false .neq 3 (.t 52) (ci 1)) 47 true,
 tCZ 54 53 47,
 tCV 55 59 1 1 1 8 54,
 tCU 56 22 1 55 54,
 og 57 (.call 19 [(.t 56)]) 54 false,
 og 58 (.fld 47 2 2 1 false (.t 57)) 54 false,
 og 59 (.ia 45 52 4 (.t 58) (ci 0)) 54 false,
 og 60 (.load 52 true 4 (.t 59)) 54 false,
 ⟨some 61,.load 52 true 4 (.t 6),some (54,false),[25,26,27,28,29,30]⟩,
 og 62 (.eqs true 52 [1,2,1,1] (.t 60) (.t 61)) 54 false,
 tDQ 63 54 62 47,
 tCZ 64 63 47,
 tCV 65 59 1 1 1 8 64,
 tCU 66 22 1 65 64,
 og 67 (.call 19 [(.t 66)]) 64 false,
 og 68 (.fld 47 1 1 1 false (.t 67)) 64 false,
 ⟨some 69,.fa 59 1 1 1 (.t 8),some (64,false),[35,36,37,38]⟩,
 ⟨some 70,.load 22 false 1 (.t 69),some (64,false),[35,36,37,38]⟩,
 ⟨some 71,.len false 22 (.t 70),some (64,false),[35,36,37,38]⟩,
 tDL 72 2 68 71 64,
 tDQ 73 64 72 47,
 tDA 74 47 73 43,
 tD 75 43 74,
 mv 76 75,
 tCV 77 56 0 0 1 7 76,
 tCU 78 2 1 77 76,
 ⟨some 79,.load 50 true 2 (.t 5),some (76,false),[47,48]⟩,
 ⟨some 80,.load 52 true 4 (.t 6),some (76,false),[47,48,49]⟩,
 ⟨some 81,.call 26 [(.t 79),(.t 80)],some (76,false),[47,48]⟩,
 ⟨some 82,.fld 56 0 0 1 false (.t 81),some (76,false),[47,48]⟩,
 tDL 83 2 78 82 76,
 tD 84 76 83,
 mv 85 84,
 tCV 86 56 0 0 1 7 85,
 tCU 87 2 1 86 85,
 tDP 88 2 87 85,
 tCT 89 88 85,
 tCX 90 56 1 1 2 7 89,
 tCX 91 50 0 0 1 90 89,
 tCY 92 22 1 91 89,
 og 93 (.b2s 22 9 (.t 92)) 89 true,
 ⟨some 94,.fa 50 0 0 1 (.t 5),some (89,true),[60,61,62,63]⟩,
 ⟨some 95,.load 22 false 1 (.t 94),some (89,true),[60,61,62,63]⟩,
 ⟨some 96,.b2s 22 9 (.t 95),some (89,true),[60,61,62,63]⟩,
 ⟨some 97,.fa 59 1 1 1 (.t 8),some (89,true),[60,61,62,63,64,65,66]⟩,
 ⟨some 98,.load 22 false 1 (.t 97),some (89,true),[60,61,62,63,64,65,66]⟩,
 ⟨some 99,.b2s 22 9 (.t 98),some (89,true),[60,61,62,63,64,65,66]⟩,
 ⟨some 100,.bin false .add 9 (.t 96) (.t 99),some (89,true),[60,61,62,63]⟩,
 og 101 (.bin false .neq 9 (.t 93) (.t 100)) 89 true,
 tDA 102 89 101 85,
 tD 103 85 102])
 (.cond (.t 103)
 (.seq
 (rg [2] [
 tC 2])
 .ret)
 .skip))
 (.seq
 (.seq
 (rg [0,3,4,17,106] [
 tCS 104 47 0 0 1 4,
 ld 105 2 104,
 tV 106 105])
 (.cond (.t 106)
 (.seq
 (.region true [2] [
 mv 107 3,
 cl 108 27 [107],
 vo 109 (.fld 47 0 0 1 false (.t 108)),
 tCW [0,1,2] 110 47 0 0 1 4,
 tG [0,1,2] 111 110,
 tDM 112 2 109 111,
 sg 2 112])
 .ret)
 .skip))
 (.seq
 (rg [0,3,4,9,17,113,129] [
 tCH 113,
 sg 9 113])
 (.seq
 (.seq
 (rg [0,3,4,9,10,17,113,129] [
 tB 10])
 (.block 0
 l4_0))
 (.seq
 (.seq
 (.region true [0,3,4,17,149] [
 tCS 130 47 1 1 1 4,
 ld 131 2 130,
 vo 132 (.bin false .lss 2 (.t 131) (ci 0)),
 mv 133 132,
 tCV 134 47 1 1 1 4 133,
 tCU 135 2 1 134 133,
 ⟨some 136,.mov (.t 3),some (133,false),[4,5]⟩,
 ⟨some 137,.len false 22 (.t 136),some (133,false),[4,5]⟩,
 og 138 (.bin false .gtr 2 (.t 135) (.t 137)) 133 false,
 tD 139 133 138,
 mv 140 139,
 tCT 141 9 140,
 og 142 (.b2s 22 9 (.t 141)) 140 false,
 ⟨some 143,.mov (.t 3),some (140,false),[11,12]⟩,
 ⟨some 144,.fa 47 1 1 1 (.t 4),some (140,false),[11,12,13]⟩,
 ⟨some 145,.load 2 false 1 (.t 144),some (140,false),[11,12,13]⟩,
 ⟨some 146,.cut 22 (some 5) 1 (.t 143) none (some (.t 145)),some (140,false),[11,12]⟩,
 ⟨some 147,.b2s 22 9 (.t 146),some (140,false),[11,12]⟩,
 tDL 148 9 142 147 140,
 tD 149 140 148])
 (.cond (.t 149)
 (.seq
 (rg [2] [
 tC 2])
 .ret)
 .skip))
 (.seq
 (rg [3,4,11,17] [
 mv 150 0,
 tCS 151 47 1 1 1 4,
 ld 152 2 151,
 tAW 153 152,
 vo 154 (.call 28 [(.t 150),(ci 3),(.t 153)]),
 sg 11 154])
 (.seq
 (rg [3,4,11,12,17] [
 mv 155 3,
 mv 156 11,
 tCI 157 155 156,
 cl 158 19 [157],
 tBE 12,
 tAO 12 158])
 (.seq
 (.seq
 (rg [3,4,11,12,17,170] [
 tCS 159 47 0 0 1 12,
 ld 160 2 159,
 tV 161 160,
 mv 162 161,
 tCV 163 47 2 2 1 12 162,
 tCU 164 45 1 163 162,
 og 165 (.len false 45 (.t 164)) 162 false,
 tCV 166 47 2 2 1 4 162,
 tCU 167 45 1 166 162,
 og 168 (.len false 45 (.t 167)) 162 false,
 og 169 (.bin false .gtr 3 (.t 165) (.t 168)) 162 false,
 tD 170 162 169])
 (.cond (.t 170)
 (.seq
 (rg [2] [
 tC 2])
 .ret)
 .skip))
 (.seq
 (.seq
 (rg [3,4,11,12,13,17] [
 tB 13])
 (.block 2
 l4_1))
 (.seq
 (.region true [2] [
 tCS 189 47 1 1 1 12,
 ld 190 2 189,
 tA [0,1] 191 11,
 vo 192 (.bin false .leq 2 (.t 190) (.t 191)),
 mv 193 192,
 tCX 194 47 2 2 1 4 193,
 tCY 195 45 1 194 193,
 og 196 (.len false 45 (.t 195)) 193 true,
 ⟨some 197,.mov (.t 3),some (193,true),[5,6,7]⟩,
 ⟨some 198,.call 27 [(.t 197)],some (193,true),[5,6,7]⟩,
 ⟨some 199,.fld 47 2 2 1 false (.t 198),some (193,true),[5,6,7]⟩,
 ⟨some 200,.len false 45 (.t 199),some (193,true),[5,6,7]⟩,
 og 201 (.bin false .eql 3 (.t 196) (.t 200)) 193 true,
 tAG 202 193 201,
 sg 2 202])
 .ret)))))))))))))))))
 modes:=[.lend]
 rets:=[⟨2,none⟩]}

def v6 : VFun := {
 code:=
 (.seq
 (rg [0] [
 tC 2])
 (.seq
 (rg [2] [
 mv 3 0,
 tF 4 3,
 vo 5 (.bin false .gtr 3 (.t 4) (ci 1048576)),
 sg 2 5])
 .ret))
 modes:=[.lend]
 rets:=[⟨2,none⟩]}

def v18 : VFun := {
 code:=
 (.seq
 (rg [0] [
 tAH 2])
 (.seq
 (rg [2,5] [
 mv 3 0,
 cl 4 38 [3],
 tDK 5 62,
 vo 6 (.fld 50 0 0 1 false (.t 5)),
 sg 2 6])
 .ret))
 modes:=[.lend]
 rets:=[⟨2,none⟩]}

def b19_0:VC:=
 (.block 1
 (.seq
 (rg [0,2,3,4,5,6] [
 mv 13 0,
 cl 14 63 [13],
 mv 12 14,
 tY 15 12,
 tAD 16 12,
 vo 17 (.ext (.t 12) 2),
 tU 4,
 tH 4 15,
 sg 5 16,
 sg 6 17])
 (.seq
 (.seq
 (rg [0,2,3,4,5,19] [
 mv 18 6,
 tI 19 18])
 (.cond (.t 19)
 (.seq
 (rg [2] [
 tDE 20 47 3 3,
 tAO 2 20])
 .ret)
 .skip))
 (.region true [0,2,3] [
 tBD 21 3,
 ld 22 45 21,
 tDJ [0,1] 23 52 4 4,
 wo [0,1] 24 (.lit 45 52 4 1 [(.val (.int .i64 0)),(.val (.string (⟨#[]⟩:ByteArray))),(.val (.int .i64 0)),(.val (.int .i64 0))] [(0,(.t 23))]),
 vo 25 (.app 45 52 4 40 (.t 22) (.t 24)),
 tCW [0,1,2,3,4] 26 47 1 1 1 3,
 tG [0,1,2,3,4] 27 26,
 tA [0,1,2,3,4,5,6] 28 5,
 wo [0,1,2,3,4] 29 (.bin false .add 2 (.t 27) (.t 28)),
 tA [0,1,2,3,4,5,6,7,8] 30 0,
 tA [0,1,2,3,4,5,6,7,8,9] 31 5,
 tBU [0,1,2,3,4,5,6,7,8] 32 30 31,
 tCW [7,8,9,10,11] 33 47 2 2 1 3,
 ⟨none,.store 45 1 (.t 33) (.t 25),none,[7,8,9,10,11]⟩,
 tCW [9,10,11] 34 47 1 1 1 3,
 ⟨none,.store 2 1 (.t 34) (.t 29),none,[9,10,11]⟩,
 sg 0 32]))))
def l19_0:VC:=.loop b19_0
def v19 : VFun := {
 code:=
 (.seq
 (rg [0,2] [
 tBE 2])
 (.seq
 (.seq
 (rg [0,2,9] [
 mv 7 0,
 tF 8 7,
 tBF 9 8])
 (.cond (.t 9)
 (.seq
 (rg [2] [
 tCP 10,
 tAO 2 10])
 .ret)
 .skip))
 (.seq
 (rg [0,2,3] [
 vo 11 (.build 47 [(.val (.int .i64 0)),(.val (.int .i64 0)),(.nl 4)] []),
 tBE 3,
 tAO 3 11])
 (.block 0
 l19_0))))
 modes:=[.lend]
 rets:=[⟨2,some (true,3)⟩]}

def v20 : VFun := {
 code:=
 (.seq
 (rg [0,2,3] [
 tAE 2,
 tU 3])
 (.seq
 (rg [2,3,4,7] [
 mv 6 0,
 cl 7 38 [6],
 sg 4 7])
 (.seq
 (rg [2,3,4,5,7] [
 mv 8 4,
 cl 9 62 [8],
 tAE 5,
 tZ 5 9])
 (.seq
 (.seq
 (rg [2,3,4,5,7,17] [
 mv 10 4,
 vo 11 (.call 64 [(.t 10),(ci 10)]),
 mv 12 11,
 tCX 13 50 0 0 1 5 12,
 tCY 14 22 1 13 12,
 og 15 (.len false 22 (.t 14)) 12 true,
 og 16 (.bin false .lss 3 (.t 15) (ci 1190)) 12 true,
 tAG 17 12 16])
 (.cond (.t 17)
 (rg [2,3,4,5,7] [
 tS 18 5,
 ld 19 22 18,
 tS 20 5,
 ld 21 22 20,
 tF 22 21,
 vo 23 (.bin false .sub 3 (ci 1190) (.t 22)),
 vo 24 (.appn 22 5 1 1 [(.val (.int .u8 0))] (.t 19) (.t 23)),
 tS 25 5,
 tDB 22 1 25 24])
 .skip))
 (.seq
 (.region true [2,3] [
 tAM 26 5,
 tA [0] 27 4,
 wo [0] 28 (.call 65 [(.t 27)]),
 tZ 2 26,
 tH 3 28])
 .ret)))))
 modes:=[.lend]
 rets:=[⟨2,some (true,2)⟩,⟨3,some (true,4)⟩]}

def v21 : VFun := {
 code:=
 (.seq
 (rg [2,3,4] [
 tDF 2 50 0,
 tAP 3 1,
 tCG 4])
 (.seq
 (.seq
 (rg [2,3,4,5] [
 tAM 7 2,
 cl 8 66 [7],
 sg 5 8])
 (.seq
 (rg [2,3,4,5,10] [
 mv 9 5,
 tV 10 9])
 (.cond (.t 10)
 (.seq
 (rg [4] [
 mv 11 5,
 vo 12 (.build 56 [(.val (.int .i64 0)),(.nl 1),(.val (.int .i64 0))] [(0,0,1,(.t 11))]),
 tAF 4 12])
 .ret)
 .skip)))
 (.seq
 (rg [2,4,6] [
 tP 13 3,
 cl 14 22 [13],
 tBT 6,
 tAV 6 14])
 (.seq
 (.block 0
 (.seq
 (rg [2,4,6,15] [
 tCS 16 59 0 0 1 6,
 ld 17 2 16,
 tV 18 17,
 sg 15 18])
 (.cond (.t 15)
 (.seq
 (rg [4] [
 tCS 19 59 0 0 1 6,
 ld 20 2 19,
 vo 21 (.build 56 [(.val (.int .i64 0)),(.nl 1),(.val (.int .i64 0))] [(0,0,1,(.t 20))]),
 tAF 4 21])
 .ret)
 (.seq
 (rg [2,4,6,22] [
 tS 23 2,
 ld 24 22 23,
 tF 25 24,
 tCS 26 59 1 1 1 6,
 ld 27 22 26,
 tF 28 27,
 tCJ 29 25 28,
 tBF 30 29,
 sg 22 30])
 (.cond (.t 22)
 (.seq
 (rg [4] [
 tCQ 31,
 tAF 4 31])
 .ret)
 .skip)))))
 (.seq
 (.region true [4] [
 tS 32 2,
 ld 33 22 32,
 tCW [0,1] 34 59 1 1 1 6,
 tBG [0,1] 35 34,
 vo 36 (.lit 149 22 1 2 [(.nl 1)] [(0,(.t 33)),(1,(.t 35))]),
 cl 37 67 [36],
 tCW [0,1,2,3,4,5] 38 50 1 1 1 2,
 tG [0,1,2,3,4,5] 39 38,
 vo 40 (.build 50 [(.nl 1),(.val (.int .i64 0))] [(0,0,1,(.t 37)),(1,1,1,(.t 39))]),
 vo 41 (.build 56 [(.val (.int .i64 0)),(.nl 1),(.val (.int .i64 0))] [(0,0,1,(ci 0)),(1,1,2,(.t 40))]),
 tAF 4 41])
 .ret)))))
 modes:=[.lend,.lend]
 rets:=[⟨4,some (true,3)⟩]}

def v22 : VFun := {
 code:=
 (.seq
 (rg [1,2] [
 tAP 1 0,
 tBT 2])
 (.seq
 (.seq
 (rg [1,2,3] [
 tP 4 1,
 tDK 5 24,
 sg 3 5])
 (.seq
 (rg [1,2,3,7] [
 mv 6 3,
 tV 7 6])
 (.cond (.t 7)
 (.seq
 (rg [2] [
 mv 8 3,
 vo 9 (.build 59 [(.val (.int .i64 0)),(.nl 1)] [(0,0,1,(.t 8))]),
 tAV 2 9])
 .ret)
 .skip)))
 (.seq
 (rg [2] [
 tP 10 1,
 tDH 11 68,
 vo 12 (.build 59 [(.val (.int .i64 0)),(.nl 1)] [(0,0,1,(ci 0)),(1,1,1,(.t 11))]),
 tAV 2 12])
 .ret)))
 modes:=[.lend]
 rets:=[⟨2,some (true,2)⟩]}

def v23 : VFun := {
 code:=
 (.seq
 (rg [1,2] [
 tAP 1 0,
 tBT 2])
 (.seq
 (.seq
 (rg [1,2,3] [
 cl 4 69 [1],
 sg 3 4])
 (.seq
 (rg [1,2,3,6] [
 mv 5 3,
 tV 6 5])
 (.cond (.t 6)
 (.seq
 (rg [2] [
 mv 7 3,
 vo 8 (.build 59 [(.val (.int .i64 0)),(.nl 1)] [(0,0,1,(.t 7))]),
 tAV 2 8])
 .ret)
 .skip)))
 (.seq
 (rg [2] [
 cl 9 70 [1],
 vo 10 (.build 59 [(.val (.int .i64 0)),(.nl 1)] [(1,1,1,(.t 9))]),
 tAV 2 10])
 .ret)))
 modes:=[.lend]
 rets:=[⟨2,some (true,2)⟩]}

def v24 : VFun := {
 code:=
 (.seq
 (rg [1] [
 tAP 1 0,
 tB 2])
 (.seq
 (rg [1,3] [
 tAI 5 1,
 ld 6 2 5,
 tBH 7 6,
 mv 8 7,
 tCV 9 52 0 0 1 1 8,
 tCU 10 2 1 9 8,
 og 11 (.bin false .eql 2 (.t 10) (ci 5)) 8 false,
 tD 12 8 11,
 sg 3 12])
 (.seq
 (rg [1,3,4] [
 mv 13 3,
 mv 14 13,
 tCV 15 52 0 0 1 1 14,
 tCU 16 2 1 15 14,
 tDR 17 2 16 14,
 tD 18 14 17,
 sg 4 18])
 (.seq
 (.block 0
 (.seq
 (rg [1,3,19] [
 tAI 20 1,
 ld 21 2 20,
 vo 22 (.call 45 [(.t 21),(ci 1),(ci 5)]),
 tI 23 22,
 mv 24 23,
 tCT 25 3 24,
 tDC 26 25 24,
 tCT 27 26 24,
 tCX 28 52 1 1 1 1 27,
 tCY 29 9 1 28 27,
 og 30 (.bin false .neq 9 (.t 29) (.c (.string (⟨#[]⟩:ByteArray)))) 27 true,
 tDA 31 27 30 24,
 tD 32 24 31,
 mv 33 32,
 tCT 34 3 33,
 tCT 35 34 33,
 tCX 36 52 2 2 1 1 35,
 tCY 37 2 1 36 35,
 tDN 38 2 37 35,
 tDA 39 35 38 33,
 tD 40 33 39,
 mv 41 40,
 tCT 42 4 41,
 tDC 43 42 41,
 tCT 44 43 41,
 tCX 45 52 3 3 1 1 44,
 tCY 46 2 1 45 44,
 tDN 47 2 46 44,
 tDA 48 44 47 41,
 tD 49 41 48,
 sg 19 49])
 (.cond (.t 19)
 (.seq
 (rg [2] [
 vo 2 (.asg (ci 1))])
 .ret)
 (.seq
 (rg [1,3,50] [
 mv 51 3,
 mv 52 51,
 tCX 53 52 1 1 1 1 52,
 tCY 54 9 1 53 52,
 og 55 (.call 71 [(.t 54)]) 52 true,
 og 56 (.un .not (.t 55)) 52 true,
 tAG 57 52 56,
 sg 50 57])
 (.cond (.t 50)
 (.seq
 (rg [2] [
 vo 2 (.asg (ci 5))])
 .ret)
 (.seq
 (rg [58] [
 tCS 59 52 2 2 1 1,
 ld 60 2 59,
 cl 61 72 [60],
 tI 62 61,
 mv 63 62,
 tCV 64 52 3 3 1 1 63,
 tCU 65 2 1 64 63,
 og 66 (.call 46 [(.t 65)]) 63 false,
 tDC 67 66 63,
 tD 68 63 67,
 mv 69 68,
 tCT 70 3 69,
 tCT 71 70 69,
 tCX 72 52 3 3 1 1 71,
 tCY 73 2 1 72 71,
 og 74 (.bin false .eql 2 (.t 73) (ci 0)) 71 true,
 tDA 75 71 74 69,
 tD 76 69 75,
 mv 77 76,
 tCV 78 52 0 0 1 1 77,
 tCU 79 2 1 78 77,
 og 80 (.bin false .eql 2 (.t 79) (ci 1)) 77 false,
 tCT 81 80 77,
 tCX 82 52 3 3 1 1 81,
 tCY 83 2 1 82 81,
 og 84 (.bin false .gtr 2 (.t 83) (ci 9999)) 81 true,
 tDA 85 81 84 77,
 tD 86 77 85,
 sg 58 86])
 (.cond (.t 58)
 (.seq
 (rg [2] [
 tBI 2])
 .ret)
 .skip)))))))
 (.seq
 (rg [2] [
 tB 2])
 .ret)))))
 modes:=[.lend]
 rets:=[⟨2,none⟩]}

def v25 : VFun := {
 code:=
 (.seq
 (rg [1] [
 tAP 1 0,
 tB 2])
 (.seq
 (rg [2] [
 cl 3 69 [1],
 sg 2 3])
 .ret))
 modes:=[.lend]
 rets:=[⟨2,none⟩]}

def v26 : VFun := {
 code:=
 (.seq
 (rg [2,3,4] [
 tDF 2 50 0,
 tAP 3 1,
 tCG 4])
 (.seq
 (.seq
 (rg [2,3,4,5] [
 cl 9 73 [2],
 sg 5 9])
 (.seq
 (rg [2,3,4,5,11] [
 mv 10 5,
 tV 11 10])
 (.cond (.t 11)
 (.seq
 (rg [4] [
 mv 12 5,
 vo 13 (.build 56 [(.val (.int .i64 0)),(.nl 1),(.val (.int .i64 0))] [(0,0,1,(.t 12))]),
 tAF 4 13])
 .ret)
 .skip)))
 (.seq
 (.seq
 (rg [2,3,4,6] [
 cl 14 69 [3],
 sg 6 14])
 (.seq
 (rg [2,3,4,6,16] [
 mv 15 6,
 tV 16 15])
 (.cond (.t 16)
 (.seq
 (rg [4] [
 mv 17 6,
 vo 18 (.build 56 [(.val (.int .i64 0)),(.nl 1),(.val (.int .i64 0))] [(0,0,1,(.t 17))]),
 tAF 4 18])
 .ret)
 .skip)))
 (.seq
 (rg [4,7,8] [
 tAM 20 2,
 cl 21 74 [20,3],
 mv 19 21,
 tY 22 19,
 tAD 23 19,
 tAE 7,
 tZ 7 22,
 sg 8 23])
 (.seq
 (.seq
 (rg [4,7,25] [
 mv 24 8,
 tI 25 24])
 (.cond (.t 25)
 (.seq
 (rg [4] [
 tCQ 26,
 tAF 4 26])
 .ret)
 .skip))
 (.seq
 (rg [4] [
 tAM 27 7,
 vo 28 (.build 56 [(.val (.int .i64 0)),(.nl 1),(.val (.int .i64 0))] [(1,1,2,(.t 27))]),
 tAF 4 28])
 .ret))))))
 modes:=[.lend,.lend]
 rets:=[⟨4,some (true,3)⟩]}

def v27 : VFun := {
 code:=
 (.seq
 (rg [0,2] [
 tBE 2])
 (.seq
 (.seq
 (rg [0,2,7] [
 mv 5 0,
 tF 6 5,
 tBF 7 6])
 (.cond (.t 7)
 (.seq
 (rg [2] [
 tCP 8,
 tAO 2 8])
 .ret)
 .skip))
 (.seq
 (rg [2,3,4,11] [
 mv 10 0,
 tDH 11 75,
 mv 9 11,
 tY 12 9,
 tAD 13 9,
 sg 3 12,
 sg 4 13])
 (.seq
 (rg [2] [
 mv 14 3,
 mv 15 4,
 vo 16 (.build 47 [(.val (.int .i64 0)),(.val (.int .i64 0)),(.nl 4)] [(2,2,1,(.t 14)),(1,1,1,(.t 15))]),
 tAO 2 16])
 .ret))))
 modes:=[.lend]
 rets:=[⟨2,some (true,3)⟩]}

def v28 : VFun := {
 code:=
 (.seq
 (rg [0,1,2] [
 tB 6])
 (.seq
 (rg [0,1,2,7] [
 mv 9 0,
 tF 10 9,
 sg 7 10])
 (.seq
 (.seq
 (rg [0,1,2,7,12] [
 mv 11 2,
 vo 12 (.bin false .leq 2 (.t 11) (ci 1))])
 (.cond (.t 12)
 (.seq
 (rg [6] [
 tB 6])
 .ret)
 .skip))
 (.seq
 (.seq
 (rg [0,1,2,7,14] [
 mv 13 7,
 tAX 14 13])
 (.cond (.t 14)
 (.seq
 (rg [6] [
 mv 15 1,
 vo 16 (.bin false .mul 2 (.t 15) (ci 7)),
 mv 17 2,
 tAY 18 16 17,
 sg 6 18])
 .ret)
 .skip))
 (.seq
 (.region true [0,1,2,7,8] [
 mv 19 0,
 tA [0] 20 1,
 tA [0,1] 21 7,
 wo [0] 22 (.bin false .rem 2 (.t 20) (.t 21)),
 tAJ 23 19 22,
 ld 24 5 23,
 tAK 25 24,
 tA [0,1,2,3,4,5,6] 26 1,
 tA [0,1,2,3,4,5,6,7] 27 7,
 wo [0,1,2,3,4,5,6] 28 (.bin false .quo 2 (.t 26) (.t 27)),
 wo [0,1,2,3,4,5,6] 29 (.bin false .mul 2 (.t 28) (ci 3)),
 tM 30 25 29,
 sg 8 30])
 (.seq
 (.seq
 (rg [0,1,2,7,8,32] [
 mv 31 2,
 vo 32 (.bin false .gtr 2 (.t 31) (ci 200))])
 (.cond (.t 32)
 (rg [2,8] [
 mv 33 8,
 vo 34 (.bin false .mul 2 (.t 33) (ci 251)),
 mv 35 0,
 mv 36 1,
 tAW 37 36,
 mv 38 7,
 tAY 39 37 38,
 tAJ 40 35 39,
 ld 41 5 40,
 tAK 42 41,
 tM 43 34 42,
 sg 8 43])
 .skip))
 (.seq
 (rg [6] [
 mv 44 8,
 mv 45 2,
 tAY 46 44 45,
 sg 6 46])
 .ret)))))))
 modes:=[.lend,.lend,.lend]
 rets:=[⟨6,none⟩]}

def v38 : VFun := {
 code:=
 (.seq
 (rg [0] [
 vo 2 (.asg (.c (.pointer none)))])
 (.seq
 (rg [2,5] [
 mv 3 0,
 vo 4 (.build 130 [(.nl 1),(.val (.int .i64 0))] [(0,0,1,(.t 3))]),
 tDF 5 130 4,
 sg 2 5])
 .ret))
 modes:=[.lend]
 rets:=[⟨2,none⟩]}

def v40 : VFun := {
 code:=
 (.seq
 (rg [0] [
 vo 2 (.asg (.c (.string (⟨#[]⟩:ByteArray))))])
 (.seq
 (rg [0,2] [
 vo 3 (.lit 87 9 1 4 [(.val (.string (⟨#[]⟩:ByteArray)))] [(0,(.c (.string (⟨#[98,111,98]⟩:ByteArray)))),(1,(.c (.string (⟨#[97,110,110]⟩:ByteArray)))),(2,(.c (.string (⟨#[101,118,101]⟩:ByteArray)))),(3,(.c (.string (⟨#[120,49]⟩:ByteArray))))]),
 mv 4 0,
 vo 5 (.call 48 [(.t 4),(ci 4)]),
 tDD 6 87 9 1 3 5,
 ld 7 9 6,
 sg 2 7])
 .ret))
 modes:=[.io]
 rets:=[⟨2,none⟩]}

def v41 : VFun := {
 code:=
 (.seq
 (rg [0,1] [
 tB 4])
 (.seq
 (rg [0,4] [
 mv 5 1,
 mv 6 0,
 mv 7 1,
 tDG 8 132 7,
 cl 9 48 [6,8],
 tDD 10 132 2 1 5 9,
 ld 11 2 10,
 sg 4 11])
 .ret))
 modes:=[.io,.lend]
 rets:=[⟨4,none⟩]}

def v45 : VFun := {
 code:=
 (.seq
 (rg [0,1,2] [
 tC 6])
 (.seq
 (rg [6] [
 mv 7 0,
 mv 8 1,
 vo 9 (.bin false .geq 2 (.t 7) (.t 8)),
 mv 10 9,
 tBV 11 0,
 tBV 12 2,
 og 13 (.bin false .leq 2 (.t 11) (.t 12)) 10 true,
 tAG 14 10 13,
 sg 6 14])
 .ret))
 modes:=[.lend,.lend,.lend]
 rets:=[⟨6,none⟩]}

def v46 : VFun := {
 code:=
 (.seq
 (rg [0] [
 tC 2])
 (.seq
 (rg [2] [
 mv 3 0,
 vo 4 (.call 45 [(.t 3),(ci 0),(ci 1000000)]),
 sg 2 4])
 .ret))
 modes:=[.lend]
 rets:=[⟨2,none⟩]}

def v48 : VFun := {
 code:=
 (.seq
 (rg [0,1] [
 tB 4])
 (.seq
 (rg [0,1] [
 mv 8 0,
 mv 9 0,
 tO 10 9,
 tCS 11 130 1 1 1 10,
 ld 12 2 11,
 tAW 13 12,
 tO 14 8,
 tCS 15 130 1 1 1 14,
 tT 15 13])
 (.seq
 (.seq
 (rg [0,1,17] [
 mv 16 1,
 vo 17 (.bin false .lss 2 (.t 16) (ci 1))])
 (.cond (.t 17)
 (.seq
 (rg [0,4] [
 tB 4])
 .ret)
 .skip))
 (.seq
 (rg [0,1,5] [
 mv 18 0,
 tO 19 18,
 tCS 20 130 1 1 1 19,
 ld 21 2 20,
 tBW 22 21,
 sg 5 22])
 (.seq
 (rg [0,1,5,6] [
 mv 23 0,
 tO 24 23,
 tCS 25 130 0 0 1 24,
 ld 26 22 25,
 tF 27 26,
 sg 6 27])
 (.seq
 (.seq
 (rg [0,1,5,6,29] [
 mv 28 6,
 tAX 29 28])
 (.cond (.t 29)
 (.seq
 (rg [0,4] [
 mv 30 5,
 vo 31 (.bin false .mul 2 (.t 30) (ci 7)),
 mv 32 1,
 tAY 33 31 32,
 sg 4 33])
 .ret)
 .skip))
 (.seq
 (.region true [0,1,5,6,7] [
 mv 34 0,
 tO 35 34,
 tCS 36 130 0 0 1 35,
 ld 37 22 36,
 tA [0,1,2,3] 38 5,
 tA [0,1,2,3,4] 39 6,
 wo [0,1,2,3] 40 (.bin false .rem 2 (.t 38) (.t 39)),
 tAJ 41 37 40,
 ld 42 5 41,
 tAK 43 42,
 tA [0,1,2,3,4,5,6,7,8,9] 44 5,
 tA [0,1,2,3,4,5,6,7,8,9,10] 45 6,
 wo [0,1,2,3,4,5,6,7,8,9] 46 (.bin false .quo 2 (.t 44) (.t 45)),
 wo [0,1,2,3,4,5,6,7,8,9] 47 (.bin false .mul 2 (.t 46) (ci 37)),
 tM 48 43 47,
 sg 7 48])
 (.seq
 (.seq
 (rg [0,1,5,6,7,50] [
 mv 49 1,
 vo 50 (.bin false .gtr 2 (.t 49) (ci 200))])
 (.cond (.t 50)
 (.region true [0,1,7] [
 mv 51 7,
 vo 52 (.bin false .mul 2 (.t 51) (ci 251)),
 tA [0,1] 53 0,
 tN [0,1] 54 53,
 tCW [0,1] 55 130 0 0 1 54,
 tBG [0,1] 56 55,
 tA [0,1,2,3,4,5] 57 5,
 wo [0,1,2,3,4,5] 58 (.bin false .add 2 (.t 57) (ci 1)),
 tA [0,1,2,3,4,5,6,7] 59 6,
 wo [0,1,2,3,4,5] 60 (.bin false .rem 2 (.t 58) (.t 59)),
 wo [0,1] 61 (.ia 22 5 1 (.t 56) (.t 60)),
 tBX [0,1] 62 61,
 tBY [0,1] 63 62,
 wo [0,1] 64 (.bin false .mul 2 (.t 63) (ci 13)),
 tM 65 52 64,
 tA [0,1,2,3,4,5,6,7,8,9,10,11,12,13,14] 66 5,
 tM 67 65 66,
 sg 7 67])
 .skip))
 (.seq
 (rg [0,4] [
 mv 68 7,
 mv 69 1,
 tAY 70 68 69,
 sg 4 70])
 .ret)))))))))
 modes:=[.io,.lend]
 rets:=[⟨4,none⟩]}

def v52 : VFun := {
 code:=
 (.seq
 (rg [0,2] [
 tAN 2])
 (.seq
 (rg [2] [
 mv 3 0,
 vo 4 (.build 31 [(.val (.int .i64 0)),(.val (.int .i64 0)),(.val (.int .i64 0)),(.val (.int .i64 0)),(.nl 2),(.nl 5),(.nl 2),(.val (.int .i64 0)),(.val (.int .i64 0)),(.val (.int .i64 0))] [(0,0,1,(.t 3))]),
 tE 2 4])
 .ret))
 modes:=[.lend]
 rets:=[⟨2,some (true,10)⟩]}

def v53 : VFun := {
 code:=
 (.seq
 (rg [2,3,4] [
 tAQ 2 0,
 tDF 3 34 1,
 tAN 4])
 (.seq
 (.seq
 (rg [2,3,4,5] [
 cl 7 102 [3],
 sg 5 7])
 (.seq
 (rg [2,3,4,5,9] [
 mv 8 5,
 tV 9 8])
 (.cond (.t 9)
 (.seq
 (rg [4] [
 mv 10 5,
 tDH 11 52,
 tE 4 11])
 .ret)
 .skip)))
 (.seq
 (rg [2,3,4,6] [
 tJ 12 2,
 cl 13 103 [12],
 tAA 6,
 tAB 6 13])
 (.seq
 (rg [4,6] [
 tAZ 14 2,
 ld 15 24 14,
 tDE 16 34 2 3,
 tCS 17 27 0 0 1 2,
 ld 18 2 17,
 cl 19 104 [15,16,18],
 tAZ 20 6,
 tBA 20 19])
 (.seq
 (rg [4] [
 tJ 21 6,
 vo 22 (.build 31 [(.val (.int .i64 0)),(.val (.int .i64 0)),(.val (.int .i64 0)),(.val (.int .i64 0)),(.nl 2),(.nl 5),(.nl 2),(.val (.int .i64 0)),(.val (.int .i64 0)),(.val (.int .i64 0))] [(2,2,8,(.t 21))]),
 tE 4 22])
 .ret)))))
 modes:=[.lend,.lend]
 rets:=[⟨4,some (true,10)⟩]}

def b60_0:VC:=
 (.seq
 (.seq
 (rg [0,1,5,9] [
 mv 6 5,
 mv 7 0,
 tAL 8 7,
 tK 9 6 8])
 (.cond (.t 9)
 .skip
 (.exit 0)))
 (.seq
 (.block 1
 (.seq
 (rg [0,1,5,18] [
 mv 12 0,
 mv 13 5,
 tQ 14 12 13,
 tBJ 15 14,
 ld 16 9 15,
 mv 17 1,
 tDM 18 9 16 17])
 (.cond (.t 18)
 (.seq
 (rg [4] [
 mv 19 5,
 sg 4 19])
 .ret)
 .skip)))
 (rg [0,1,5] [
 mv 10 5,
 tL 11 10,
 sg 5 11])))
def l60_0:VC:=.loop b60_0
def v60 : VFun := {
 code:=
 (.seq
 (rg [0,1] [
 tB 4])
 (.seq
 (.seq
 (rg [0,1,5] [
 tB 5])
 (.block 0
 l60_0))
 (.seq
 (rg [4] [
 vo 4 (.asg (ci ((-1))))])
 .ret)))
 modes:=[.lend,.lend]
 rets:=[⟨4,none⟩]}

def v61 : VFun := {
 code:=
 (.seq
 (rg [1,2,3,6] [
 tAQ 3 0,
 tAN 6])
 (.seq
 (rg [2,3,6,7] [
 tAR 9 3,
 ld 10 24 9,
 mv 11 1,
 cl 12 60 [10,11],
 sg 7 12])
 (.seq
 (.seq
 (rg [2,3,6,7,23] [
 mv 13 7,
 tBK 14 13,
 mv 15 14,
 tCV 16 27 4 4 1 3 15,
 tCU 17 24 1 16 15,
 tCT 18 7 15,
 og 19 (.ia 24 34 2 (.t 17) (.t 18)) 15 false,
 tCV 20 34 1 1 1 19 15,
 tCU 21 2 1 20 15,
 tDP 22 2 21 15,
 tD 23 15 22])
 (.cond (.t 23)
 (.seq
 (rg [6] [
 vo 24 (.call 52 [(ci 4)]),
 tE 6 24])
 .ret)
 .skip))
 (.seq
 (.seq
 (rg [2,3,6,7,33] [
 mv 25 2,
 tAR 26 3,
 ld 27 24 26,
 mv 28 7,
 tQ 29 27 28,
 tX 30 29,
 ld 31 2 30,
 vo 32 (.call 105 [(.t 25),(ci 1),(.t 31)]),
 tI 33 32])
 (.cond (.t 33)
 (.seq
 (rg [6] [
 vo 34 (.call 52 [(ci 3)]),
 tE 6 34])
 .ret)
 .skip))
 (.seq
 (.seq
 (rg [2,3,6,7,40] [
 tCS 35 27 5 5 1 3,
 ld 36 2 35,
 mv 37 2,
 tM 38 36 37,
 cl 39 101 [38],
 tI 40 39])
 (.cond (.t 40)
 (.seq
 (rg [6] [
 tBZ 41,
 tE 6 41])
 .ret)
 .skip))
 (.seq
 (rg [2,3,6,7,8] [
 tJ 42 3,
 cl 43 103 [42],
 tAA 8,
 tAB 8 43])
 (.seq
 (.region true [2,3,6,8] [
 tAR 44 8,
 ld 45 24 44,
 tA [0,1] 46 7,
 tCW [0,1,2] 47 27 4 4 1 3,
 wo [0,1,2] 48 (.load 24 false 1 (.t 47)),
 tA [0,1,2,3,4] 49 7,
 tBL [0,1,2] 50 48 49,
 tBM [0,1,2] 51 50,
 tG [0,1,2] 52 51,
 tA [0,1,2,3,4,5,6,7,8] 53 2,
 wo [0,1,2] 54 (.bin false .sub 2 (.t 52) (.t 53)),
 tQ 55 45 46,
 tX 56 55,
 tT 56 54])
 (.seq
 (rg [6,8] [
 tCS 57 27 5 5 1 3,
 ld 58 2 57,
 mv 59 2,
 tM 60 58 59,
 tCS 61 27 5 5 1 8,
 tT 61 60])
 (.seq
 (rg [6] [
 tJ 62 8,
 vo 63 (.build 31 [(.val (.int .i64 0)),(.val (.int .i64 0)),(.val (.int .i64 0)),(.val (.int .i64 0)),(.nl 2),(.nl 5),(.nl 2),(.val (.int .i64 0)),(.val (.int .i64 0)),(.val (.int .i64 0))] [(2,2,8,(.t 62))]),
 tE 6 63])
 .ret)))))))))
 modes:=[.lend,.lend,.lend]
 rets:=[⟨6,some (true,10)⟩]}

def v62 : VFun := {
 code:=
 (.seq
 (rg [0,2] [
 tAE 2])
 (.seq
 (rg [0,2,4] [
 mv 6 0,
 vo 7 (.call 106 [(.t 6),(ci 16)]),
 mv 5 7,
 tY 8 5,
 tAD 9 5,
 tAA 3,
 tAE 4,
 tAB 3 8,
 tZ 4 9])
 (.seq
 (.seq
 (rg [0,2,4,11] [
 mv 10 0,
 vo 11 (.call 48 [(.t 10),(ci 10)])])
 (.block 0
 (.seq
 (rg [0,2,4,11,12] [
 tAX 13 11,
 sg 12 13])
 (.cond (.t 12)
 (rg [0,2,4] [
 mv 14 0,
 vo 15 (.lit 132 2 1 3 [(.val (.int .i64 0))] [(0,(ci ((-1)))),(1,(ci 1)),(2,(ci 1201))]),
 cl 16 41 [14,15],
 tCA 17 4,
 tT 17 16])
 (.seq
 (rg [0,2,4,11,18] [
 tBH 19 11,
 sg 18 19])
 (.cond (.t 18)
 (.region true [0,2,4] [
 tS 20 4,
 ld 21 22 20,
 tA [0,1] 22 0,
 tA [0,1,2] 23 0,
 wo [0,1,2] 24 (.call 48 [(.t 23),(ci 5)]),
 wo [0,1] 25 (.call 107 [(.t 22),(.t 24)]),
 tW 26 21 25,
 tS 27 4,
 tDB 22 1 27 26])
 (.seq
 (rg [0,2,4,11,28] [
 tCB 29 11,
 sg 28 29])
 (.cond (.t 28)
 (rg [0,2,4] [
 vo 30 (.mk 22 5 1 1 [(.val (.int .u8 0))] (ci 1201) (ci 1201)),
 tS 31 4,
 tDB 22 1 31 30])
 (.seq
 (rg [0,2,4,32] [
 tCK 33 11,
 sg 32 33])
 (.cond (.t 32)
 (.seq
 (rg [0,2,4,37] [
 tS 34 4,
 ld 35 22 34,
 tF 36 35,
 tCL 37 36])
 (.cond (.t 37)
 (.region true [0,2,4] [
 tS 38 4,
 ld 39 22 38,
 tA [0,1] 40 0,
 tCW [0,1,2] 41 50 0 0 1 4,
 tBG [0,1,2] 42 41,
 tCC [0,1,2] 43 42,
 wo [0,1] 44 (.call 48 [(.t 40),(.t 43)]),
 tAJ 45 39 44,
 ld 46 5 45,
 vo 47 (.bin false .xor 5 (.t 46) (.c (.int .u8 1))),
 tAJ 48 39 44,
 tDB 5 1 48 47])
 .skip))
 .skip))))))))))
 (.seq
 (rg [0,2] [
 tAM 49 4,
 tZ 2 49])
 .ret))))
 modes:=[.io]
 rets:=[⟨2,some (true,2)⟩]}

def v63 : VFun := {
 code:=
 (.seq
 (rg [0,2] [
 tU 2,
 tB 3,
 tC 4])
 (.seq
 (.seq
 (rg [0,2,12] [
 mv 10 0,
 tF 11 10,
 vo 12 (.bin false .eql 3 (.t 11) (ci 0))])
 (.cond (.t 12)
 (.seq
 (rg [2,3,4] [
 tBN 13,
 tH 2 13,
 tB 3,
 tC 4])
 .ret)
 .skip))
 (.seq
 (rg [0,2,5] [
 mv 14 0,
 tBO 15 14,
 ld 16 5 15,
 tCD 17 16,
 sg 5 17])
 (.seq
 (.seq
 (rg [0,2,5,27] [
 mv 18 0,
 tF 19 18,
 mv 20 5,
 vo 21 (.bin false .add 3 (ci 1) (.t 20)),
 vo 22 (.bin false .add 3 (.t 21) (ci 2)),
 tK 23 19 22,
 mv 24 23,
 tCT 25 5 24,
 og 26 (.bin false .lss 3 (.t 25) (ci 10)) 24 false,
 tD 27 24 26])
 (.cond (.t 27)
 (.seq
 (rg [2,3,4] [
 tBN 28,
 tH 2 28,
 tB 3,
 tC 4])
 .ret)
 .skip))
 (.seq
 (.region true [2,5,6,7] [
 mv 29 0,
 tA [0] 30 5,
 wo [0] 31 (.bin false .add 3 (ci 1) (.t 30)),
 wo [0] 32 (.bin false .add 3 (.t 31) (ci 2)),
 tCI 33 29 32,
 tA [0,1,2,3,4] 34 0,
 tA [0,1,2,3,4,5] 35 5,
 wo [0,1,2,3,4,5] 36 (.bin false .add 3 (ci 1) (.t 35)),
 wo [0,1,2,3,4] 37 (.cut 22 (some 5) 1 (.t 34) (some (ci 1)) (some (.t 36))),
 wo [5,6,7,8] 6 (.asg (.t 33)),
 sg 7 37])
 (.seq
 (rg [2,5,6,7,8] [
 mv 38 7,
 vo 39 (.ia 22 5 1 (.t 38) (ci 1)),
 ld 40 5 39,
 tCD 41 40,
 vo 42 (.bin false .add 3 (ci 2) (.t 41)),
 sg 8 42])
 (.seq
 (.seq
 (rg [2,6,7,8,46] [
 mv 43 5,
 mv 44 8,
 vo 45 (.bin false .add 3 (.t 44) (ci 8)),
 vo 46 (.bin false .neq 3 (.t 43) (.t 45))])
 (.cond (.t 46)
 (.seq
 (rg [2,3,4] [
 tBN 47,
 tH 2 47,
 tB 3,
 tC 4])
 .ret)
 .skip))
 (.seq
 (.region true [2,6,9] [
 mv 48 7,
 tBO 49 48,
 ld 50 5 49,
 tAK 51 50,
 tA [0,1,2,3] 52 7,
 tA [0,1,2,3,4] 53 8,
 wo [0,1,2,3] 54 (.cut 22 (some 5) 1 (.t 52) (some (ci 2)) (some (.t 53))),
 wo [0,1,2,3] 55 (.b2s 22 9 (.t 54)),
 tA [0,1,2,3,4,5,6,7] 56 7,
 tA [0,1,2,3,4,5,6,7,8] 57 8,
 tA [0,1,2,3,4,5,6,7,8,9] 58 8,
 wo [0,1,2,3,4,5,6,7,8,9] 59 (.bin false .add 3 (.t 58) (ci 4)),
 wo [0,1,2,3,4,5,6,7] 60 (.cut 22 (some 5) 1 (.t 56) (some (.t 57)) (some (.t 59))),
 wo [0,1,2,3,4,5,6,7] 61 (.call 108 [(.t 60)]),
 tA [0,1,2,3,4,5,6,7,8,9,10,11,12,13] 62 7,
 tA [0,1,2,3,4,5,6,7,8,9,10,11,12,13,14] 63 8,
 wo [0,1,2,3,4,5,6,7,8,9,10,11,12,13,14] 64 (.bin false .add 3 (.t 63) (ci 4)),
 tBU [0,1,2,3,4,5,6,7,8,9,10,11,12,13] 65 62 64,
 wo [0,1,2,3,4,5,6,7] 66 (.call 108 [(.t 65)]),
 vo 67 (.build 52 [(.val (.int .i64 0)),(.val (.string (⟨#[]⟩:ByteArray))),(.val (.int .i64 0)),(.val (.int .i64 0))] [(0,0,1,(.t 51)),(1,1,1,(.t 55)),(2,2,1,(.t 61)),(3,3,1,(.t 66))]),
 wo [0,1,2,3,4,5,6,7,8,9,10,11,12,13,14,15,16,17,18,19] 9 (.alloc 52 [(.val (.int .i64 0)),(.val (.string (⟨#[]⟩:ByteArray))),(.val (.int .i64 0)),(.val (.int .i64 0))]),
 tH 9 67])
 (.seq
 (.seq
 (rg [2,6,9,77] [
 tP 68 9,
 cl 69 24 [68],
 tV 70 69,
 mv 71 70,
 og 72 (.load 52 true 4 (.t 9)) 71 false,
 og 73 (.call 68 [(.t 72)]) 71 false,
 tCT 74 6 71,
 og 75 (.call 109 [(.t 73),(.t 74)]) 71 false,
 tDC 76 75 71,
 tD 77 71 76])
 (.cond (.t 77)
 (.seq
 (rg [2,3,4] [
 tBN 78,
 tH 2 78,
 tB 3,
 tC 4])
 .ret)
 .skip))
 (.seq
 (rg [2,3,4] [
 tP 79 9,
 mv 80 6,
 tF 81 80,
 tH 2 79,
 sg 3 81,
 vo 4 (.asg (.c (.bool true)))])
 .ret))))))))))
 modes:=[.lend]
 rets:=[⟨2,some (true,4)⟩,⟨3,none⟩,⟨4,none⟩]}

def v64 : VFun := {
 code:=
 (.seq
 (rg [0,1] [
 tC 4])
 (.seq
 (rg [0,4] [
 mv 5 0,
 mv 6 1,
 cl 7 48 [5,6],
 tAX 8 7,
 sg 4 8])
 .ret))
 modes:=[.io,.lend]
 rets:=[⟨4,none⟩]}

def v65 : VFun := {
 code:=
 (.seq
 (rg [0,2] [
 tU 2])
 (.seq
 (rg [0,2,3] [
 mv 4 0,
 tDK 5 110,
 tU 3,
 tH 3 5])
 (.seq
 (.seq
 (rg [0,2,3,7] [
 mv 6 0,
 vo 7 (.call 48 [(.t 6),(ci 10)])])
 (.block 0
 (.seq
 (rg [0,2,3,7,8] [
 tAX 9 7,
 sg 8 9])
 (.cond (.t 8)
 (rg [0,2,3] [
 mv 10 0,
 vo 11 (.lit 132 2 1 4 [(.val (.int .i64 0))] [(0,(ci 0)),(1,(ci 2)),(2,(ci 3)),(3,(ci 6))]),
 cl 12 41 [10,11],
 tAI 13 3,
 tT 13 12])
 (.seq
 (rg [0,2,3,7,14] [
 tBH 15 7,
 sg 14 15])
 (.cond (.t 14)
 (rg [0,2,3] [
 vo 16 (.lit 87 9 1 2 [(.val (.string (⟨#[]⟩:ByteArray)))] [(0,(.c (.string (⟨#[]⟩:ByteArray)))),(1,(.c (.string (⟨#[97,32,98]⟩:ByteArray))))]),
 mv 17 0,
 vo 18 (.call 48 [(.t 17),(ci 2)]),
 tDD 19 87 9 1 16 18,
 ld 20 9 19,
 tCS 21 52 1 1 1 3,
 tDB 9 1 21 20])
 (.seq
 (rg [0,2,3,22] [
 tCB 23 7,
 sg 22 23])
 (.cond (.t 22)
 (rg [0,2,3] [
 mv 24 0,
 vo 25 (.lit 132 2 1 3 [(.val (.int .i64 0))] [(0,(ci 0)),(1,(ci 10000)),(2,(ci ((-1))))]),
 cl 26 41 [24,25],
 tCS 27 52 3 3 1 3,
 tT 27 26])
 .skip))))))))
 (.seq
 (rg [0,2] [
 tP 28 3,
 tH 2 28])
 .ret))))
 modes:=[.io]
 rets:=[⟨2,some (true,4)⟩]}

def v66 : VFun := {
 code:=
 (.seq
 (rg [1] [
 tDF 1 50 0,
 tB 2])
 (.seq
 (.block 0
 (.seq
 (rg [1,3] [
 tS 4 1,
 ld 5 22 4,
 tF 6 5,
 tBF 7 6,
 sg 3 7])
 (.cond (.t 3)
 (.seq
 (rg [2] [
 vo 2 (.asg (ci 2))])
 .ret)
 (.seq
 (rg [8] [
 tCA 9 1,
 ld 10 2 9,
 tS 11 1,
 ld 12 22 11,
 tF 13 12,
 vo 14 (.call 45 [(.t 10),(ci 0),(.t 13)]),
 tI 15 14,
 sg 8 15])
 (.cond (.t 8)
 (.seq
 (rg [2] [
 tBI 2])
 .ret)
 .skip)))))
 (.seq
 (rg [2] [
 tB 2])
 .ret)))
 modes:=[.lend]
 rets:=[⟨2,none⟩]}

def b67_1:VC:=
 (.seq
 (rg [6,24,25,26,27,28,33] [
 tK 28 27 26])
 (.seq
 (.cond (.t 28)
 .skip
 (.exit 2))
 (.seq
 (.block 3
 (.seq
 (rg [6,8,24,25,26,27,33] [
 tDD 29 149 22 1 25 27,
 ld 30 22 29,
 sg 8 30])
 (rg [6,24,25,26,27,33] [
 mv 31 6,
 mv 32 8,
 tW 33 31 32,
 sg 6 33])))
 (rg [6,24,25,26,27,33] [
 tL 34 27,
 mv 27 34]))))
def l67_1:VC:=.loop b67_1
def b67_0:VC:=
 (.seq
 (rg [0,3,9,10,11,12] [
 tK 12 11 10])
 (.seq
 (.cond (.t 12)
 .skip
 (.exit 0))
 (.seq
 (.block 1
 (.seq
 (rg [0,3,5,9,10,11] [
 tDD 13 149 22 1 9 11,
 ld 14 22 13,
 sg 5 14])
 (.seq
 (rg [0,3,9,10,11] [
 mv 15 3,
 mv 16 5,
 tF 17 16,
 tCJ 18 15 17,
 sg 3 18])
 (.seq
 (rg [0,3,9,10,11,20] [
 mv 19 3,
 tBK 20 19])
 (.cond (.t 20)
 .any
 .skip)))))
 (rg [0,3,9,10,11] [
 tL 22 11,
 mv 11 22]))))
def l67_0:VC:=.loop b67_0
def v67 : VFun := {
 code:=
 (.seq
 (rg [0] [
 tAH 2])
 (.seq
 (rg [0,3] [
 tB 3])
 (.seq
 (.seq
 (rg [0,3,9,10,11] [
 mv 9 0,
 tDG 10 149 9,
 vo 11 (.mov (ci 0))])
 (.block 0
 l67_0))
 (.seq
 (rg [0,6,24,33] [
 mv 23 3,
 vo 24 (.call 111 [(.n 1),(.t 23)]),
 sg 6 24])
 (.seq
 (.seq
 (rg [6,24,25,26,27,33] [
 mv 25 0,
 tDG 26 149 25,
 vo 27 (.mov (ci 0))])
 (.block 2
 l67_1))
 (.seq
 (rg [2,6,24,33] [
 mv 35 6,
 sg 2 35])
 .ret))))))
 modes:=[.lend]
 rets:=[⟨2,none⟩]}

def v68 : VFun := {
 code:=
 (.seq
 (rg [1] [
 tAP 1 0,
 tAH 2])
 (.seq
 (.region true [3,22] [
 tAI 4 1,
 ld 5 2 4,
 tAC 6 5,
 tBB [0,1,2] 7 1,
 tBC [0,1,2] 8 7,
 wo [0,1,2] 9 (.len true 9 (.t 8)),
 wo [0,1,2] 10 (.conv 3 5 .u8 (.t 9)),
 vo 11 (.lit 22 5 1 2 [(.val (.int .u8 0))] [(0,(.t 6)),(1,(.t 10))]),
 tBB [0,1,2,3,4,5,6,7] 12 1,
 tBC [0,1,2,3,4,5,6,7] 13 12,
 wo [0,1,2,3,4,5,6,7] 14 (.s2b 9 22 (.t 13)),
 tBP [0,1,2,3,4,5,6,7,8,9,10] 15 1,
 tG [0,1,2,3,4,5,6,7,8,9,10] 16 15,
 wo [0,1,2,3,4,5,6,7,8,9,10] 17 (.call 112 [(.t 16),(ci 4)]),
 tBQ [0,1,2,3,4,5,6,7,8,9,10,11,12,13] 18 1,
 tG [0,1,2,3,4,5,6,7,8,9,10,11,12,13] 19 18,
 wo [0,1,2,3,4,5,6,7,8,9,10] 20 (.call 112 [(.t 19),(ci 4)]),
 vo 21 (.lit 149 22 1 4 [(.nl 1)] [(0,(.t 11)),(1,(.t 14)),(2,(.t 17)),(3,(.t 20))]),
 cl 22 67 [21],
 sg 3 22])
 (.seq
 (rg [2,33] [
 mv 23 3,
 tF 24 23,
 vo 25 (.conv 3 5 .u8 (.t 24)),
 vo 26 (.lit 22 5 1 1 [(.val (.int .u8 0))] [(0,(.t 25))]),
 mv 27 3,
 mv 28 3,
 cl 29 113 [28],
 vo 30 (.bin false .rem 2 (.t 29) (ci 65536)),
 vo 31 (.call 112 [(.t 30),(ci 2)]),
 vo 32 (.lit 149 22 1 3 [(.nl 1)] [(0,(.t 26)),(1,(.t 27)),(2,(.t 31))]),
 cl 33 67 [32],
 sg 2 33])
 .ret)))
 modes:=[.lend]
 rets:=[⟨2,none⟩]}

def v69 : VFun := {
 code:=
 (.seq
 (rg [0] [
 tB 2])
 (.seq
 (rg [0,3,4,5] [
 mv 7 0,
 tO 8 7,
 tAI 9 8,
 ld 10 2 9,
 tDH 11 114,
 mv 6 11,
 tY 12 6,
 tAD 13 6,
 vo 14 (.ext (.t 6) 2),
 sg 3 12,
 sg 4 13,
 sg 5 14])
 (.seq
 (.seq
 (rg [0,3,53] [
 mv 15 0,
 tO 16 15,
 tAI 17 16,
 ld 18 2 17,
 vo 19 (.call 105 [(.t 18),(ci 1),(ci 5)]),
 tI 20 19,
 mv 21 20,
 tCT 22 3 21,
 tDC 23 22 21,
 tCT 24 23 21,
 tCZ 25 0 24,
 tDI 26 25 24,
 tCX 27 52 1 1 1 26 24,
 tCY 28 9 1 27 24,
 og 29 (.bin false .neq 9 (.t 28) (.c (.string (⟨#[]⟩:ByteArray)))) 24 true,
 tDA 30 24 29 21,
 tD 31 21 30,
 mv 32 31,
 tCT 33 4 32,
 tDC 34 33 32,
 tCT 35 34 32,
 tCZ 36 0 35,
 tDI 37 36 35,
 tCX 38 52 2 2 1 37 35,
 tCY 39 2 1 38 35,
 tDN 40 2 39 35,
 tDA 41 35 40 32,
 tD 42 32 41,
 mv 43 42,
 tCT 44 5 43,
 tDC 45 44 43,
 tCT 46 45 43,
 tCZ 47 0 46,
 tDI 48 47 46,
 tCX 49 52 3 3 1 48 46,
 tCY 50 2 1 49 46,
 tDN 51 2 50 46,
 tDA 52 46 51 43,
 tD 53 43 52])
 (.cond (.t 53)
 (.seq
 (rg [2] [
 vo 2 (.asg (ci 1))])
 .ret)
 .skip))
 (.seq
 (.seq
 (rg [0,3,69] [
 mv 54 3,
 mv 55 54,
 tCZ 56 0 55,
 tDI 57 56 55,
 tCX 58 52 1 1 1 57 55,
 tCY 59 9 1 58 55,
 og 60 (.bin false .eql 9 (.t 59) (.c (.string (⟨#[]⟩:ByteArray)))) 55 true,
 tCZ 61 60 55,
 tCT 62 0 61,
 og 63 (.nilc (.t 62)) 61 false,
 tCV 64 52 1 1 1 63 61,
 tCU 65 9 1 64 61,
 og 66 (.call 115 [(.t 65)]) 61 false,
 tDC 67 66 61,
 tDQ 68 61 67 55,
 tAG 69 55 68])
 (.cond (.t 69)
 (.seq
 (rg [2] [
 vo 2 (.asg (ci 5))])
 .ret)
 .skip))
 (.seq
 (.seq
 (rg [107] [
 mv 70 0,
 tO 71 70,
 tCS 72 52 2 2 1 71,
 ld 73 2 72,
 cl 74 116 [73],
 tI 75 74,
 mv 76 75,
 tCT 77 0 76,
 og 78 (.nilc (.t 77)) 76 false,
 tCV 79 52 3 3 1 78 76,
 tCU 80 2 1 79 76,
 og 81 (.call 101 [(.t 80)]) 76 false,
 tDC 82 81 76,
 tD 83 76 82,
 mv 84 83,
 tCT 85 3 84,
 tCT 86 85 84,
 tCZ 87 0 86,
 tDI 88 87 86,
 tCX 89 52 3 3 1 88 86,
 tCY 90 2 1 89 86,
 og 91 (.bin false .lss 2 (.t 90) (ci 1)) 86 true,
 tDA 92 86 91 84,
 tD 93 84 92,
 mv 94 93,
 tCT 95 0 94,
 og 96 (.nilc (.t 95)) 94 false,
 tCV 97 52 0 0 1 96 94,
 tCU 98 2 1 97 94,
 og 99 (.bin false .eql 2 (.t 98) (ci 1)) 94 false,
 tCT 100 99 94,
 tCZ 101 0 100,
 tDI 102 101 100,
 tCX 103 52 3 3 1 102 100,
 tCY 104 2 1 103 100,
 og 105 (.bin false .gtr 2 (.t 104) (ci 9999)) 100 true,
 tDA 106 100 105 94,
 tD 107 94 106])
 (.cond (.t 107)
 (.seq
 (rg [2] [
 tBI 2])
 .ret)
 .skip))
 (.seq
 (rg [2] [
 tB 2])
 .ret))))))
 modes:=[.lend]
 rets:=[⟨2,none⟩]}

def v70 : VFun := {
 code:=
 (.seq
 (rg [0] [
 tAH 2])
 (.seq
 (.region true [0,3,22,35] [
 mv 5 0,
 tO 6 5,
 tAI 7 6,
 ld 8 2 7,
 tAC 9 8,
 tA [0,1,2,3,4] 10 0,
 tN [0,1,2,3,4] 11 10,
 tBB [0,1,2,3,4] 12 11,
 tBC [0,1,2,3,4] 13 12,
 wo [0,1,2,3,4] 14 (.len true 9 (.t 13)),
 wo [0,1,2,3,4] 15 (.conv 3 5 .u8 (.t 14)),
 vo 16 (.lit 22 5 1 2 [(.val (.int .u8 0))] [(0,(.t 9)),(1,(.t 15))]),
 tA [0,1,2,3,4,5,6,7,8,9,10,11] 17 0,
 tN [0,1,2,3,4,5,6,7,8,9,10,11] 18 17,
 tBB [0,1,2,3,4,5,6,7,8,9,10,11] 19 18,
 tBC [0,1,2,3,4,5,6,7,8,9,10,11] 20 19,
 wo [0,1,2,3,4,5,6,7,8,9,10,11] 21 (.s2b 9 22 (.t 20)),
 tW 22 16 21,
 sg 3 22])
 (.seq
 (.region true [3,22,35] [
 mv 23 3,
 tA [0] 24 0,
 tN [0] 25 24,
 tBP [0] 26 25,
 tG [0] 27 26,
 wo [0] 28 (.call 117 [(.t 27)]),
 tW 29 23 28,
 tA [0,1,2,3,4,5,6] 30 0,
 tN [0,1,2,3,4,5,6] 31 30,
 tBQ [0,1,2,3,4,5,6] 32 31,
 tG [0,1,2,3,4,5,6] 33 32,
 cl 34 117 [33],
 tW 35 29 34,
 sg 3 35])
 (.seq
 (rg [3,4,22,35] [
 mv 36 3,
 cl 37 118 [36],
 sg 4 37])
 (.seq
 (rg [2,50] [
 mv 38 3,
 tF 39 38,
 vo 40 (.conv 3 5 .u8 (.t 39)),
 vo 41 (.lit 22 5 1 1 [(.val (.int .u8 0))] [(0,(.t 40))]),
 mv 42 3,
 tW 43 41 42,
 mv 44 4,
 tCM 45 44,
 tAC 46 45,
 mv 47 4,
 tAC 48 47,
 vo 49 (.lit 22 5 1 2 [(.val (.int .u8 0))] [(0,(.t 46)),(1,(.t 48))]),
 tW 50 43 49,
 sg 2 50])
 .ret)))))
 modes:=[.lend]
 rets:=[⟨2,none⟩]}

def v71 : VFun := {
 code:=
 (.seq
 (rg [0] [
 tC 2])
 (.seq
 (rg [2] [
 mv 3 0,
 vo 4 (.bin false .neq 9 (.t 3) (.c (.string (⟨#[]⟩:ByteArray)))),
 mv 5 4,
 tCZ 6 0 5,
 og 7 (.call 119 [(.t 6)]) 5 true,
 tAG 8 5 7,
 sg 2 8])
 .ret))
 modes:=[.lend]
 rets:=[⟨2,none⟩]}

def v72 : VFun := {
 code:=
 (.seq
 (rg [0] [
 tC 2])
 (.seq
 (rg [2] [
 mv 3 0,
 vo 4 (.call 45 [(.t 3),(ci 0),(ci 2147483646)]),
 sg 2 4])
 .ret))
 modes:=[.lend]
 rets:=[⟨2,none⟩]}

def v73 : VFun := {
 code:=
 (.seq
 (rg [0] [
 tB 2])
 (.seq
 (.seq
 (rg [0,8] [
 mv 3 0,
 tO 4 3,
 tS 5 4,
 ld 6 22 5,
 tF 7 6,
 tBF 8 7])
 (.cond (.t 8)
 (.seq
 (rg [2] [
 vo 2 (.asg (ci 2))])
 .ret)
 .skip))
 (.seq
 (.seq
 (.region true [19] [
 mv 9 0,
 tO 10 9,
 tCA 11 10,
 ld 12 2 11,
 tA [0,1,2,3] 13 0,
 tN [0,1,2,3] 14 13,
 tCW [0,1,2,3] 15 50 0 0 1 14,
 tBG [0,1,2,3] 16 15,
 tCC [0,1,2,3] 17 16,
 vo 18 (.call 105 [(.t 12),(ci 0),(.t 17)]),
 tI 19 18])
 (.cond (.t 19)
 (.seq
 (rg [2] [
 tBI 2])
 .ret)
 .skip))
 (.seq
 (rg [2] [
 tB 2])
 .ret))))
 modes:=[.lend]
 rets:=[⟨2,none⟩]}

def v74 : VFun := {
 code:=
 (.seq
 (rg [1,2,4] [
 tDF 2 50 0,
 tAE 4,
 tC 5])
 (.seq
 (.region true [4,6] [
 tS 7 2,
 ld 8 22 7,
 cl 9 120 [8],
 tA [0,1,2] 10 1,
 tDH 11 70,
 tW 12 9 11,
 tCW [0,1,2,3,4,5] 13 50 1 1 1 2,
 tG [0,1,2,3,4,5] 14 13,
 vo 15 (.build 50 [(.nl 1),(.val (.int .i64 0))] [(0,0,1,(.t 12)),(1,1,1,(.t 14))]),
 wo [0,1,2,3,4,5,6,7,8] 6 (.alloc 50 [(.nl 1),(.val (.int .i64 0))]),
 tZ 6 15])
 (.seq
 (.region true [4,5] [
 tAM 16 6,
 tCW [0] 17 50 0 0 1 6,
 tBG [0] 18 17,
 tCC [0] 19 18,
 wo [0] 20 (.bin false .leq 3 (.t 19) (ci 1200)),
 ⟨none,.store 50 2 (.t 4) (.t 16),none,[1,2,3,4]⟩,
 sg 5 20])
 .ret)))
 modes:=[.lend,.lend]
 rets:=[⟨4,some (true,2)⟩,⟨5,none⟩]}

def b75_0:VC:=
 (.block 1
 (.seq
 (rg [0,4,5,6,7,8,23] [
 mv 10 0,
 mv 11 5,
 vo 12 (.cut 22 (some 5) 1 (.t 10) (some (.t 11)) none),
 cl 13 121 [12],
 mv 9 13,
 tY 14 9,
 tAD 15 9,
 tU 6,
 tH 6 14,
 sg 7 15])
 (.seq
 (.seq
 (rg [0,4,5,6,8,17,23] [
 mv 16 7,
 tI 17 16])
 (.cond (.t 17)
 (.seq
 (rg [2,3,4,8,23] [
 mv 18 4,
 mv 19 5,
 sg 2 18,
 sg 3 19])
 .ret)
 .skip))
 (.seq
 (rg [0,4,5,6,8,23] [
 mv 20 4,
 tP 21 6,
 vo 22 (.lit 45 52 4 1 [(.val (.int .i64 0)),(.val (.string (⟨#[]⟩:ByteArray))),(.val (.int .i64 0)),(.val (.int .i64 0))] [(0,(.t 21))]),
 vo 23 (.app 45 52 4 40 (.t 20) (.t 22)),
 sg 4 23])
 (rg [0,4,5,8,23] [
 mv 24 5,
 cl 25 70 [6],
 tF 26 25,
 tCJ 27 24 26,
 sg 5 27])))))
def l75_0:VC:=.loop b75_0
def v75 : VFun := {
 code:=
 (.seq
 (rg [0] [
 vo 2 (.asg (.n 4)),
 tB 3])
 (.seq
 (rg [0,4,8,23] [
 vo 8 (.lit 45 52 4 0 [(.val (.int .i64 0)),(.val (.string (⟨#[]⟩:ByteArray))),(.val (.int .i64 0)),(.val (.int .i64 0))] []),
 sg 4 8])
 (.seq
 (rg [0,4,5,8,23] [
 tB 5])
 (.block 0
 l75_0))))
 modes:=[.lend]
 rets:=[⟨2,none⟩,⟨3,none⟩]}

def v78 : VFun := {
 code:=
 (.seq
 (rg [1,2,4] [
 tAQ 2 0,
 tAN 4])
 (.seq
 (rg [2,4,5] [
 tR 10 2,
 ld 11 25 10,
 mv 12 1,
 cl 13 124 [11,12],
 sg 5 13])
 (.seq
 (.seq
 (rg [2,4,5,15] [
 mv 14 5,
 tBK 15 14])
 (.cond (.t 15)
 (.seq
 (rg [4] [
 vo 16 (.call 52 [(ci 4)]),
 tE 4 16])
 .ret)
 .skip))
 (.seq
 (rg [2,4,5,6] [
 tR 17 2,
 ld 18 25 17,
 mv 19 5,
 tAS 20 18 19,
 sg 6 20])
 (.seq
 (.seq
 (rg [2,4,5,6,25] [
 mv 21 6,
 tO 22 21,
 tBR 23 22,
 ld 24 2 23,
 vo 25 (.bin false .neq 2 (.t 24) (ci 1))])
 (.cond (.t 25)
 (.seq
 (rg [4] [
 vo 26 (.call 52 [(ci 9)]),
 tE 4 26])
 .ret)
 .skip))
 (.seq
 (.region true [2,4,5,6,7,8,34] [
 tAR 28 2,
 ld 29 24 28,
 tA [0,1] 30 6,
 tN [0,1] 31 30,
 tCW [0,1] 32 96 3 3 1 31,
 wo [0,1] 33 (.load 24 false 1 (.t 32)),
 cl 34 125 [29,33],
 mv 27 34,
 tY 35 27,
 wo [8] 36 (.ext (.t 27) 1),
 wo [9] 7 (.asg (.t 35)),
 sg 8 36])
 (.seq
 (.seq
 (rg [2,4,5,6,7,8,34,38] [
 mv 37 8,
 tV 38 37])
 (.cond (.t 38)
 (.seq
 (rg [4] [
 mv 39 8,
 cl 40 52 [39],
 tE 4 40])
 .ret)
 .skip))
 (.seq
 (.seq
 (.region true [2,4,5,6,7,34,49] [
 tCS 41 27 6 6 1 2,
 ld 42 2 41,
 tA [0,1] 43 6,
 tN [0,1] 44 43,
 tCW [0,1] 45 96 2 2 1 44,
 tG [0,1] 46 45,
 tM 47 42 46,
 cl 48 101 [47],
 tI 49 48])
 (.cond (.t 49)
 (.seq
 (rg [4] [
 tBZ 50,
 tE 4 50])
 .ret)
 .skip))
 (.seq
 (rg [2,4,5,6,7,9,34] [
 tJ 51 2,
 cl 52 103 [51],
 tAA 9,
 tAB 9 52])
 (.seq
 (rg [2,4,6,7,9,34] [
 tR 53 9,
 ld 54 25 53,
 mv 55 5,
 tAS 56 54 55,
 tBR 57 56,
 vn (.store 2 1 (.t 57) (ci 2))])
 (.seq
 (.region true [4,7,9,34] [
 tCS 58 27 6 6 1 2,
 ld 59 2 58,
 tA [0,1] 60 6,
 tN [0,1] 61 60,
 tCW [0,1] 62 96 2 2 1 61,
 tG [0,1] 63 62,
 tM 64 59 63,
 tCS 65 27 6 6 1 9,
 tT 65 64])
 (.seq
 (rg [4,9] [
 mv 66 7,
 tAR 67 9,
 tBA 67 66])
 (.seq
 (rg [4] [
 tJ 68 9,
 vo 69 (.build 31 [(.val (.int .i64 0)),(.val (.int .i64 0)),(.val (.int .i64 0)),(.val (.int .i64 0)),(.nl 2),(.nl 5),(.nl 2),(.val (.int .i64 0)),(.val (.int .i64 0)),(.val (.int .i64 0))] [(2,2,8,(.t 68))]),
 tE 4 69])
 .ret)))))))))))))
 modes:=[.lend,.lend]
 rets:=[⟨4,some (true,10)⟩]}

def b99_0:VC:=
 (.seq
 (.seq
 (rg [0,3,4,8] [
 mv 5 4,
 mv 6 0,
 tAL 7 6,
 tK 8 5 7])
 (.cond (.t 8)
 .skip
 (.exit 0)))
 (.seq
 (.block 1
 (rg [0,3,4] [
 mv 11 3,
 mv 12 0,
 mv 13 4,
 tQ 14 12 13,
 tX 15 14,
 ld 16 2 15,
 tM 17 11 16,
 sg 3 17]))
 (rg [0,3,4] [
 mv 9 4,
 tL 10 9,
 sg 4 10])))
def l99_0:VC:=.loop b99_0
def v99 : VFun := {
 code:=
 (.seq
 (rg [0] [
 tB 2])
 (.seq
 (rg [0,3] [
 tB 3])
 (.seq
 (.seq
 (rg [0,3,4] [
 tB 4])
 (.block 0
 l99_0))
 (.seq
 (rg [2] [
 mv 18 3,
 sg 2 18])
 .ret))))
 modes:=[.lend]
 rets:=[⟨2,none⟩]}

def b100_0:VC:=
 (.seq
 (.seq
 (rg [0,1,5,6,10] [
 mv 7 6,
 mv 8 0,
 tCE 9 8,
 tK 10 7 9])
 (.cond (.t 10)
 .skip
 (.exit 0)))
 (.seq
 (.block 1
 (.seq
 (rg [0,1,5,6,22] [
 mv 13 1,
 tI 14 13,
 mv 15 14,
 tCT 16 0 15,
 tCT 17 6 15,
 og 18 (.ia 25 96 5 (.t 16) (.t 17)) 15 false,
 tCV 19 96 4 4 1 18 15,
 tCU 20 2 1 19 15,
 tDR 21 2 20 15,
 tD 22 15 21])
 (.cond (.t 22)
 (rg [0,1,5,6] [
 mv 23 5,
 mv 24 0,
 mv 25 6,
 tAS 26 24 25,
 tCS 27 96 1 1 1 26,
 ld 28 2 27,
 tM 29 23 28,
 sg 5 29])
 .skip)))
 (rg [0,1,5,6] [
 mv 11 6,
 tL 12 11,
 sg 6 12])))
def l100_0:VC:=.loop b100_0
def v100 : VFun := {
 code:=
 (.seq
 (rg [0,1] [
 tB 4])
 (.seq
 (rg [0,1,5] [
 tB 5])
 (.seq
 (.seq
 (rg [0,1,5,6] [
 tB 6])
 (.block 0
 l100_0))
 (.seq
 (rg [4] [
 mv 30 5,
 sg 4 30])
 .ret))))
 modes:=[.lend,.lend]
 rets:=[⟨4,none⟩]}

def v101 : VFun := {
 code:=
 (.seq
 (rg [0] [
 tC 2])
 (.seq
 (rg [2] [
 mv 3 0,
 vo 4 (.call 105 [(.t 3),(ci 0),(ci 1000000)]),
 sg 2 4])
 .ret))
 modes:=[.lend]
 rets:=[⟨2,none⟩]}

def v102 : VFun := {
 code:=
 (.seq
 (rg [0] [
 tB 2])
 (.seq
 (.seq
 (rg [0,15] [
 mv 3 0,
 tO 4 3,
 tBJ 5 4,
 ld 6 9 5,
 vo 7 (.bin false .eql 9 (.t 6) (.c (.string (⟨#[]⟩:ByteArray)))),
 mv 8 7,
 tCT 9 0 8,
 og 10 (.nilc (.t 9)) 8 false,
 tCV 11 34 0 0 1 10 8,
 tCU 12 9 1 11 8,
 og 13 (.call 115 [(.t 12)]) 8 false,
 tDC 14 13 8,
 tD 15 8 14])
 (.cond (.t 15)
 (.seq
 (rg [2] [
 vo 2 (.asg (ci 5))])
 .ret)
 .skip))
 (.seq
 (.seq
 (rg [21] [
 mv 16 0,
 tO 17 16,
 tX 18 17,
 ld 19 2 18,
 vo 20 (.call 105 [(.t 19),(ci 1),(ci 9999)]),
 tI 21 20])
 (.cond (.t 21)
 (.seq
 (rg [2] [
 tBI 2])
 .ret)
 .skip))
 (.seq
 (rg [2] [
 tB 2])
 .ret))))
 modes:=[.lend]
 rets:=[⟨2,none⟩]}

def b103_0:VC:=
 (.seq
 (.seq
 (rg [1,2,3,4,20] [
 mv 16 4,
 tR 17 1,
 ld 18 25 17,
 tCE 19 18,
 tK 20 16 19])
 (.cond (.t 20)
 .skip
 (.exit 0)))
 (.seq
 (.block 1
 (.seq
 (rg [1,2,3,4,5] [
 tR 23 1,
 ld 24 25 23,
 mv 25 4,
 tAS 26 24 25,
 tDE 27 96 5 26,
 tCR 5,
 tDB 96 5 5 27])
 (.seq
 (rg [1,2,3,4,5] [
 tCS 28 96 3 3 1 5,
 ld 29 24 28,
 cl 30 137 [29],
 tCS 31 96 3 3 1 5,
 tBA 31 30])
 (rg [1,2,3,4] [
 tR 32 3,
 ld 33 25 32,
 tDE 34 96 5 5,
 vo 35 (.lit 25 96 5 1 [(.val (.int .i64 0)),(.val (.int .i64 0)),(.val (.int .i64 0)),(.nl 2),(.val (.int .i64 0))] [(0,(.t 34))]),
 vo 36 (.app 25 96 5 56 (.t 33) (.t 35)),
 tR 37 3,
 tDB 25 1 37 36]))))
 (rg [1,2,3,4] [
 mv 21 4,
 tL 22 21,
 sg 4 22])))
def l103_0:VC:=.loop b103_0
def v103 : VFun := {
 code:=
 (.seq
 (rg [1,2] [
 tAQ 1 0,
 tAA 2])
 (.seq
 (rg [1,2,3] [
 tJ 6 1,
 tAA 3,
 tAB 3 6])
 (.seq
 (rg [1,2,3] [
 tAZ 7 1,
 ld 8 24 7,
 cl 9 137 [8],
 tAZ 10 3,
 tBA 10 9])
 (.seq
 (rg [1,2,3] [
 tAR 11 1,
 ld 12 24 11,
 cl 13 137 [12],
 tAR 14 3,
 tBA 14 13])
 (.seq
 (rg [1,2,3] [
 tR 15 3,
 vn (.store 25 1 (.t 15) (.n 5))])
 (.seq
 (.seq
 (rg [1,2,3,4] [
 tB 4])
 (.block 0
 l103_0))
 (.seq
 (rg [2] [
 tJ 38 3,
 tAB 2 38])
 .ret)))))))
 modes:=[.lend]
 rets:=[⟨2,some (true,8)⟩]}

def b104_0:VC:=
 (.seq
 (.seq
 (rg [2,7,13,17] [
 mv 14 7,
 tAL 15 14,
 mv 16 2,
 vo 17 (.bin false .gtr 2 (.t 15) (.t 16))])
 (.cond (.t 17)
 .skip
 (.exit 0)))
 (.block 1
 (rg [2,7,13] [
 mv 18 7,
 vo 19 (.cut 24 (some 34) 2 (.t 18) (some (ci 1)) none),
 sg 7 19])))
def l104_0:VC:=.loop b104_0
def v104 : VFun := {
 code:=
 (.seq
 (rg [0,2,4] [
 tDF 4 34 1,
 tAT 6])
 (.seq
 (.region true [2,7,13] [
 tBS 8,
 tA [0] 9 0,
 tAU 10 8 9,
 tDJ [0,1,2] 11 34 2 4,
 wo [0,1,2] 12 (.lit 24 34 2 1 [(.val (.string (⟨#[]⟩:ByteArray))),(.val (.int .i64 0))] [(0,(.t 11))]),
 tAU 13 10 12,
 sg 7 13])
 (.seq
 (.block 0
 l104_0)
 (.seq
 (rg [6,22] [
 tBS 20,
 mv 21 7,
 tAU 22 20 21,
 sg 6 22])
 .ret))))
 modes:=[.lend,.lend,.lend]
 rets:=[⟨6,none⟩]}

def v105 : VFun := {
 code:=
 (.seq
 (rg [0,1,2] [
 tC 6])
 (.seq
 (rg [6] [
 mv 7 0,
 mv 8 1,
 vo 9 (.bin false .geq 2 (.t 7) (.t 8)),
 mv 10 9,
 tBV 11 0,
 tBV 12 2,
 og 13 (.bin false .leq 2 (.t 11) (.t 12)) 10 true,
 tAG 14 10 13,
 sg 6 14])
 .ret))
 modes:=[.lend,.lend,.lend]
 rets:=[⟨6,none⟩]}

def b106_0:VC:=
 (.seq
 (.seq
 (rg [0,4,5,6,7,8,17] [
 mv 16 8,
 tCN 17 16])
 (.cond (.t 17)
 .skip
 (.exit 0)))
 (.seq
 (.block 1
 (.seq
 (rg [0,4,5,6,7,8,9] [
 mv 20 0,
 cl 21 110 [20],
 tU 9,
 tH 9 21])
 (.seq
 (.seq
 (rg [0,4,5,6,7,8,9,10] [
 tJ 22 6,
 cl 23 138 [22,9],
 tAN 10,
 tE 10 23])
 (.seq
 (rg [0,4,5,6,7,8,9,10,26] [
 tCS 24 31 0 0 1 10,
 ld 25 2 24,
 tAX 26 25])
 (.cond (.t 26)
 (.seq
 (rg [0,4,5,6,7,8,9] [
 tCS 27 31 2 2 8 10,
 tJ 28 27,
 tAB 6 28])
 (rg [0,4,5,6,7,8] [
 tAM 30 7,
 cl 31 74 [30,9],
 mv 29 31,
 tY 32 29,
 tAD 33 29,
 tZ 7 32]))
 .skip)))
 (.seq
 (rg [0,4,5,6,7,8,35] [
 mv 34 0,
 vo 35 (.call 64 [(.t 34),(ci 4)])])
 (.cond (.t 35)
 (rg [0,4,5,6,7,8] [
 tS 36 7,
 ld 37 22 36,
 tF 38 37,
 tCA 39 7,
 tT 39 38])
 .skip)))))
 (rg [0,4,5,6,7,8] [
 mv 18 8,
 tBW 19 18,
 sg 8 19])))
def l106_0:VC:=.loop b106_0
def v106 : VFun := {
 code:=
 (.seq
 (rg [0,1,4,5] [
 tAA 4,
 tAE 5])
 (.seq
 (rg [0,1,4,5,6] [
 vo 11 (.build 27 [(.val (.int .i64 0)),(.val (.int .i64 0)),(.nl 2),(.nl 5),(.nl 2),(.val (.int .i64 0)),(.val (.int .i64 0)),(.val (.int .i64 0))] [(0,0,1,(ci 4)),(1,1,1,(ci 10))]),
 tAA 6,
 tAB 6 11])
 (.seq
 (rg [0,1,4,5,6,7] [
 vo 12 (.build 50 [(.nl 1),(.val (.int .i64 0))] []),
 tAE 7,
 tZ 7 12])
 (.seq
 (.seq
 (rg [0,4,5,6,7,8] [
 mv 13 0,
 mv 14 1,
 cl 15 48 [13,14],
 sg 8 15])
 (.block 0
 l106_0))
 (.seq
 (.region true [0,4,5] [
 tJ 40 6,
 tDJ [0] 41 50 2 7,
 ⟨none,.store 27 8 (.t 4) (.t 40),none,[1]⟩,
 tZ 5 41])
 .ret)))))
 modes:=[.io,.lend]
 rets:=[⟨4,some (true,8)⟩,⟨5,some (true,2)⟩]}

def b107_0:VC:=
 (.seq
 (.seq
 (rg [0,1,5,6,8,16] [
 mv 7 1,
 tCN 8 7])
 (.cond (.t 8)
 .skip
 (.exit 0)))
 (.seq
 (.block 1
 (rg [0,1,5,6,16] [
 mv 11 5,
 mv 12 0,
 vo 13 (.call 48 [(.t 12),(ci 256)]),
 tAC 14 13,
 vo 15 (.lit 22 5 1 1 [(.val (.int .u8 0))] [(0,(.t 14))]),
 tW 16 11 15,
 sg 5 16]))
 (rg [0,1,5,6,16] [
 mv 9 1,
 tBW 10 9,
 sg 1 10])))
def l107_0:VC:=.loop b107_0
def v107 : VFun := {
 code:=
 (.seq
 (rg [0,1] [
 tAH 4])
 (.seq
 (rg [0,1,5,6,16] [
 tCH 6,
 sg 5 6])
 (.seq
 (.block 0
 l107_0)
 (.seq
 (rg [0,4,5,6,16] [
 mv 17 5,
 sg 4 17])
 .ret))))
 modes:=[.io,.lend]
 rets:=[⟨4,none⟩]}

def b108_0:VC:=
 (.seq
 (rg [3,6,7,8,9] [
 tK 9 8 7])
 (.seq
 (.cond (.t 9)
 .skip
 (.exit 0))
 (.seq
 (.block 1
 (.seq
 (rg [3,5,6,7,8] [
 tAJ 10 6 8,
 ld 11 5 10,
 sg 5 11])
 (rg [3,6,7,8] [
 mv 12 3,
 vo 13 (.bin false .shl 2 (.t 12) (.c (.int .u64 8))),
 mv 14 5,
 tAK 15 14,
 vo 16 (.bin false .or 2 (.t 13) (.t 15)),
 sg 3 16])))
 (rg [3,6,7,8] [
 tL 17 8,
 mv 8 17]))))
def l108_0:VC:=.loop b108_0
def v108 : VFun := {
 code:=
 (.seq
 (rg [0] [
 tB 2])
 (.seq
 (rg [0,3] [
 tB 3])
 (.seq
 (.seq
 (rg [3,6,7,8] [
 mv 6 0,
 tF 7 6,
 vo 8 (.mov (ci 0))])
 (.block 0
 l108_0))
 (.seq
 (rg [2] [
 mv 18 3,
 sg 2 18])
 .ret))))
 modes:=[.lend]
 rets:=[⟨2,none⟩]}

def v109 : VFun := {
 code:=
 (.seq
 (rg [0,1] [
 tC 4])
 (.seq
 (rg [4] [
 mv 5 0,
 mv 6 1,
 cl 7 139 [5,6],
 sg 4 7])
 .ret))
 modes:=[.lend,.lend]
 rets:=[⟨4,none⟩]}

def v110 : VFun := {
 code:=
 (.seq
 (rg [0,2] [
 tU 2])
 (.seq
 (rg [0,2,3] [
 mv 7 0,
 vo 8 (.lit 132 2 1 7 [(.val (.int .i64 0))] [(0,(ci 1)),(1,(ci 1)),(2,(ci 1)),(3,(ci 2)),(4,(ci 3)),(5,(ci 4)),(6,(ci 5))]),
 cl 9 41 [7,8],
 vo 10 (.build 52 [(.val (.int .i64 0)),(.val (.string (⟨#[]⟩:ByteArray))),(.val (.int .i64 0)),(.val (.int .i64 0))] [(0,0,1,(.t 9))]),
 tU 3,
 tH 3 10])
 (.seq
 (rg [0,2,3,4,5,6] [
 tAI 12 3,
 ld 13 2 12,
 cl 14 114 [13],
 mv 11 14,
 tY 15 11,
 tAD 16 11,
 vo 17 (.ext (.t 11) 2),
 sg 4 15,
 sg 5 16,
 sg 6 17])
 (.seq
 (.seq
 (rg [0,2,3,5,6,18] [
 mv 18 4])
 (.cond (.t 18)
 (rg [0,2,3,5,6] [
 mv 19 0,
 cl 20 40 [19],
 tCS 21 52 1 1 1 3,
 tDB 9 1 21 20])
 .skip))
 (.seq
 (.seq
 (rg [0,2,3,6,22] [
 mv 22 5])
 (.cond (.t 22)
 (rg [0,2,3,6] [
 mv 23 0,
 vo 24 (.lit 132 2 1 4 [(.val (.int .i64 0))] [(0,(ci 0)),(1,(ci 1)),(2,(ci 2)),(3,(ci 300))]),
 cl 25 41 [23,24],
 tCS 26 52 2 2 1 3,
 tT 26 25])
 .skip))
 (.seq
 (.seq
 (rg [0,2,3,27] [
 mv 27 6])
 (.cond (.t 27)
 (rg [0,2,3] [
 mv 28 0,
 vo 29 (.lit 132 2 1 4 [(.val (.int .i64 0))] [(0,(ci 1)),(1,(ci 2)),(2,(ci 50)),(3,(ci 9))]),
 cl 30 41 [28,29],
 tCS 31 52 3 3 1 3,
 tT 31 30])
 .skip))
 (.seq
 (rg [0,2] [
 tP 32 3,
 tH 2 32])
 .ret)))))))
 modes:=[.io]
 rets:=[⟨2,some (true,4)⟩]}

def v111 : VFun := {
 code:=
 (.seq
 (rg [0,1,25] [
 tAH 4])
 (.seq
 (.seq
 (rg [0,1,6,25] [
 mv 5 1,
 tBK 6 5])
 (.cond (.t 6)
 .any
 .skip))
 (.seq
 (.seq
 (rg [0,1,25] [
 mv 8 1,
 mv 9 0,
 vo 10 (.capn 22 (.t 9)),
 mv 11 0,
 tF 12 11,
 tDO 13 3 10 12,
 tDO 14 3 8 13,
 sg 1 14])
 (.seq
 (rg [0,1,16,25] [
 mv 15 1,
 tCL 16 15])
 (.cond (.t 16)
 (rg [0,25] [
 mv 17 0,
 mv 18 0,
 vo 19 (.capn 22 (.t 18)),
 tCI 20 17 19,
 mv 21 1,
 vo 22 (.appn 22 5 1 1 [(.val (.int .u8 0))] (.t 20) (.t 21)),
 mv 23 0,
 tF 24 23,
 vo 25 (.trunc 22 5 1 (.t 22) (.t 24)),
 sg 0 25])
 .skip)))
 (.seq
 (rg [0,4,25] [
 mv 26 0,
 sg 4 26])
 .ret))))
 modes:=[.nl,.lend]
 rets:=[⟨4,none⟩]}

def b112_0:VC:=
 (.seq
 (.seq
 (rg [0,5,6,8,12] [
 mv 11 6,
 tCF 12 11])
 (.cond (.t 12)
 .skip
 (.exit 0)))
 (.seq
 (.block 1
 (.seq
 (rg [0,5,6,8] [
 mv 15 5,
 mv 16 6,
 mv 17 0,
 tAC 18 17,
 tAJ 19 15 16,
 tDB 5 1 19 18])
 (rg [0,5,6,8] [
 mv 20 0,
 tCM 21 20,
 sg 0 21])))
 (rg [0,5,6,8] [
 mv 13 6,
 vo 14 (.bin false .sub 3 (.t 13) (ci 1)),
 sg 6 14])))
def l112_0:VC:=.loop b112_0
def v112 : VFun := {
 code:=
 (.seq
 (rg [0,1] [
 tAH 4])
 (.seq
 (rg [0,1,5,8] [
 mv 7 1,
 vo 8 (.mk 22 5 1 1 [(.val (.int .u8 0))] (.t 7) (.t 7)),
 sg 5 8])
 (.seq
 (.seq
 (rg [0,5,6,8] [
 mv 9 1,
 vo 10 (.bin false .sub 3 (.t 9) (ci 1)),
 sg 6 10])
 (.block 0
 l112_0))
 (.seq
 (rg [4,5,8] [
 mv 22 5,
 sg 4 22])
 .ret))))
 modes:=[.lend,.lend]
 rets:=[⟨4,none⟩]}

def b113_0:VC:=
 (.seq
 (rg [3,6,7,8,9] [
 tK 9 8 7])
 (.seq
 (.cond (.t 9)
 .skip
 (.exit 0))
 (.seq
 (.block 1
 (.seq
 (rg [3,5,6,7,8] [
 tAJ 10 6 8,
 ld 11 5 10,
 sg 5 11])
 (rg [3,6,7,8] [
 mv 12 3,
 vo 13 (.bin false .mul 2 (ci 33) (.t 12)),
 mv 14 5,
 tAK 15 14,
 tM 16 13 15,
 tAW 17 16,
 vo 18 (.bin false .rem 2 (.t 17) (ci 2147483647)),
 sg 3 18])))
 (rg [3,6,7,8] [
 tL 19 8,
 mv 8 19]))))
def l113_0:VC:=.loop b113_0
def v113 : VFun := {
 code:=
 (.seq
 (rg [0] [
 tB 2])
 (.seq
 (rg [0,3] [
 vo 3 (.asg (ci 5381))])
 (.seq
 (.seq
 (rg [3,6,7,8] [
 mv 6 0,
 tF 7 6,
 vo 8 (.mov (ci 0))])
 (.block 0
 l113_0))
 (.seq
 (rg [2] [
 mv 20 3,
 sg 2 20])
 .ret))))
 modes:=[.lend]
 rets:=[⟨2,none⟩]}

def v114 : VFun := {
 code:=
 (.seq
 (rg [0] [
 tC 2,
 tC 3,
 tC 4])
 (.seq
 (rg [0,5] [
 mv 6 0,
 tBH 7 6,
 mv 8 7,
 tCT 9 0 8,
 og 10 (.bin false .eql 2 (.t 9) (ci 5)) 8 false,
 tD 11 8 10,
 sg 5 11])
 (.seq
 (rg [2,3,4] [
 mv 12 5,
 mv 13 5,
 tI 14 13,
 mv 15 5,
 mv 16 15,
 tCT 17 0 16,
 tDR 18 2 17 16,
 tD 19 16 18,
 sg 2 12,
 sg 3 14,
 sg 4 19])
 .ret)))
 modes:=[.lend]
 rets:=[⟨2,none⟩,⟨3,none⟩,⟨4,none⟩]}

def b115_0:VC:=
 (.seq
 (.seq
 (rg [0,3,7] [
 mv 4 3,
 mv 5 0,
 vo 6 (.len true 9 (.t 5)),
 tK 7 4 6])
 (.cond (.t 7)
 .skip
 (.exit 0)))
 (.seq
 (.block 1
 (.seq
 (rg [0,3,14] [
 mv 10 0,
 mv 11 3,
 vo 12 (.idx 9 (.t 10) (.t 11)),
 cl 13 140 [12],
 tI 14 13])
 (.cond (.t 14)
 (.seq
 (rg [2] [
 tC 2])
 .ret)
 .skip)))
 (rg [0,3] [
 mv 8 3,
 tL 9 8,
 sg 3 9])))
def l115_0:VC:=.loop b115_0
def v115 : VFun := {
 code:=
 (.seq
 (rg [0] [
 tC 2])
 (.seq
 (.seq
 (rg [0,3] [
 tB 3])
 (.block 0
 l115_0))
 (.seq
 (rg [2] [
 mv 15 0,
 vo 16 (.len true 9 (.t 15)),
 vo 17 (.bin false .leq 3 (.t 16) (ci 12)),
 sg 2 17])
 .ret)))
 modes:=[.lend]
 rets:=[⟨2,none⟩]}

def v116 : VFun := {
 code:=
 (.seq
 (rg [0] [
 tC 2])
 (.seq
 (rg [2] [
 mv 3 0,
 vo 4 (.call 105 [(.t 3),(ci 0),(ci 2147483646)]),
 sg 2 4])
 .ret))
 modes:=[.lend]
 rets:=[⟨2,none⟩]}

def v117 : VFun := {
 code:=
 (.seq
 (rg [0] [
 tAH 2])
 (.seq
 (rg [2,14] [
 mv 3 0,
 vo 4 (.bin false .shr 2 (.t 3) (.c (.int .u64 24))),
 tAC 5 4,
 mv 6 0,
 vo 7 (.bin false .shr 2 (.t 6) (.c (.int .u64 16))),
 tAC 8 7,
 mv 9 0,
 tCM 10 9,
 tAC 11 10,
 mv 12 0,
 tAC 13 12,
 vo 14 (.lit 22 5 1 4 [(.val (.int .u8 0))] [(0,(.t 5)),(1,(.t 8)),(2,(.t 11)),(3,(.t 13))]),
 sg 2 14])
 .ret))
 modes:=[.lend]
 rets:=[⟨2,none⟩]}

def b118_0:VC:=
 (.seq
 (.seq
 (rg [0,3,4,8] [
 mv 5 4,
 mv 6 0,
 tF 7 6,
 tK 8 5 7])
 (.cond (.t 8)
 .skip
 (.exit 0)))
 (.seq
 (.block 1
 (rg [0,3,4] [
 mv 11 3,
 vo 12 (.bin false .mul 2 (.t 11) (ci 33)),
 mv 13 0,
 mv 14 4,
 tAJ 15 13 14,
 ld 16 5 15,
 tAK 17 16,
 tM 18 12 17,
 tAW 19 18,
 vo 20 (.bin false .rem 2 (.t 19) (ci 2147483647)),
 sg 3 20]))
 (rg [0,3,4] [
 mv 9 4,
 tL 10 9,
 sg 4 10])))
def l118_0:VC:=.loop b118_0
def v118 : VFun := {
 code:=
 (.seq
 (rg [0] [
 tB 2])
 (.seq
 (rg [0,3] [
 vo 3 (.asg (ci 5381))])
 (.seq
 (.seq
 (rg [0,3,4] [
 tB 4])
 (.block 0
 l118_0))
 (.seq
 (rg [2] [
 mv 21 3,
 sg 2 21])
 .ret))))
 modes:=[.lend]
 rets:=[⟨2,none⟩]}

def v119 : VFun := {
 code:=
 (.seq
 (rg [0] [
 tC 2])
 (.seq
 (rg [2] [
 mv 3 0,
 vo 4 (.len true 9 (.t 3)),
 vo 5 (.bin false .leq 3 (.t 4) (ci 12)),
 mv 6 5,
 tCZ 7 0 6,
 og 8 (.call 141 [(.t 7),(.c (.string (⟨#[97,98,99,100,101,102,103,104,105,106,107,108,109,110,111,112,113,114,115,116,117,118,119,120,121,122,65,66,67,68,69,70,71,72,73,74,75,76,77,78,79,80,81,82,83,84,85,86,87,88,89,90,48,49,50,51,52,53,54,55,56,57]⟩:ByteArray)))]) 6 true,
 og 9 (.bin false .eql 9 (.t 8) (.c (.string (⟨#[]⟩:ByteArray)))) 6 true,
 tAG 10 6 9,
 sg 2 10])
 .ret))
 modes:=[.lend]
 rets:=[⟨2,none⟩]}

def v120 : VFun := {
 code:=
 (.seq
 (rg [0] [
 tAH 2])
 (.seq
 (rg [2,5] [
 tCH 3,
 mv 4 0,
 tW 5 3 4,
 sg 2 5])
 .ret))
 modes:=[.lend]
 rets:=[⟨2,none⟩]}

def v121 : VFun := {
 code:=
 (.seq
 (rg [0,2] [
 tU 2,
 tC 3])
 (.seq
 (rg [0,2,4] [
 tBN 8,
 tU 4,
 tH 4 8])
 (.seq
 (.seq
 (rg [0,2,4,27] [
 mv 9 0,
 tF 10 9,
 vo 11 (.bin false .lss 3 (.t 10) (ci 1)),
 mv 12 11,
 tCT 13 0 12,
 og 14 (.len false 22 (.t 13)) 12 false,
 tCT 15 0 12,
 og 16 (.ia 22 5 1 (.t 15) (ci 0)) 12 false,
 tCU 17 5 1 16 12,
 og 18 (.conv 5 3 .i64 (.t 17)) 12 false,
 og 19 (.bin false .add 3 (.t 18) (ci 3)) 12 false,
 og 20 (.bin false .lss 3 (.t 14) (.t 19)) 12 false,
 tD 21 12 20,
 mv 22 21,
 tCT 23 0 22,
 og 24 (.ia 22 5 1 (.t 23) (ci 0)) 22 false,
 tCU 25 5 1 24 22,
 og 26 (.bin false .lss 5 (.t 25) (.c (.int .u8 10))) 22 false,
 tD 27 22 26])
 (.cond (.t 27)
 (.seq
 (rg [2,3] [
 tP 28 4,
 tH 2 28,
 tC 3])
 .ret)
 .skip))
 (.seq
 (rg [0,2,4,5] [
 mv 29 0,
 mv 30 0,
 tBO 31 30,
 ld 32 5 31,
 tCD 33 32,
 vo 34 (.bin false .add 3 (ci 1) (.t 33)),
 vo 35 (.cut 22 (some 5) 1 (.t 29) (some (ci 1)) (some (.t 34))),
 sg 5 35])
 (.seq
 (rg [0,2,4,5,6] [
 mv 36 5,
 vo 37 (.ia 22 5 1 (.t 36) (ci 1)),
 ld 38 5 37,
 tCD 39 38,
 sg 6 39])
 (.seq
 (.seq
 (rg [0,2,4,5,6,44] [
 mv 40 5,
 tF 41 40,
 mv 42 6,
 vo 43 (.bin false .add 3 (ci 10) (.t 42)),
 vo 44 (.bin false .neq 3 (.t 41) (.t 43))])
 (.cond (.t 44)
 (.seq
 (rg [2,3] [
 tP 45 4,
 tH 2 45,
 tC 3])
 .ret)
 .skip))
 (.seq
 (.region true [0,2,4] [
 mv 46 5,
 tBO 47 46,
 ld 48 5 47,
 tAK 49 48,
 tA [0,1,2,3] 50 5,
 tA [0,1,2,3,4] 51 6,
 wo [0,1,2,3,4] 52 (.bin false .add 3 (ci 2) (.t 51)),
 wo [0,1,2,3] 53 (.cut 22 (some 5) 1 (.t 50) (some (ci 2)) (some (.t 52))),
 wo [0,1,2,3] 54 (.b2s 22 9 (.t 53)),
 tA [0,1,2,3,4,5,6,7,8] 55 5,
 tA [0,1,2,3,4,5,6,7,8,9] 56 6,
 wo [0,1,2,3,4,5,6,7,8,9] 57 (.bin false .add 3 (ci 2) (.t 56)),
 tBU [0,1,2,3,4,5,6,7,8] 58 55 57,
 wo [0,1,2,3,4,5,6,7,8] 59 (.call 142 [(.t 58)]),
 tA [0,1,2,3,4,5,6,7,8,9,10,11,12,13] 60 5,
 tA [0,1,2,3,4,5,6,7,8,9,10,11,12,13,14] 61 6,
 wo [0,1,2,3,4,5,6,7,8,9,10,11,12,13,14] 62 (.bin false .add 3 (ci 6) (.t 61)),
 tBU [0,1,2,3,4,5,6,7,8,9,10,11,12,13] 63 60 62,
 wo [0,1,2,3,4,5,6,7,8] 64 (.call 142 [(.t 63)]),
 vo 65 (.build 52 [(.val (.int .i64 0)),(.val (.string (⟨#[]⟩:ByteArray))),(.val (.int .i64 0)),(.val (.int .i64 0))] [(0,0,1,(.t 49)),(1,1,1,(.t 54)),(2,2,1,(.t 59)),(3,3,1,(.t 64))]),
 tH 4 65])
 (.seq
 (.seq
 (rg [0,2,4,67] [
 tDK 66 69,
 tV 67 66])
 (.cond (.t 67)
 (.seq
 (rg [2,3] [
 tP 68 4,
 tH 2 68,
 tC 3])
 .ret)
 .skip))
 (.seq
 (rg [0,2,4,7,69] [
 tDK 69 70,
 sg 7 69])
 (.seq
 (.region true [2,3] [
 tP 70 4,
 tA [0] 71 0,
 tA [0,1] 72 7,
 tCC [0,1] 73 72,
 wo [0] 74 (.cut 22 (some 5) 1 (.t 71) none (some (.t 73))),
 wo [0] 75 (.b2s 22 9 (.t 74)),
 tA [0,1,2,3,4,5] 76 7,
 wo [0,1,2,3,4,5] 77 (.b2s 22 9 (.t 76)),
 wo [0] 78 (.bin false .eql 9 (.t 75) (.t 77)),
 ⟨none,.store 52 4 (.t 2) (.t 70),none,[1,2,3,4,5,6,7,8]⟩,
 sg 3 78])
 .ret))))))))))
 modes:=[.lend]
 rets:=[⟨2,some (true,4)⟩,⟨3,none⟩]}

def b124_0:VC:=
 (.seq
 (.seq
 (rg [0,1,5,9] [
 mv 6 5,
 mv 7 0,
 tCE 8 7,
 tK 9 6 8])
 (.cond (.t 9)
 .skip
 (.exit 0)))
 (.seq
 (.block 1
 (.seq
 (rg [0,1,5,18] [
 mv 12 0,
 mv 13 5,
 tAS 14 12 13,
 tCS 15 96 0 0 1 14,
 ld 16 2 15,
 mv 17 1,
 tDM 18 2 16 17])
 (.cond (.t 18)
 (.seq
 (rg [4] [
 mv 19 5,
 sg 4 19])
 .ret)
 .skip)))
 (rg [0,1,5] [
 mv 10 5,
 tL 11 10,
 sg 5 11])))
def l124_0:VC:=.loop b124_0
def v124 : VFun := {
 code:=
 (.seq
 (rg [0,1] [
 tB 4])
 (.seq
 (.seq
 (rg [0,1,5] [
 tB 5])
 (.block 0
 l124_0))
 (.seq
 (rg [4] [
 vo 4 (.asg (ci ((-1))))])
 .ret)))
 modes:=[.lend,.lend]
 rets:=[⟨4,none⟩]}

def b125_1:VC:=
 (.seq
 (.seq
 (rg [6,9,11,48,55] [
 mv 52 9,
 mv 53 6,
 tAL 54 53,
 tK 55 52 54])
 (.cond (.t 55)
 .skip
 (.exit 2)))
 (.seq
 (.block 3
 (.seq
 (rg [6,9,11,48,64] [
 mv 58 6,
 mv 59 9,
 tQ 60 58 59,
 tX 61 60,
 ld 62 2 61,
 cl 63 101 [62],
 tI 64 63])
 (.cond (.t 64)
 (.seq
 (rg [4,5,6,11,48] [
 tAT 4,
 vo 5 (.asg (ci 7))])
 .ret)
 .skip)))
 (rg [6,9,11,48] [
 mv 56 9,
 tL 57 56,
 sg 9 57])))
def l125_1:VC:=.loop b125_1
def b125_0:VC:=
 (.seq
 (.seq
 (rg [1,6,7,11,15,48] [
 mv 12 7,
 mv 13 1,
 tAL 14 13,
 tK 15 12 14])
 (.cond (.t 15)
 .skip
 (.exit 0)))
 (.seq
 (.block 1
 (.seq
 (rg [1,6,7,8,11,48] [
 mv 18 6,
 mv 19 1,
 mv 20 7,
 tQ 21 19 20,
 tBJ 22 21,
 ld 23 9 22,
 cl 24 60 [18,23],
 sg 8 24])
 (.seq
 (rg [1,6,7,8,11,26,48] [
 mv 25 8,
 tCF 26 25])
 (.cond (.t 26)
 (.region true [1,6,7,11,48] [
 mv 27 6,
 tA [0] 28 8,
 tA [0,1] 29 6,
 tA [0,1,2] 30 8,
 tBL [0,1] 31 29 30,
 tBM [0,1] 32 31,
 tG [0,1] 33 32,
 tA [0,1,2,3,4,5,6] 34 1,
 tA [0,1,2,3,4,5,6,7] 35 7,
 tBL [0,1,2,3,4,5,6] 36 34 35,
 tBM [0,1,2,3,4,5,6] 37 36,
 tG [0,1,2,3,4,5,6] 38 37,
 wo [0,1] 39 (.bin false .add 2 (.t 33) (.t 38)),
 tQ 40 27 28,
 tX 41 40,
 tT 41 39])
 (rg [1,6,7,11,48] [
 mv 42 6,
 mv 43 1,
 mv 44 7,
 tQ 45 43 44,
 tDE 46 34 2 45,
 vo 47 (.lit 24 34 2 1 [(.val (.string (⟨#[]⟩:ByteArray))),(.val (.int .i64 0))] [(0,(.t 46))]),
 tAU 48 42 47,
 sg 6 48])))))
 (rg [1,6,7,11,48] [
 mv 16 7,
 tL 17 16,
 sg 7 17])))
def l125_0:VC:=.loop b125_0
def v125 : VFun := {
 code:=
 (.seq
 (rg [0,1] [
 tAT 4,
 tB 5])
 (.seq
 (rg [1,6,11,48] [
 mv 10 0,
 tDH 11 137,
 sg 6 11])
 (.seq
 (.seq
 (rg [1,6,7,11,48] [
 tB 7])
 (.block 0
 l125_0))
 (.seq
 (.seq
 (rg [6,11,48,51] [
 mv 49 6,
 tAL 50 49,
 vo 51 (.bin false .gtr 3 (.t 50) (ci 8))])
 (.cond (.t 51)
 (.seq
 (rg [4,5,6,11,48] [
 tAT 4,
 vo 5 (.asg (ci 10))])
 .ret)
 .skip))
 (.seq
 (.seq
 (rg [6,9,11,48] [
 tB 9])
 (.block 2
 l125_1))
 (.seq
 (rg [4,5,6,11,48] [
 mv 65 6,
 sg 4 65,
 tB 5])
 .ret))))))
 modes:=[.lend,.lend]
 rets:=[⟨4,none⟩,⟨5,none⟩]}

def v137 : VFun := {
 code:=
 (.seq
 (rg [0] [
 tAT 2])
 (.seq
 (rg [2,5] [
 tBS 3,
 mv 4 0,
 tAU 5 3 4,
 sg 2 5])
 .ret))
 modes:=[.lend]
 rets:=[⟨2,none⟩]}

def v138 : VFun := {
 code:=
 (.seq
 (rg [1,2,4] [
 tAQ 2 0,
 tAN 4])
 (.seq
 (.seq
 (rg [1,2,4,9] [
 mv 6 1,
 tO 7 6,
 tAI 8 7,
 ld 9 2 8])
 (.block 0
 (.seq
 (rg [1,2,4,9,10] [
 tBH 11 9,
 sg 10 11])
 (.cond (.t 10)
 (.seq
 (.region true [4] [
 tJ 12 2,
 tA [0] 13 1,
 tN [0] 14 13,
 tBB [0] 15 14,
 tBC [0] 16 15,
 tA [0,1,2,3,4] 17 1,
 tN [0,1,2,3,4] 18 17,
 tBQ [0,1,2,3,4] 19 18,
 tG [0,1,2,3,4] 20 19,
 wo [0] 21 (.build 34 [(.val (.string (⟨#[]⟩:ByteArray))),(.val (.int .i64 0))] [(0,0,1,(.t 16)),(1,1,1,(.t 20))]),
 cl 22 53 [12,21],
 tE 4 22])
 .ret)
 (.seq
 (rg [1,2,4,9,23] [
 tCB 24 9,
 sg 23 24])
 (.cond (.t 23)
 (.seq
 (.region true [4,5] [
 tJ 25 2,
 tA [0] 26 1,
 tN [0] 27 26,
 tBP [0] 28 27,
 tG [0] 29 28,
 tA [0,1,2,3,4] 30 1,
 tN [0,1,2,3,4] 31 30,
 tBQ [0,1,2,3,4] 32 31,
 tG [0,1,2,3,4] 33 32,
 cl 34 143 [25,29,33],
 wo [0,1,2,3,4,5,6,7,8,9] 5 (.alloc 31 [(.val (.int .i64 0)),(.val (.int .i64 0)),(.val (.int .i64 0)),(.val (.int .i64 0)),(.nl 2),(.nl 5),(.nl 2),(.val (.int .i64 0)),(.val (.int .i64 0)),(.val (.int .i64 0))]),
 tE 5 34])
 (.seq
 (rg [4,5] [
 tCS 35 31 1 1 1 5,
 vn (.store 2 1 (.t 35) (ci 0))])
 (.seq
 (rg [4] [
 tDE 36 31 10 5,
 tE 4 36])
 .ret)))
 (.seq
 (rg [1,2,4,9,37] [
 tCK 38 9,
 sg 37 38])
 (.cond (.t 37)
 (.seq
 (.region true [4] [
 tJ 39 2,
 tA [0] 40 1,
 tN [0] 41 40,
 tBP [0] 42 41,
 tG [0] 43 42,
 cl 44 78 [39,43],
 tE 4 44])
 .ret)
 (.seq
 (rg [1,2,4,45] [
 vo 46 (.bin false .eql 2 (.t 9) (ci 4)),
 sg 45 46])
 (.cond (.t 45)
 (.seq
 (.region true [4] [
 tJ 47 2,
 tA [0] 48 1,
 tN [0] 49 48,
 tBP [0] 50 49,
 tG [0] 51 50,
 cl 52 144 [47,51],
 tE 4 52])
 .ret)
 .skip))))))))))
 (.seq
 (.region true [4] [
 tJ 53 2,
 tA [0] 54 1,
 tN [0] 55 54,
 tBB [0] 56 55,
 tBC [0] 57 56,
 tA [0,1,2,3,4] 58 1,
 tN [0,1,2,3,4] 59 58,
 tBQ [0,1,2,3,4] 60 59,
 tG [0,1,2,3,4] 61 60,
 cl 62 61 [53,57,61],
 tE 4 62])
 .ret)))
 modes:=[.lend,.lend]
 rets:=[⟨4,some (true,10)⟩]}

def v139 : VFun := {
 code:=
 (.seq
 (rg [0,1] [
 tC 4])
 (.seq
 (rg [4] [
 mv 5 0,
 vo 6 (.b2s 22 9 (.t 5)),
 mv 7 1,
 vo 8 (.b2s 22 9 (.t 7)),
 tDM 9 9 6 8,
 sg 4 9])
 .ret))
 modes:=[.lend,.lend]
 rets:=[⟨4,none⟩]}

def v140 : VFun := {
 code:=
 (.seq
 (rg [0] [
 tC 2])
 (.seq
 (rg [2] [
 mv 3 0,
 vo 4 (.bin false .geq 5 (.t 3) (.c (.int .u8 97))),
 mv 5 4,
 tCZ 6 0 5,
 og 7 (.bin false .leq 5 (.t 6) (.c (.int .u8 122))) 5 true,
 tAG 8 5 7,
 mv 9 8,
 tCT 10 0 9,
 og 11 (.bin false .geq 5 (.t 10) (.c (.int .u8 65))) 9 false,
 tCT 12 11 9,
 tCZ 13 0 12,
 og 14 (.bin false .leq 5 (.t 13) (.c (.int .u8 90))) 12 true,
 tDA 15 12 14 9,
 tD 16 9 15,
 mv 17 16,
 tCT 18 0 17,
 og 19 (.bin false .geq 5 (.t 18) (.c (.int .u8 48))) 17 false,
 tCT 20 19 17,
 tCZ 21 0 20,
 og 22 (.bin false .leq 5 (.t 21) (.c (.int .u8 57))) 20 true,
 tDA 23 20 22 17,
 tD 24 17 23,
 sg 2 24])
 .ret))
 modes:=[.lend]
 rets:=[⟨2,none⟩]}

def v142 : VFun := {
 code:=
 (.seq
 (rg [0] [
 tB 2])
 (.seq
 (.region true [2] [
 mv 3 0,
 tBO 4 3,
 ld 5 5 4,
 tAK 6 5,
 vo 7 (.bin false .shl 2 (.t 6) (.c (.int .u64 24))),
 tA [0,1,2,3,4] 8 0,
 wo [0,1,2,3,4] 9 (.ia 22 5 1 (.t 8) (ci 1)),
 tBX [0,1,2,3,4] 10 9,
 tBY [0,1,2,3,4] 11 10,
 wo [0,1,2,3,4] 12 (.bin false .shl 2 (.t 11) (.c (.int .u64 16))),
 tM 13 7 12,
 tA [0,1,2,3,4,5,6,7,8,9,10] 14 0,
 wo [0,1,2,3,4,5,6,7,8,9,10] 15 (.ia 22 5 1 (.t 14) (ci 2)),
 tBX [0,1,2,3,4,5,6,7,8,9,10] 16 15,
 tBY [0,1,2,3,4,5,6,7,8,9,10] 17 16,
 wo [0,1,2,3,4,5,6,7,8,9,10] 18 (.bin false .shl 2 (.t 17) (.c (.int .u64 8))),
 tM 19 13 18,
 tA [0,1,2,3,4,5,6,7,8,9,10,11,12,13,14,15,16] 20 0,
 wo [0,1,2,3,4,5,6,7,8,9,10,11,12,13,14,15,16] 21 (.ia 22 5 1 (.t 20) (ci 3)),
 tBX [0,1,2,3,4,5,6,7,8,9,10,11,12,13,14,15,16] 22 21,
 tBY [0,1,2,3,4,5,6,7,8,9,10,11,12,13,14,15,16] 23 22,
 tM 24 19 23,
 sg 2 24])
 .ret))
 modes:=[.lend]
 rets:=[⟨2,none⟩]}

def v143 : VFun := {
 code:=
 (.seq
 (rg [1,2,3,6] [
 tAQ 3 0,
 tAN 6])
 (.seq
 (.seq
 (rg [1,2,3,6,16] [
 mv 9 1,
 cl 10 116 [9],
 tI 11 10,
 mv 12 11,
 tCT 13 2 12,
 og 14 (.call 101 [(.t 13)]) 12 false,
 tDC 15 14 12,
 tD 16 12 15])
 (.cond (.t 16)
 (.seq
 (rg [6] [
 vo 17 (.call 52 [(ci 3)]),
 tE 6 17])
 .ret)
 .skip))
 (.seq
 (.seq
 (rg [1,2,3,6,22] [
 tR 18 3,
 ld 19 25 18,
 mv 20 1,
 cl 21 124 [19,20],
 tCF 22 21])
 (.cond (.t 22)
 (.seq
 (rg [6] [
 vo 23 (.call 52 [(ci 6)]),
 tE 6 23])
 .ret)
 .skip))
 (.seq
 (.seq
 (rg [1,2,3,6,27] [
 tR 24 3,
 ld 25 25 24,
 tCE 26 25,
 vo 27 (.bin false .geq 3 (.t 26) (ci 6))])
 (.cond (.t 27)
 (.seq
 (rg [6] [
 vo 28 (.call 52 [(ci 10)]),
 tE 6 28])
 .ret)
 .skip))
 (.seq
 (.seq
 (rg [1,2,3,6,35] [
 tR 29 3,
 ld 30 25 29,
 vo 31 (.call 100 [(.t 30),(.c (.bool false))]),
 mv 32 2,
 tM 33 31 32,
 cl 34 101 [33],
 tI 35 34])
 (.cond (.t 35)
 (.seq
 (rg [6] [
 tBZ 36,
 tE 6 36])
 .ret)
 .skip))
 (.seq
 (rg [2,3,6,7] [
 mv 37 1,
 mv 38 2,
 mv 39 2,
 vo 40 (.build 96 [(.val (.int .i64 0)),(.val (.int .i64 0)),(.val (.int .i64 0)),(.nl 2),(.val (.int .i64 0))] [(0,0,1,(.t 37)),(1,1,1,(.t 38)),(2,2,1,(.t 39)),(4,4,1,(ci 1))]),
 tCR 7,
 tDB 96 5 7 40])
 (.seq
 (.seq
 (rg [2,3,6,7,44] [
 tAZ 41 3,
 ld 42 24 41,
 tAL 43 42,
 tCL 44 43])
 (.cond (.t 44)
 (.seq
 (rg [2,3,6,7] [
 mv 45 2,
 tCS 46 27 1 1 1 3,
 ld 47 2 46,
 tCO 48 45 47,
 vo 49 (.bin false .quo 2 (.t 48) (ci 1000)),
 tCS 50 96 2 2 1 7,
 tT 50 49])
 (rg [3,6,7] [
 mv 51 2,
 tCS 52 96 2 2 1 7,
 ld 53 2 52,
 tDO 54 2 51 53,
 tAZ 55 3,
 ld 56 24 55,
 cl 57 152 [54,56],
 tCS 58 96 3 3 1 7,
 tBA 58 57]))
 .skip))
 (.seq
 (rg [6,7,8] [
 tJ 59 3,
 cl 60 103 [59],
 tAA 8,
 tAB 8 60])
 (.seq
 (rg [6,7,8] [
 tR 61 8,
 ld 62 25 61,
 tDE 63 96 5 7,
 vo 64 (.lit 25 96 5 1 [(.val (.int .i64 0)),(.val (.int .i64 0)),(.val (.int .i64 0)),(.nl 2),(.val (.int .i64 0))] [(0,(.t 63))]),
 vo 65 (.app 25 96 5 56 (.t 62) (.t 64)),
 tR 66 8,
 tDB 25 1 66 65])
 (.seq
 (rg [6] [
 tCS 67 96 2 2 1 7,
 ld 68 2 67,
 tJ 69 8,
 vo 70 (.build 31 [(.val (.int .i64 0)),(.val (.int .i64 0)),(.val (.int .i64 0)),(.val (.int .i64 0)),(.nl 2),(.nl 5),(.nl 2),(.val (.int .i64 0)),(.val (.int .i64 0)),(.val (.int .i64 0))] [(1,1,1,(.t 68)),(2,2,8,(.t 69))]),
 tE 6 70])
 .ret))))))))))
 modes:=[.lend,.lend,.lend]
 rets:=[⟨6,some (true,10)⟩]}

def v144 : VFun := {
 code:=
 (.seq
 (rg [1,2,4] [
 tAQ 2 0,
 tAN 4])
 (.seq
 (rg [2,4,5] [
 tR 8 2,
 ld 9 25 8,
 mv 10 1,
 cl 11 124 [9,10],
 sg 5 11])
 (.seq
 (.seq
 (rg [2,4,5,13] [
 mv 12 5,
 tBK 13 12])
 (.cond (.t 13)
 (.seq
 (rg [4] [
 vo 14 (.call 52 [(ci 4)]),
 tE 4 14])
 .ret)
 .skip))
 (.seq
 (rg [2,4,5,6] [
 tR 15 2,
 ld 16 25 15,
 mv 17 5,
 tAS 18 16 17,
 sg 6 18])
 (.seq
 (.seq
 (rg [2,4,5,6,23] [
 mv 19 6,
 tO 20 19,
 tBR 21 20,
 ld 22 2 21,
 tCK 23 22])
 (.cond (.t 23)
 (.seq
 (rg [4] [
 vo 24 (.call 52 [(ci 9)]),
 tE 4 24])
 .ret)
 .skip))
 (.seq
 (rg [2,4,5,6,7] [
 tJ 25 2,
 cl 26 103 [25],
 tAA 7,
 tAB 7 26])
 (.seq
 (.seq
 (rg [2,4,5,6,7,31] [
 mv 27 6,
 tO 28 27,
 tBR 29 28,
 ld 30 2 29,
 tCB 31 30])
 (.cond (.t 31)
 (.region true [4,5,7] [
 tCS 32 27 7 7 1 2,
 ld 33 2 32,
 tA [0,1] 34 6,
 tN [0,1] 35 34,
 tCW [0,1] 36 96 1 1 1 35,
 tG [0,1] 37 36,
 tM 38 33 37,
 tCS 39 27 7 7 1 7,
 tT 39 38])
 .skip))
 (.seq
 (.seq
 (rg [4,5,7,43] [
 tCS 40 27 7 7 1 7,
 ld 41 2 40,
 cl 42 101 [41],
 tI 43 42])
 (.cond (.t 43)
 (.seq
 (rg [4] [
 tBZ 44,
 tE 4 44])
 .ret)
 .skip))
 (.seq
 (rg [4,7] [
 tR 45 7,
 ld 46 25 45,
 mv 47 5,
 tAS 48 46 47,
 tBR 49 48,
 vn (.store 2 1 (.t 49) (ci 3))])
 (.seq
 (rg [4] [
 tJ 50 7,
 vo 51 (.build 31 [(.val (.int .i64 0)),(.val (.int .i64 0)),(.val (.int .i64 0)),(.val (.int .i64 0)),(.nl 2),(.nl 5),(.nl 2),(.val (.int .i64 0)),(.val (.int .i64 0)),(.val (.int .i64 0))] [(2,2,8,(.t 50))]),
 tE 4 51])
 .ret))))))))))
 modes:=[.lend,.lend]
 rets:=[⟨4,some (true,10)⟩]}

def b152_2:VC:=
 (.seq
 (.seq
 (rg [7,8,9,12,13,18,19,45,57,68] [
 mv 65 13,
 mv 66 8,
 tDG 67 132 66,
 tK 68 65 67])
 (.cond (.t 68)
 .skip
 (.exit 4)))
 (.seq
 (.block 5
 (.seq
 (.region true [7,8,9,12,13,18,19,45,57,79] [
 mv 71 8,
 tA [0] 72 13,
 tDD 73 132 2 1 71 72,
 ld 74 2 73,
 tA [0,1,2,3] 75 8,
 tA [0,1,2,3,4] 76 12,
 wo [0,1,2,3] 77 (.ia 132 2 1 (.t 75) (.t 76)),
 tG [0,1,2,3] 78 77,
 vo 79 (.bin false .gtr 2 (.t 74) (.t 78))])
 (.cond (.t 79)
 (rg [7,8,9,12,13,18,19,45,57] [
 mv 80 13,
 sg 12 80])
 .skip)))
 (rg [7,8,9,12,13,18,19,45,57] [
 mv 69 13,
 tL 70 69,
 sg 13 70])))
def l152_2:VC:=.loop b152_2
def b152_1:VC:=
 (.seq
 (.seq
 (rg [7,8,9,18,19,45,57,62] [
 mv 61 9,
 tCN 62 61])
 (.cond (.t 62)
 .skip
 (.exit 2)))
 (.seq
 (.block 3
 (.seq
 (rg [7,8,9,12,18,19,45,57] [
 tB 12])
 (.seq
 (.seq
 (rg [7,8,9,12,13,18,19,45,57] [
 vo 13 (.asg (ci 1))])
 (.block 4
 l152_2))
 (.seq
 (rg [7,8,9,12,18,19,45,57] [
 mv 81 7,
 mv 82 12,
 tQ 83 81 82,
 tX 84 83,
 ld 85 2 84,
 tAW 86 85,
 tQ 87 81 82,
 tX 88 87,
 tT 88 86])
 (rg [7,8,9,18,19,45,57] [
 mv 89 8,
 mv 90 12,
 tDD 91 132 2 1 89 90,
 vn (.store 2 1 (.t 91) (ci ((-1))))])))))
 (rg [7,8,9,18,19,45,57] [
 mv 63 9,
 tBW 64 63,
 sg 9 64])))
def l152_1:VC:=.loop b152_1
def b152_0:VC:=
 (.seq
 (.seq
 (rg [0,5,6,7,8,9,10,15,18,19,24,45,57] [
 mv 21 10,
 mv 22 5,
 tAL 23 22,
 tK 24 21 23])
 (.cond (.t 24)
 .skip
 (.exit 0)))
 (.seq
 (.block 1
 (.seq
 (rg [0,5,6,7,8,9,10,11,15,18,19,45,57] [
 mv 27 0,
 mv 28 5,
 mv 29 10,
 tQ 30 28 29,
 tX 31 30,
 ld 32 2 31,
 tCO 33 27 32,
 mv 34 6,
 vo 35 (.bin false .quo 2 (.t 33) (.t 34)),
 sg 11 35])
 (.seq
 (rg [0,5,6,7,8,9,10,11,15,18,19,45,57] [
 mv 36 7,
 mv 37 5,
 mv 38 10,
 tQ 39 37 38,
 tBJ 40 39,
 ld 41 9 40,
 mv 42 11,
 vo 43 (.build 34 [(.val (.string (⟨#[]⟩:ByteArray))),(.val (.int .i64 0))] [(0,0,1,(.t 41)),(1,1,1,(.t 42))]),
 vo 44 (.lit 24 34 2 1 [(.val (.string (⟨#[]⟩:ByteArray))),(.val (.int .i64 0))] [(0,(.t 43))]),
 tAU 45 36 44,
 sg 7 45])
 (.seq
 (rg [0,5,6,7,8,9,10,11,15,18,19,45,57] [
 mv 46 8,
 mv 47 0,
 mv 48 5,
 mv 49 10,
 tQ 50 48 49,
 tX 51 50,
 ld 52 2 51,
 tCO 53 47 52,
 mv 54 6,
 tAY 55 53 54,
 vo 56 (.lit 132 2 1 1 [(.val (.int .i64 0))] [(0,(.t 55))]),
 vo 57 (.app 132 2 1 8 (.t 46) (.t 56)),
 sg 8 57])
 (rg [0,5,6,7,8,9,10,15,18,19,45,57] [
 mv 58 9,
 mv 59 11,
 tDO 60 2 58 59,
 sg 9 60])))))
 (rg [0,5,6,7,8,9,10,15,18,19,45,57] [
 mv 25 10,
 tL 26 25,
 sg 10 26])))
def l152_0:VC:=.loop b152_0
def v152 : VFun := {
 code:=
 (.seq
 (rg [0,1] [
 tAT 4])
 (.seq
 (rg [0,5,15] [
 mv 14 1,
 cl 15 157 [14],
 sg 5 15])
 (.seq
 (rg [0,5,6,15] [
 mv 16 5,
 cl 17 99 [16],
 sg 6 17])
 (.seq
 (rg [0,5,6,7,15,18,45] [
 tBS 18,
 sg 7 18])
 (.seq
 (rg [0,5,6,7,8,15,18,19,45,57] [
 vo 19 (.lit 132 2 1 0 [(.val (.int .i64 0))] []),
 sg 8 19])
 (.seq
 (rg [0,5,6,7,8,9,15,18,19,45,57] [
 mv 20 0,
 sg 9 20])
 (.seq
 (.seq
 (rg [0,5,6,7,8,9,10,15,18,19,45,57] [
 tB 10])
 (.block 0
 l152_0))
 (.seq
 (.block 2
 l152_1)
 (.seq
 (rg [4,7,18,45] [
 mv 92 7,
 sg 4 92])
 .ret)))))))))
 modes:=[.lend,.lend]
 rets:=[⟨4,none⟩]}

def b157_0:VC:=
 (.seq
 (.seq
 (rg [0,3,4,6,10,43] [
 mv 7 4,
 mv 8 0,
 tAL 9 8,
 tK 10 7 9])
 (.cond (.t 10)
 .skip
 (.exit 0)))
 (.seq
 (.block 1
 (.seq
 (rg [0,3,4,5,6,43] [
 mv 13 3,
 mv 14 0,
 mv 15 4,
 tQ 16 14 15,
 tBJ 17 16,
 ld 18 9 17,
 cl 19 60 [13,18],
 sg 5 19])
 (.seq
 (rg [0,3,4,5,6,21,43] [
 mv 20 5,
 tCF 21 20])
 (.cond (.t 21)
 (.region true [0,3,4,6,43] [
 mv 22 3,
 tA [0] 23 5,
 tA [0,1] 24 3,
 tA [0,1,2] 25 5,
 tBL [0,1] 26 24 25,
 tBM [0,1] 27 26,
 tG [0,1] 28 27,
 tA [0,1,2,3,4,5,6] 29 0,
 tA [0,1,2,3,4,5,6,7] 30 4,
 tBL [0,1,2,3,4,5,6] 31 29 30,
 tBM [0,1,2,3,4,5,6] 32 31,
 tG [0,1,2,3,4,5,6] 33 32,
 wo [0,1] 34 (.bin false .add 2 (.t 28) (.t 33)),
 tQ 35 22 23,
 tX 36 35,
 tT 36 34])
 (rg [0,3,4,6,43] [
 mv 37 3,
 mv 38 0,
 mv 39 4,
 tQ 40 38 39,
 tDE 41 34 2 40,
 vo 42 (.lit 24 34 2 1 [(.val (.string (⟨#[]⟩:ByteArray))),(.val (.int .i64 0))] [(0,(.t 41))]),
 tAU 43 37 42,
 sg 3 43])))))
 (rg [0,3,4,6,43] [
 mv 11 4,
 tL 12 11,
 sg 4 12])))
def l157_0:VC:=.loop b157_0
def v157 : VFun := {
 code:=
 (.seq
 (rg [0] [
 tAT 2])
 (.seq
 (rg [0,3,6,43] [
 tBS 6,
 sg 3 6])
 (.seq
 (.seq
 (rg [0,3,4,6,43] [
 tB 4])
 (.block 0
 l157_0))
 (.seq
 (rg [2,3,6,43] [
 mv 44 3,
 sg 2 44])
 .ret))))
 modes:=[.lend]
 rets:=[⟨2,none⟩]}

def tab:List (Nat × VFun):=[(4,v4),(6,v6),(18,v18),(19,v19),(20,v20),(21,v21),(22,v22),(23,v23),(24,v24),(25,v25),(26,v26),(27,v27),(28,v28),(38,v38),(40,v40),(41,v41),(45,v45),(46,v46),(48,v48),(52,v52),(53,v53),(60,v60),(61,v61),(62,v62),(63,v63),(64,v64),(65,v65),(66,v66),(67,v67),(68,v68),(69,v69),(70,v70),(71,v71),(72,v72),(73,v73),(74,v74),(75,v75),(78,v78),(99,v99),(100,v100),(101,v101),(102,v102),(103,v103),(104,v104),(105,v105),(106,v106),(107,v107),(108,v108),(109,v109),(110,v110),(111,v111),(112,v112),(113,v113),(114,v114),(115,v115),(116,v116),(117,v117),(118,v118),(119,v119),(120,v120),(121,v121),(124,v124),(125,v125),(137,v137),(138,v138),(139,v139),(140,v140),(142,v142),(143,v143),(144,v144),(152,v152),(157,v157)]
def F (f:FuncId):Option VFun:=getA none (tab.map fun x=>(x.1,some x.2)) f
theorem tab_ok:tab.all (fun x=>matchFun Tryd.prog x.1 x.2)=true:=by kernel_rfl
theorem F_mem {f:FuncId} {fn:VFun}:∀ {l:List (Nat × VFun)},getA none (l.map fun x=>(x.1,some x.2)) f=some fn→(f,fn)∈l
  |[],h=>by simp[getA] at h
  |(k,v)::l,h=>by
    simp only[List.map_cons,getA] at h
    split at h
    · rename_i e
      injection h with h
      subst e; subst h
      exact List.mem_cons_self ..
    · exact List.mem_cons_of_mem _ (F_mem h)
theorem F_ok (f:FuncId) (fn:VFun) (h:F f=some fn):matchFun Tryd.prog f fn=true:=List.all_eq_true.1 tab_ok _ (F_mem h)
end Go.Proofs.YtihjlmgakpgkeaaDoor.Journals
