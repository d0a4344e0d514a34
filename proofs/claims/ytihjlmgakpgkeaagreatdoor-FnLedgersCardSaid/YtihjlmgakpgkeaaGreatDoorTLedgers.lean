/- V's text of the functions that this law reaches. -/
import Derived.Test.YtihjlmgakpgkeaaGreatDoorVCode
import Derived.Test.YtihjlmgakpgkeaaGreatDoorRows
import Derived.KernelRfl
namespace Go.Proofs.YtihjlmgakpgkeaaGreatDoor.Ledgers
open Go Go.Proofs.YtihjlmgakpgkeaaGreatDoor.V
set_option maxRecDepth 20000
def vo (d:Nat) (x:VOp):VO:=⟨some d,x,none,[]⟩
def wo (l:List Nat) (d:Nat) (x:VOp):VO:=⟨some d,x,none,l⟩
def vn (x:VOp):VO:=⟨none,x,none,[]⟩
def mv (d x:Nat):VO:=vo d (.mov (.t x))
def ld (d t x:Nat):VO:=vo d (.load t false 1 (.t x))
def sg (d x:Nat):VO:=vo d (.asg (.t x))
def og (d:Nat) (x:VOp) (g:Nat) (b:Bool):VO:=⟨some d,x,some (g,b),[]⟩
def ci (x:Int):VX:=.c (.int .i64 x)
def rg (k:List Nat) (o:List VO):VC:=.region false k o
def cl (d f:Nat) (l:List Nat):VO:=vo d (.call f (l.map .t))
def tA (a:List Nat) (b c:Nat):VO:=wo a b (.mov (.t c))
def tB (a:Nat):VO:=vo a (.asg (ci 0))
def tC (a b:Nat):VO:=vn (.store 31 10 (.t a) (.t b))
def tD (a b:Nat):VO:=vo a (.load 27 true 8 (.t b))
def tE (a b:Nat):VO:=vo a (.nilc (.t b))
def tF (a b c:Nat):VO:=vo a (.pick (.t b) (.c (.bool true)) (.t c))
def tG (a b:Nat):VO:=vo a (.fa 27 3 3 1 (.t b))
def tH (a b c:Nat):VO:=vo a (.ia 24 63 2 (.t b) (.t c))
def tI (a b c:Nat):VO:=vo a (.bin false .lss 3 (.t b) (.t c))
def tJ (a b:Nat):VO:=vo a (.bin false .add 3 (.t b) (ci 1))
def tK (a:Nat):VO:=vo a (.asg (.c (.bool false)))
def tL (a:List Nat) (b c:Nat):VO:=wo a b (.load 2 false 1 (.t c))
def tM (a b:Nat):VO:=vo a (.len false 24 (.t b))
def tN (a b c:Nat):VO:=vo a (.pick (.t b) (.t c) (.c (.bool false)))
def tO (a b:Nat):VO:=vo a (.un .not (.t b))
def tP (a b c:Nat):VO:=vo a (.bin false .add 2 (.t b) (.t c))
def tQ (a b:Nat):VO:=vn (.store 27 8 (.t a) (.t b))
def tR (a:Nat):VO:=vo a (.alloc 27 [(.val (.int .i64 0)),(.val (.int .i64 0)),(.nl 2),(.nl 5),(.nl 2),(.val (.int .i64 0)),(.val (.int .i64 0)),(.val (.int .i64 0))])
def tS (a b:Nat):VO:=vo a (.fa 63 1 1 1 (.t b))
def tT (a:Nat):VO:=vo a (.alloc 31 [(.val (.int .i64 0)),(.val (.int .i64 0)),(.val (.int .i64 0)),(.val (.int .i64 0)),(.nl 2),(.nl 5),(.nl 2),(.val (.int .i64 0)),(.val (.int .i64 0)),(.val (.int .i64 0))])
def tU (a b:Nat):VO:=vo a (.box 27 (.t b))
def tV (a:List Nat) (b c:Nat):VO:=wo a b (.nilc (.t c))
def tW (a b c:Nat):VO:=vo a (.ia 25 41 5 (.t b) (.t c))
def tX (a b:Nat):VO:=vo a (.fa 27 4 4 1 (.t b))
def tY (a b:Nat):VO:=vn (.store 2 1 (.t a) (.t b))
def tZ (a:Nat):VO:=vo a (.mov (ci 0))
def tAA (a b:Nat):VO:=vo a (.len false 25 (.t b))
def tAB (a b:Nat):VO:=vo a (.bin false .neq 2 (.t b) (ci 0))
def tAC (a b:Nat):VO:=vo a (.load 41 true 5 (.t b))
def tAD (a b:Nat):VO:=vo a (.fa 27 2 2 1 (.t b))
def tAE (a b:Nat):VO:=vo a (.load 63 true 2 (.t b))
def tAF (a b:Nat):VO:=vo a (.fa 41 4 4 1 (.t b))
def tAG (a b:Nat):VO:=vn (.store 24 1 (.t a) (.t b))
def tAH (a b c:Nat):VO:=vo a (.app 24 63 2 24 (.t b) (.t c))
def tAI (a b:Nat):VO:=vo a (.fa 63 0 0 1 (.t b))
def tAJ (a:Nat):VO:=vo a (.asg (.n 2))
def tAK (a b:Nat):VO:=vo a (.fa 41 3 3 1 (.t b))
def tAL (a:Nat):VO:=vo a (.alloc 41 [(.val (.int .i64 0)),(.val (.int .i64 0)),(.val (.int .i64 0)),(.nl 2),(.val (.int .i64 0))])
def tAM (a b:Nat):VO:=vn (.store 41 5 (.t a) (.t b))
def tAN (a b:Nat):VO:=vo a (.bin false .geq 3 (.t b) (ci 0))
def tAO (a b:Nat):VO:=vo a (.fa 27 0 0 1 (.t b))
def tAP (a:Nat):VO:=vo a (.asg (ci 3))
def tAQ (a:List Nat) (b c:Nat):VO:=wo a b (.fa 63 1 1 1 (.t c))
def tAR (a b:Nat):VO:=vo a (.fa 41 0 0 1 (.t b))
def tAS (a:Nat):VO:=vo a (.lit 24 63 2 0 [(.val (.string (⟨#[]⟩:ByteArray))),(.val (.int .i64 0))] [])
def tAT (a b:Nat):VO:=vo a (.bin false .eql 2 (.t b) (ci 2))
def tAU (a b:Nat):VO:=vo a (.ext (.t b) 0)
def tAV (a b c:Nat):VO:=vo a (.bin false .eql 2 (.t b) (.t c))
def tAW (a b:Nat):VO:=vo a (.bin false .eql 2 (.t b) (ci 0))
def tAX (a:Nat):VO:=vo a (.asg (ci 1))
def tAY (a:Nat):VO:=vo a (.asg (ci 7))
def tAZ (a:Nat):VO:=vo a (.alloc 63 [(.val (.string (⟨#[]⟩:ByteArray))),(.val (.int .i64 0))])
def tBA (a b:Nat):VO:=vn (.store 63 2 (.t a) (.t b))
def tBB (a b c:Nat):VO:=vo a (.ia 78 2 1 (.t b) (.t c))
def tBC (a:List Nat) (b c d:Nat):VO:=wo a b (.ia 24 63 2 (.t c) (.t d))
def tBD (a b:Nat):VO:=vo a (.fa 31 2 2 8 (.t b))
def tBE (a b:Nat):VO:=vo a (.ext (.t b) 1)
def tBF (a b:Nat):VO:=vo a (.box 2 (.t b))
def tBG (a:List Nat) (b c d:Nat):VO:=wo a b (.bin false .add 2 (.t c) (.t d))
def tBH (a b:Nat):VO:=vo a (.fa 27 6 6 1 (.t b))
def tBI (a b:Nat):VO:=vn (.store 25 1 (.t a) (.t b))
def tBJ (a b:Nat):VO:=vo a (.bin false .lss 3 (.t b) (ci 0))
def tBK (a:List Nat) (b c:Nat):VO:=wo a b (.fa 41 2 2 1 (.t c))
def tBL (a b:Nat):VO:=vo a (.fa 27 7 7 1 (.t b))
def tBM (a b:Nat):VO:=vo a (.len false 78 (.t b))
def tBN (a b c:Nat):VO:=vo a (.bin false .mul 2 (.t b) (.t c))
def tBO (a:Nat):VO:=vo a (.asg (ci ((-1))))
def tBP (a:Nat):VO:=vo a (.asg (.c (.bool true)))
def tBQ (a:List Nat) (b c:Nat):VO:=wo a b (.fa 27 3 3 1 (.t c))
def tBR (a:List Nat) (b c:Nat):VO:=wo a b (.load 25 false 1 (.t c))
def tBS (a b c:Nat):VO:=vo a (.bin false .gtr 2 (.t b) (.t c))
def tBT (a:List Nat) (b c:Nat):VO:=wo a b (.fa 27 6 6 1 (.t c))
def tBU (a b:Nat):VO:=vo a (.bin false .eql 2 (.t b) (ci 3))
def tBV (a b c:Nat):VO:=vo a (.app 25 41 5 56 (.t b) (.t c))
def tBW (a b:Nat):VO:=vo a (.bin false .add 2 (.t b) (ci 1))
def tBX (a b:Nat):VO:=vo a (.bin false .sub 2 (.t b) (ci 1))
def tBY (a b c:Nat):VO:=vo a (.bin false .rem 2 (.t b) (.t c))
def tBZ (a b:Nat):VO:=vo a (.fa 41 2 2 1 (.t b))
def tCA (a b c:Nat):VO:=vo a (.bin false .sub 2 (.t b) (.t c))
def tCB (a:List Nat) (b c:Nat):VO:=wo a b (.load 24 false 1 (.t c))
def tCC (a:Nat):VO:=vo a (.call 37 [(ci 7)])
def tCD (a b:Nat):VO:=og a (.mov (.t b)) 10 true
def tCE (a b:Nat):VO:=og a (.mov (.t b)) 15 false
def tCF (a b:Nat):VO:=og a (.mov (.t b)) 34 false
def tCG (a b c:Nat):VO:=vo a (.bin false .neq 2 (.t b) (.t c))
def tCH (a:Nat):VO:=vo a (.call 30 [(.t 10),(.t 11)])
def tCI (a b:Nat):VO:=og a (.fa 27 7 7 1 (.t b)) 32 true
def tCJ (a b:Nat):VO:=og a (.load 2 false 1 (.t b)) 32 true
def tCK (a b:Nat):VO:=vo a (.bin false .eql 2 (.t b) (ci 1))
def tCL (a b c:Nat):VO:=vo a (.bin false .quo 2 (.t b) (.t c))
def tCM (a b:Nat):VO:=vo a (.bin false .gtr 3 (.t b) (ci 12))
def tCN (a b:Nat):VO:=vo a (.bin false .gtr 2 (.t b) (ci 0))
def tCO (a b:Nat):VO:=og a (.load 2 false 1 (.t b)) 15 false
def tCP (a:Nat):VO:=vo a (.build 31 [(.val (.int .i64 0)),(.val (.int .i64 0)),(.val (.int .i64 0)),(.val (.int .i64 0)),(.nl 2),(.nl 5),(.nl 2),(.val (.int .i64 0)),(.val (.int .i64 0)),(.val (.int .i64 0))] [(0,0,1,(ci 3))])
def tCQ (a:Nat):VO:=vo a (.build 31 [(.val (.int .i64 0)),(.val (.int .i64 0)),(.val (.int .i64 0)),(.val (.int .i64 0)),(.nl 2),(.nl 5),(.nl 2),(.val (.int .i64 0)),(.val (.int .i64 0)),(.val (.int .i64 0))] [(2,2,8,(.t 12))])
def tCR (a:List Nat) (b:Nat):VO:=wo a b (.lit 78 2 1 2 [(.val (.int .i64 0))] [(0,(ci 0)),(1,(ci 5))])
def tCS (a b:Nat):VO:=vo a (.bin false .eql 9 (.t b) (.c (.string (⟨#[]⟩:ByteArray))))
def tCT (a b c d e f g:Nat):VO:=og a (.fa b c d e (.t f)) g false
def tCU (a b c d e:Nat):VO:=og a (.load b false c (.t d)) e false
def tCV (a b c d e f g:Nat):VO:=og a (.fa b c d e (.t f)) g true
def tCW (a b c d e:Nat):VO:=og a (.load b false c (.t d)) e true
def tCX (a b c:Nat):VO:=og a (.mov (.t b)) c false
def tCY (a b c:Nat):VO:=og a (.un .not (.t b)) c false
def tCZ (a b c d e f:Nat):VO:=vo a (.fa b c d e (.t f))
def tDA (a:List Nat) (b c d e f g:Nat):VO:=wo a b (.fa c d e f (.t g))
def tDB (a b c:Nat):VO:=og a (.mov (.t b)) c true
def tDC (a b c d e:Nat):VO:=og a (.bin false .eql b (.t c) (.t d)) e true
def tDD (a b c:Nat):VO:=vo a (.box b (.t c))
def tDE (a b c:Nat):VO:=og a (.nilc (.t b)) c false
def tDF (a b c d e:Nat):VO:=og a (.load b true c (.t d)) e true
def tDG (a b:Nat):VO:=vo a (.call b [(.t 12)])
def tDH (a b c d e:Nat):VO:=og a (.bin false .neq b (.t c) (.t d)) e false
def tDI (a b:Nat):VO:=vo a (.call b [(.t 5),(.t 6)])
def tDJ (a b c d:Nat):VO:=og a (.pick (.t b) (.t c) (.c (.bool false))) d false
def tDK (a b c:Nat):VO:=og a (.nilc (.t b)) c true
def tDL (a b c d e f g:Nat):VO:=og a (.ia b c d (.t e) (.t f)) g false
def tDM (a b c d:Nat):VO:=og a (.bin false .eql b (.t c) (ci 0)) d false
def tDN (a b c d:Nat):VO:=og a (.pick (.t b) (.c (.bool true)) (.t c)) d true
def tDO (a b c d:Nat):VO:=og a (.len false b (.t c)) d false
def tDP (a b c d:Nat):VO:=og a (.bin false .neq b (.t c) (ci 0)) d true

def b3_0:VC:=
 (.seq
 (.seq
 (rg [3,4,5,16,17,169] [
 mv 164 17,
 tBD 165 5,
 tG 166 165,
 ld 167 25 166,
 tAA 168 167,
 tI 169 164 168])
 (.cond (.t 169)
 .skip
 (.exit 0)))
 (.seq
 (.block 1
 (.seq
 (rg [3,4,5,16,17,179] [
 tBD 172 5,
 tG 173 172,
 ld 174 25 173,
 mv 175 17,
 tW 176 174 175,
 tAF 177 176,
 ld 178 2 177,
 tAT 179 178])
 (.cond (.t 179)
 (rg [3,4,5,16,17] [
 mv 180 16,
 tBD 181 5,
 tG 182 181,
 ld 183 25 182,
 mv 184 17,
 tW 185 183 184,
 tCZ 186 41 1 1 1 185,
 ld 187 2 186,
 tP 188 180 187,
 sg 16 188])
 .skip)))
 (rg [3,4,5,16,17] [
 mv 170 17,
 tJ 171 170,
 sg 17 171])))
def l3_0:VC:=.loop b3_0
def v3 : VFun := {
 code:=
 (.seq
 (rg [0] [
 tK 2])
 (.seq
 (.seq
 (rg [0,20] [
 mv 19 0,
 cl 20 4 [19]])
 (.cond (.t 20)
 (.seq
 (rg [2] [
 tBP 2])
 .ret)
 .skip))
 (.seq
 (rg [0,3,4] [
 mv 22 0,
 cl 23 5 [22],
 mv 21 23,
 tAU 24 21,
 tBE 25 21,
 tR 3,
 tQ 3 24,
 sg 4 25])
 (.seq
 (rg [0,3,4,5] [
 tD 26 3,
 mv 27 4,
 cl 28 6 [26,27],
 tT 5,
 tC 5 28])
 (.seq
 (rg [0,3,4,5,6,7] [
 mv 30 0,
 cl 31 7 [30],
 mv 29 31,
 tAU 32 29,
 tBE 33 29,
 tR 6,
 tQ 6 32,
 sg 7 33])
 (.seq
 (rg [0,3,4,5,6,7,8] [
 tD 34 6,
 mv 35 7,
 cl 36 8 [34,35],
 tT 8,
 tC 8 36])
 (.seq
 (rg [0,3,4,5,6,7,8,9,10,11] [
 mv 38 0,
 cl 39 9 [38],
 mv 37 39,
 tAU 40 37,
 tBE 41 37,
 vo 42 (.ext (.t 37) 2),
 tR 9,
 tQ 9 40,
 sg 10 41,
 sg 11 42])
 (.seq
 (rg [0,3,4,5,6,7,8,9,10,11,12] [
 tD 43 9,
 mv 44 10,
 mv 45 11,
 cl 46 10 [43,44,45],
 tT 12,
 tC 12 46])
 (.seq
 (rg [3,4,5,6,7,8,9,10,11,12,13,14] [
 mv 48 0,
 cl 49 11 [48],
 mv 47 49,
 tAU 50 47,
 tBE 51 47,
 sg 13 50,
 sg 14 51])
 (.seq
 (rg [3,4,5,6,7,8,9,10,11,12,13,14,15] [
 mv 52 13,
 mv 53 14,
 cl 54 12 [52,53],
 tT 15,
 tC 15 54])
 (.seq
 (.seq
 (.region true [3,4,5,146] [
 tCZ 55 31 0 0 1 8,
 ld 56 2 55,
 wo [0,1] 57 (.load 27 true 8 (.t 6)),
 tA [0,1,2] 58 7,
 wo [0,1] 59 (.call 13 [(.t 57),(.t 58)]),
 wo [0,1] 60 (.fld 31 0 0 1 false (.t 59)),
 tCG 61 56 60,
 mv 62 61,
 tCT 63 31 0 0 1 8 62,
 tCU 64 2 1 63 62,
 tDM 65 2 64 62,
 tCX 66 65 62,
 tCV 67 31 2 2 8 8 66,
 tDF 68 27 8 67 66,
 og 69 (.call 14 [(.t 68)]) 66 true,
 tDP 70 2 69 66,
 tDB 71 70 66,
 tCT 72 31 2 2 8 8 71,
 tCT 73 27 7 7 1 72 71,
 tCU 74 2 1 73 71,
 ⟨some 75,.fa 27 7 7 1 (.t 6),some (71,false),[17,18,19]⟩,
 ⟨some 76,.load 2 false 1 (.t 75),some (71,false),[17,18,19]⟩,
 og 77 (.bin false .lss 2 (.t 74) (.t 76)) 71 false,
 tDN 78 71 77 66,
 tDB 79 78 66,
 tCT 80 31 2 2 8 8 79,
 og 81 (.load 27 true 8 (.t 80)) 79 false,
 ⟨some 82,.mov (.t 7),some (79,false),[25,26]⟩,
 og 83 (.call 8 [(.t 81),(.t 82)]) 79 false,
 og 84 (.fld 31 0 0 1 false (.t 83)) 79 false,
 og 85 (.bin false .neq 2 (.t 84) (ci 9)) 79 false,
 tDN 86 79 85 66,
 tDJ 87 66 86 62,
 tF 88 62 87,
 mv 89 88,
 tCT 90 31 0 0 1 12 89,
 tCU 91 2 1 90 89,
 ⟨some 92,.load 27 true 8 (.t 9),some (89,false),[35,36]⟩,
 ⟨some 93,.mov (.t 10),some (89,false),[35,36,37]⟩,
 ⟨some 94,.mov (.t 11),some (89,false),[35,36,37,38]⟩,
 ⟨some 95,.call 15 [(.t 92),(.t 93),(.t 94)],some (89,false),[35,36]⟩,
 ⟨some 96,.fld 31 0 0 1 false (.t 95),some (89,false),[35,36]⟩,
 tDH 97 2 91 96 89,
 tF 98 89 97,
 mv 99 98,
 tCT 100 31 0 0 1 12 99,
 tCU 101 2 1 100 99,
 tDM 102 2 101 99,
 tCX 103 102 99,
 tCV 104 31 2 2 8 12 103,
 tDF 105 27 8 104 103,
 og 106 (.call 14 [(.t 105)]) 103 true,
 tDP 107 2 106 103,
 tDB 108 107 103,
 tCT 109 31 2 2 8 12 108,
 og 110 (.load 27 true 8 (.t 109)) 108 false,
 og 111 (.call 16 [(.t 110)]) 108 false,
 ⟨some 112,.load 27 true 8 (.t 9),some (108,false),[54,55,56]⟩,
 og 113 (.call 16 [(.t 112)]) 108 false,
 tDH 114 2 111 113 108,
 tDN 115 108 114 103,
 tDB 116 115 103,
 tCT 117 31 2 2 8 12 116,
 og 118 (.load 27 true 8 (.t 117)) 116 false,
 ⟨some 119,.mov (.t 10),some (116,false),[62,63]⟩,
 ⟨some 120,.mov (.t 11),some (116,false),[62,63,64]⟩,
 og 121 (.call 10 [(.t 118),(.t 119),(.t 120)]) 116 false,
 og 122 (.fld 31 0 0 1 false (.t 121)) 116 false,
 og 123 (.bin false .neq 2 (.t 122) (ci 6)) 116 false,
 tDN 124 116 123 103,
 tDJ 125 103 124 99,
 tF 126 99 125,
 mv 127 126,
 tCT 128 31 0 0 1 15 127,
 tCU 129 2 1 128 127,
 ⟨some 130,.mov (.t 13),some (127,false),[73,74]⟩,
 ⟨some 131,.mov (.t 14),some (127,false),[73,74,75]⟩,
 ⟨some 132,.call 17 [(.t 130),(.t 131)],some (127,false),[73,74]⟩,
 ⟨some 133,.fld 31 0 0 1 false (.t 132),some (127,false),[73,74]⟩,
 tDH 134 2 129 133 127,
 tF 135 127 134,
 mv 136 135,
 tCT 137 31 0 0 1 15 136,
 tCU 138 2 1 137 136,
 tDM 139 2 138 136,
 tCX 140 139 136,
 tCV 141 31 2 2 8 15 140,
 tDF 142 27 8 141 140,
 og 143 (.call 14 [(.t 142)]) 140 true,
 tDP 144 2 143 140,
 tDJ 145 140 144 136,
 tF 146 136 145])
 (.cond (.t 146)
 (.seq
 (rg [2] [
 tK 2])
 .ret)
 .skip))
 (.seq
 (.seq
 (rg [3,4,5,149] [
 tCZ 147 31 0 0 1 5,
 ld 148 2 147,
 tAB 149 148])
 (.cond (.t 149)
 (.seq
 (.region true [2] [
 tD 150 3,
 tA [0] 151 4,
 cl 152 18 [150,151],
 vo 153 (.fld 31 0 0 1 false (.t 152)),
 tDA [0,1,2,3] 154 31 0 0 1 5,
 tL [0,1,2,3] 155 154,
 tAV 156 153 155,
 mv 157 156,
 tDF 158 27 8 3 157,
 og 159 (.call 14 [(.t 158)]) 157 true,
 ⟨some 160,.load 27 true 8 (.t 3),some (157,true),[8,9]⟩,
 og 161 (.call 19 [(.t 160)]) 157 true,
 tDC 162 2 159 161 157,
 tN 163 157 162,
 sg 2 163])
 .ret)
 .skip))
 (.seq
 (rg [3,4,5,16] [
 tB 16])
 (.seq
 (.seq
 (rg [3,4,5,16,17] [
 tB 17])
 (.block 0
 l3_0))
 (.seq
 (rg [3,4,16,18] [
 tBD 189 5,
 tD 190 189,
 tR 18,
 tQ 18 190])
 (.seq
 (.region true [2] [
 tD 191 18,
 cl 192 14 [191],
 tAW 193 192,
 mv 194 193,
 tDF 195 27 8 18 194,
 og 196 (.call 16 [(.t 195)]) 194 true,
 ⟨some 197,.fa 27 6 6 1 (.t 18),some (194,true),[4,5]⟩,
 ⟨some 198,.load 2 false 1 (.t 197),some (194,true),[4,5]⟩,
 og 199 (.bin false .add 2 (.t 196) (.t 198)) 194 true,
 ⟨some 200,.fa 27 5 5 1 (.t 18),some (194,true),[4,5,6,7,8]⟩,
 ⟨some 201,.load 2 false 1 (.t 200),some (194,true),[4,5,6,7,8]⟩,
 og 202 (.bin false .add 2 (.t 199) (.t 201)) 194 true,
 ⟨some 203,.mov (.t 16),some (194,true),[4,5,6,7,8,9,10,11]⟩,
 ⟨some 204,.fa 27 7 7 1 (.t 18),some (194,true),[4,5,6,7,8,9,10,11,12]⟩,
 ⟨some 205,.load 2 false 1 (.t 204),some (194,true),[4,5,6,7,8,9,10,11,12]⟩,
 ⟨some 206,.bin false .add 2 (.t 203) (.t 205),some (194,true),[4,5,6,7,8,9,10,11]⟩,
 tDC 207 2 202 206 194,
 tN 208 194 207,
 mv 209 208,
 tCV 210 27 5 5 1 18 209,
 tCW 211 2 1 210 209,
 ⟨some 212,.fa 27 5 5 1 (.t 3),some (209,true),[19,20]⟩,
 ⟨some 213,.load 2 false 1 (.t 212),some (209,true),[19,20]⟩,
 tDC 214 2 211 213 209,
 tN 215 209 214,
 mv 216 215,
 tCV 217 27 7 7 1 18 216,
 tCW 218 2 1 217 216,
 ⟨some 219,.fa 27 7 7 1 (.t 3),some (216,true),[26,27]⟩,
 ⟨some 220,.load 2 false 1 (.t 219),some (216,true),[26,27]⟩,
 tDC 221 2 218 220 216,
 tN 222 216 221,
 mv 223 222,
 tDF 224 27 8 18 223,
 ⟨some 225,.mov (.t 4),some (223,true),[33]⟩,
 og 226 (.call 6 [(.t 224),(.t 225)]) 223 true,
 og 227 (.fld 31 0 0 1 false (.t 226)) 223 true,
 og 228 (.bin false .eql 2 (.t 227) (ci 9)) 223 true,
 tN 229 223 228,
 mv 230 229,
 tDF 231 27 8 18 230,
 ⟨some 232,.load 27 true 8 (.t 3),some (230,true),[40]⟩,
 ⟨some 233,.mov (.t 4),some (230,true),[40,41]⟩,
 ⟨some 234,.call 18 [(.t 232),(.t 233)],some (230,true),[40]⟩,
 ⟨some 235,.fld 31 2 2 8 true (.t 234),some (230,true),[40]⟩,
 og 236 (.call 20 [(.t 231),(.t 235)]) 230 true,
 tN 237 230 236,
 sg 2 237])
 .ret))))))))))))))))
 modes:=[.lend]
 rets:=[⟨2,none⟩]}

def v4 : VFun := {
 code:=
 (.seq
 (rg [0] [
 tK 2])
 (.seq
 (rg [2] [
 mv 3 0,
 vo 4 (.len false 22 (.t 3)),
 vo 5 (.bin false .gtr 3 (.t 4) (ci 1048576)),
 sg 2 5])
 .ret))
 modes:=[.lend]
 rets:=[⟨2,none⟩]}

def v5 : VFun := {
 code:=
 (.seq
 (rg [0,2] [
 tR 2,
 tB 3])
 (.seq
 (rg [2,4,6] [
 mv 5 0,
 cl 6 21 [5],
 sg 4 6])
 (.seq
 (rg [2,3] [
 mv 7 4,
 cl 8 22 [7],
 mv 9 4,
 vo 10 (.call 23 [(.t 9),(ci 6)]),
 tQ 2 8,
 sg 3 10])
 .ret)))
 modes:=[.lend]
 rets:=[⟨2,some (true,8)⟩,⟨3,none⟩]}

def v6 : VFun := {
 code:=
 (.seq
 (rg [2,3,4] [
 tU 2 0,
 tBF 3 1,
 tT 4])
 (.seq
 (rg [4] [
 tD 5 2,
 vo 6 (.fn 25 [] [(.t 3)]),
 tDI 7 24,
 tC 4 7])
 .ret))
 modes:=[.lend,.lend]
 rets:=[⟨4,some (true,10)⟩]}

def v7 : VFun := {
 code:=
 (.seq
 (rg [0,2] [
 tR 2,
 tB 3])
 (.seq
 (rg [2,3] [
 mv 4 0,
 cl 5 5 [4],
 tAU 6 5,
 tBE 7 5,
 tQ 2 6,
 sg 3 7])
 .ret))
 modes:=[.lend]
 rets:=[⟨2,some (true,8)⟩,⟨3,none⟩]}

def v8 : VFun := {
 code:=
 (.seq
 (rg [2,3,4] [
 tU 2 0,
 tBF 3 1,
 tT 4])
 (.seq
 (rg [4] [
 tD 5 2,
 vo 6 (.fn 28 [] [(.t 3)]),
 tDI 7 24,
 tC 4 7])
 .ret))
 modes:=[.lend,.lend]
 rets:=[⟨4,some (true,10)⟩]}

def v9 : VFun := {
 code:=
 (.seq
 (rg [0,2] [
 tR 2,
 tB 3,
 tB 4])
 (.seq
 (rg [2,5,7] [
 mv 6 0,
 cl 7 21 [6],
 sg 5 7])
 (.seq
 (rg [2,3,4] [
 mv 8 5,
 cl 9 22 [8],
 mv 10 5,
 vo 11 (.lit 78 2 1 5 [(.val (.int .i64 0))] [(0,(ci 0)),(1,(ci 1)),(2,(ci 7)),(3,(ci 8)),(4,(ci ((-1))))]),
 tCH 12,
 mv 13 5,
 vo 14 (.lit 78 2 1 5 [(.val (.int .i64 0))] [(0,(ci 50)),(1,(ci 0)),(2,(ci 999999)),(3,(ci 1000000)),(4,(ci 1000001))]),
 cl 15 30 [13,14],
 tQ 2 9,
 sg 3 12,
 sg 4 15])
 .ret)))
 modes:=[.lend]
 rets:=[⟨2,some (true,8)⟩,⟨3,none⟩,⟨4,none⟩]}

def v10 : VFun := {
 code:=
 (.seq
 (rg [3,4,5,6] [
 tU 3 0,
 tBF 4 1,
 tBF 5 2,
 tT 6])
 (.seq
 (rg [6] [
 tD 7 3,
 vo 8 (.fn 31 [] [(.t 4),(.t 5)]),
 cl 9 24 [7,8],
 tC 6 9])
 .ret))
 modes:=[.lend,.lend,.lend]
 rets:=[⟨6,some (true,10)⟩]}

def v11 : VFun := {
 code:=
 (.seq
 (rg [0] [
 tB 2,
 tB 3])
 (.seq
 (rg [4,6] [
 mv 5 0,
 cl 6 21 [5],
 sg 4 6])
 (.seq
 (rg [2,3] [
 mv 7 4,
 vo 8 (.lit 78 2 1 4 [(.val (.int .i64 0))] [(0,(ci 1)),(1,(ci 12)),(2,(ci 13)),(3,(ci 0))]),
 cl 9 30 [7,8],
 mv 10 4,
 vo 11 (.lit 78 2 1 3 [(.val (.int .i64 0))] [(0,(ci 0)),(1,(ci 1000)),(2,(ci 1001))]),
 tCH 12,
 sg 2 9,
 sg 3 12])
 .ret)))
 modes:=[.lend]
 rets:=[⟨2,none⟩,⟨3,none⟩]}

def v12 : VFun := {
 code:=
 (.seq
 (rg [0,1,4] [
 tT 4])
 (.seq
 (.seq
 (rg [0,1,4,8] [
 mv 5 0,
 mv 6 1,
 tDI 7 35,
 tO 8 7])
 (.cond (.t 8)
 (.seq
 (rg [4] [
 tCP 9,
 tC 4 9])
 .ret)
 .skip))
 (.seq
 (rg [4] [
 mv 10 0,
 mv 11 1,
 vo 12 (.build 27 [(.val (.int .i64 0)),(.val (.int .i64 0)),(.nl 2),(.nl 5),(.nl 2),(.val (.int .i64 0)),(.val (.int .i64 0)),(.val (.int .i64 0))] [(0,0,1,(.t 10)),(1,1,1,(.t 11))]),
 tCQ 13,
 tC 4 13])
 .ret)))
 modes:=[.lend,.lend]
 rets:=[⟨4,some (true,10)⟩]}

def v13 : VFun := {
 code:=
 (.seq
 (rg [1,2,4] [
 tU 2 0,
 tT 4])
 (.seq
 (.seq
 (rg [1,2,4,5] [
 cl 6 36 [2],
 sg 5 6])
 (.seq
 (rg [1,2,4,5,8] [
 mv 7 5,
 tAB 8 7])
 (.cond (.t 8)
 (.seq
 (rg [4] [
 mv 9 5,
 cl 10 37 [9],
 tC 4 10])
 .ret)
 .skip)))
 (.seq
 (rg [4] [
 tD 11 2,
 mv 12 1,
 cl 13 38 [11,12],
 tC 4 13])
 .ret)))
 modes:=[.lend,.lend]
 rets:=[⟨4,some (true,10)⟩]}

def b14_0:VC:=
 (.seq
 (rg [1,56,57,58,59] [
 tI 59 58 57])
 (.seq
 (.cond (.t 59)
 .skip
 (.exit 0))
 (.seq
 (.block 1
 (.seq
 (rg [1,4,5,56,57,58] [
 mv 60 58,
 tW 61 56 58,
 tAC 62 61,
 tAL 5,
 sg 4 60,
 tAM 5 62])
 (.seq
 (.region true [1,6,56,57,58] [
 tAC 63 5,
 tBQ [0] 64 1,
 tBR [0] 65 64,
 tA [0,1,2] 66 4,
 wo [0] 67 (.cut 25 (some 41) 5 (.t 65) none (some (.t 66))),
 cl 68 40 [63,67],
 sg 6 68])
 (.seq
 (rg [1,6,56,57,58,70] [
 mv 69 6,
 tAB 70 69])
 (.cond (.t 70)
 (.seq
 (rg [2] [
 mv 71 6,
 sg 2 71])
 .ret)
 .skip)))))
 (rg [1,56,57,58] [
 tJ 72 58,
 mv 58 72]))))
def l14_0:VC:=.loop b14_0
def v14 : VFun := {
 code:=
 (.seq
 (rg [1] [
 tU 1 0,
 tB 2])
 (.seq
 (.seq
 (rg [1,30] [
 tAO 7 1,
 ld 8 2 7,
 tCZ 9 27 1 1 1 1,
 ld 10 2 9,
 cl 11 35 [8,10],
 tO 12 11,
 mv 13 12,
 tCT 14 27 5 5 1 1 13,
 tCU 15 2 1 14 13,
 og 16 (.call 29 [(.t 15)]) 13 false,
 tCY 17 16 13,
 tF 18 13 17,
 mv 19 18,
 tCT 20 27 6 6 1 1 19,
 tCU 21 2 1 20 19,
 og 22 (.call 29 [(.t 21)]) 19 false,
 tCY 23 22 19,
 tF 24 19 23,
 mv 25 24,
 tCT 26 27 7 7 1 1 25,
 tCU 27 2 1 26 25,
 og 28 (.call 29 [(.t 27)]) 25 false,
 tCY 29 28 25,
 tF 30 25 29])
 (.cond (.t 30)
 (.seq
 (rg [2] [
 tAP 2])
 .ret)
 .skip))
 (.seq
 (.seq
 (rg [1,3] [
 tAD 31 1,
 ld 32 24 31,
 cl 33 39 [32],
 sg 3 33])
 (.seq
 (rg [1,3,35] [
 mv 34 3,
 tAB 35 34])
 (.cond (.t 35)
 (.seq
 (rg [2] [
 mv 36 3,
 sg 2 36])
 .ret)
 .skip)))
 (.seq
 (.seq
 (rg [1,54] [
 tAD 37 1,
 ld 38 24 37,
 tM 39 38,
 tAO 40 1,
 ld 41 2 40,
 tBS 42 39 41,
 mv 43 42,
 tCT 44 27 3 3 1 1 43,
 tCU 45 25 1 44 43,
 tDO 46 25 45 43,
 og 47 (.bin false .gtr 3 (.t 46) (ci 6)) 43 false,
 tF 48 43 47,
 mv 49 48,
 tCT 50 27 4 4 1 1 49,
 tCU 51 24 1 50 49,
 tDO 52 24 51 49,
 og 53 (.bin false .gtr 3 (.t 52) (ci 8)) 49 false,
 tF 54 49 53])
 (.cond (.t 54)
 (.seq
 (rg [2] [
 vo 2 (.asg (ci 2))])
 .ret)
 .skip))
 (.seq
 (.seq
 (rg [1,56,57,58] [
 tG 55 1,
 ld 56 25 55,
 tAA 57 56,
 tZ 58])
 (.block 0
 l14_0))
 (.seq
 (.block 2
 (.seq
 (rg [1,73] [
 tX 74 1,
 ld 75 24 74,
 vo 76 (.call 41 [(.t 75),(ci 8)]),
 tO 77 76,
 sg 73 77])
 (.cond (.t 73)
 (.seq
 (rg [2] [
 tAX 2])
 .ret)
 (.seq
 (.region true [78] [
 tX 79 1,
 ld 80 24 79,
 cl 81 42 [80],
 tBT [0,1,2] 82 1,
 tL [0,1,2] 83 82,
 tP 84 81 83,
 tDA [0,1,2,3,4,5] 85 27 5 5 1 1,
 tL [0,1,2,3,4,5] 86 85,
 tP 87 84 86,
 tBQ [0,1,2,3,4,5,6,7,8] 88 1,
 tBR [0,1,2,3,4,5,6,7,8] 89 88,
 wo [3,4,5,6,7,8] 90 (.call 33 [(.t 89),(ci 2)]),
 tDA [0,1,2,3,4,5,6,7,8,9,10,11] 91 27 7 7 1 1,
 tL [0,1,2,3,4,5,6,7,8,9,10,11] 92 91,
 tBG [3,4,5,6,7,8] 93 90 92,
 tCG 94 87 93,
 mv 95 94,
 tCT 96 27 3 3 1 1 95,
 tCU 97 25 1 96 95,
 og 98 (.call 33 [(.t 97),(ci 0)]) 95 false,
 og 99 (.call 29 [(.t 98)]) 95 false,
 tCY 100 99 95,
 tF 101 95 100,
 sg 78 101])
 (.cond (.t 78)
 (.seq
 (rg [2] [
 tAY 2])
 .ret)
 .skip)))))
 (.seq
 (rg [2] [
 tB 2])
 .ret)))))))
 modes:=[.lend]
 rets:=[⟨2,none⟩]}

def v15 : VFun := {
 code:=
 (.seq
 (rg [1,2,3,6] [
 tU 3 0,
 tT 6])
 (.seq
 (.seq
 (rg [1,2,3,6,7] [
 cl 9 36 [3],
 sg 7 9])
 (.seq
 (rg [1,2,3,6,7,11] [
 mv 10 7,
 tAB 11 10])
 (.cond (.t 11)
 (.seq
 (rg [6] [
 mv 12 7,
 tDG 13 37,
 tC 6 13])
 .ret)
 .skip)))
 (.seq
 (rg [6,8] [
 tD 14 3,
 mv 15 1,
 mv 16 2,
 cl 17 43 [14,15,16],
 tT 8,
 tC 8 17])
 (.seq
 (rg [6,8] [
 tCZ 18 31 1 1 1 8,
 vn (.store 2 1 (.t 18) (ci 0))])
 (.seq
 (rg [6] [
 vo 19 (.load 31 true 10 (.t 8)),
 tC 6 19])
 .ret)))))
 modes:=[.lend,.lend,.lend]
 rets:=[⟨6,some (true,10)⟩]}

def b16_0:VC:=
 (.seq
 (.seq
 (rg [1,3,4,9] [
 mv 5 4,
 tX 6 1,
 ld 7 24 6,
 tM 8 7,
 tI 9 5 8])
 (.cond (.t 9)
 .skip
 (.exit 0)))
 (.seq
 (.block 1
 (rg [1,3,4] [
 mv 12 3,
 tX 13 1,
 ld 14 24 13,
 mv 15 4,
 tH 16 14 15,
 tS 17 16,
 ld 18 2 17,
 tP 19 12 18,
 sg 3 19]))
 (rg [1,3,4] [
 mv 10 4,
 tJ 11 10,
 sg 4 11])))
def l16_0:VC:=.loop b16_0
def v16 : VFun := {
 code:=
 (.seq
 (rg [1] [
 tU 1 0,
 tB 2])
 (.seq
 (rg [1,3] [
 tB 3])
 (.seq
 (.seq
 (rg [1,3,4] [
 tB 4])
 (.block 0
 l16_0))
 (.seq
 (rg [2] [
 mv 20 3,
 sg 2 20])
 .ret))))
 modes:=[.lend]
 rets:=[⟨2,none⟩]}

def v17 : VFun := {
 code:=
 (.seq
 (rg [0,1,4] [
 tT 4])
 (.seq
 (rg [4,5] [
 mv 6 0,
 mv 7 1,
 vo 8 (.build 27 [(.val (.int .i64 0)),(.val (.int .i64 0)),(.nl 2),(.nl 5),(.nl 2),(.val (.int .i64 0)),(.val (.int .i64 0)),(.val (.int .i64 0))] [(0,0,1,(.t 6)),(1,1,1,(.t 7))]),
 tR 5,
 tQ 5 8])
 (.seq
 (.seq
 (rg [4,5,10] [
 cl 9 44 [5],
 tO 10 9])
 (.cond (.t 10)
 (.seq
 (rg [4] [
 tCP 11,
 tC 4 11])
 .ret)
 .skip))
 (.seq
 (rg [4] [
 tD 12 5,
 tCQ 13,
 tC 4 13])
 .ret))))
 modes:=[.lend,.lend]
 rets:=[⟨4,some (true,10)⟩]}

def v18 : VFun := {
 code:=
 (.seq
 (rg [1,2,4] [
 tU 2 0,
 tT 4])
 (.seq
 (.seq
 (rg [1,2,4,5] [
 cl 6 36 [2],
 sg 5 6])
 (.seq
 (rg [1,2,4,5,8] [
 mv 7 5,
 tAB 8 7])
 (.cond (.t 8)
 (.seq
 (rg [4] [
 mv 9 5,
 cl 10 37 [9],
 tC 4 10])
 .ret)
 .skip)))
 (.seq
 (rg [4] [
 tD 11 2,
 mv 12 1,
 cl 13 45 [11,12],
 tC 4 13])
 .ret)))
 modes:=[.lend,.lend]
 rets:=[⟨4,some (true,10)⟩]}

def v19 : VFun := {
 code:=
 (.seq
 (rg [1] [
 tU 1 0,
 tB 2])
 (.seq
 (rg [2] [
 cl 3 36 [1],
 sg 2 3])
 .ret))
 modes:=[.lend]
 rets:=[⟨2,none⟩]}

def v20 : VFun := {
 code:=
 (.seq
 (rg [2,3] [
 tU 2 0,
 tU 3 1,
 tK 4])
 (.seq
 (rg [2,3,5] [
 tAO 6 2,
 ld 7 2 6,
 tAO 8 3,
 ld 9 2 8,
 tAV 10 7 9,
 mv 11 10,
 tCV 12 27 1 1 1 2 11,
 tCW 13 2 1 12 11,
 tCV 14 27 1 1 1 3 11,
 tCW 15 2 1 14 11,
 tDC 16 2 13 15 11,
 tN 17 11 16,
 mv 18 17,
 tCV 19 27 5 5 1 2 18,
 tCW 20 2 1 19 18,
 tCV 21 27 5 5 1 3 18,
 tCW 22 2 1 21 18,
 tDC 23 2 20 22 18,
 tN 24 18 23,
 mv 25 24,
 tCV 26 27 6 6 1 2 25,
 tCW 27 2 1 26 25,
 tCV 28 27 6 6 1 3 25,
 tCW 29 2 1 28 25,
 tDC 30 2 27 29 25,
 tN 31 25 30,
 mv 32 31,
 tCI 33 2,
 tCJ 34 33,
 tCI 35 3,
 tCJ 36 35,
 tDC 37 2 34 36 32,
 tN 38 32 37,
 sg 5 38])
 (.seq
 (rg [4] [
 mv 39 5,
 mv 40 39,
 tCV 41 27 2 2 1 2 40,
 tCW 42 24 1 41 40,
 tCV 43 27 2 2 1 3 40,
 tCW 44 24 1 43 40,
 og 45 (.call 46 [(.t 42),(.t 44)]) 40 true,
 tN 46 40 45,
 mv 47 46,
 tCV 48 27 3 3 1 2 47,
 tCW 49 25 1 48 47,
 tCV 50 27 3 3 1 3 47,
 tCW 51 25 1 50 47,
 og 52 (.call 47 [(.t 49),(.t 51),(.f 48)]) 47 true,
 tN 53 47 52,
 mv 54 53,
 tCV 55 27 4 4 1 2 54,
 tCW 56 24 1 55 54,
 tCV 57 27 4 4 1 3 54,
 tCW 58 24 1 57 54,
 og 59 (.call 46 [(.t 56),(.t 58)]) 54 true,
 tN 60 54 59,
 sg 4 60])
 .ret)))
 modes:=[.lend,.lend]
 rets:=[⟨4,none⟩]}

def v21 : VFun := {
 code:=
 (.seq
 (rg [0] [
 vo 2 (.asg (.c (.pointer none)))])
 (.seq
 (rg [2,5] [
 mv 3 0,
 vo 4 (.build 69 [(.nl 1),(.val (.int .i64 0))] [(0,0,1,(.t 3))]),
 tDD 5 69 4,
 sg 2 5])
 .ret))
 modes:=[.lend]
 rets:=[⟨2,none⟩]}

def v22 : VFun := {
 code:=
 (.seq
 (rg [0,2] [
 tR 2])
 (.seq
 (rg [0,2,3] [
 mv 4 0,
 cl 5 49 [4],
 tR 3,
 tQ 3 5])
 (.seq
 (.seq
 (rg [0,2,3,7] [
 mv 6 0,
 vo 7 (.call 23 [(.t 6),(ci 14)])])
 (.block 0
 (.seq
 (rg [0,2,3,7,8] [
 tAW 9 7,
 sg 8 9])
 (.cond (.t 8)
 (rg [0,2,3] [
 mv 10 0,
 vo 11 (.lit 78 2 1 3 [(.val (.int .i64 0))] [(0,(ci 0)),(1,(ci 1)),(2,(ci 13))]),
 tCH 12,
 tAO 13 3,
 tY 13 12])
 (.seq
 (rg [0,2,3,7,14] [
 tCK 15 7,
 sg 14 15])
 (.cond (.t 14)
 (rg [0,2,3] [
 mv 16 0,
 vo 17 (.lit 78 2 1 3 [(.val (.int .i64 0))] [(0,(ci ((-1)))),(1,(ci 3)),(2,(ci 1000001))]),
 cl 18 30 [16,17],
 tBH 19 3,
 tY 19 18])
 (.seq
 (rg [0,2,3,7,20] [
 tAT 21 7,
 sg 20 21])
 (.cond (.t 20)
 (rg [0,2,3] [
 mv 22 0,
 cl 23 50 [22],
 tAD 24 3,
 tAG 24 23])
 (.seq
 (rg [0,2,3,7,25] [
 tBU 26 7,
 sg 25 26])
 (.cond (.t 25)
 (.region true [0,2,3] [
 tX 27 3,
 ld 28 24 27,
 tA [0,1] 29 0,
 wo [0,1] 30 (.call 51 [(.t 29)]),
 tA [0,1,2,3] 31 0,
 tCR [0,1,2,3,4] 32,
 wo [0,1] 33 (.call 30 [(.t 31),(.t 32)]),
 wo [0,1] 34 (.build 63 [(.val (.string (⟨#[]⟩:ByteArray))),(.val (.int .i64 0))] [(0,0,1,(.t 30)),(1,1,1,(.t 33))]),
 wo [0,1] 35 (.lit 24 63 2 1 [(.val (.string (⟨#[]⟩:ByteArray))),(.val (.int .i64 0))] [(0,(.t 34))]),
 tAH 36 28 35,
 tX 37 3,
 tAG 37 36])
 (.seq
 (rg [0,2,3,38] [
 vo 39 (.bin false .eql 2 (.t 7) (ci 4)),
 sg 38 39])
 (.cond (.t 38)
 (.region true [0,2,3] [
 tG 40 3,
 ld 41 25 40,
 tA [0,1] 42 0,
 wo [0,1] 43 (.call 23 [(.t 42),(ci 5)]),
 tA [0,1,2,3] 44 0,
 wo [0,1,2,3,4] 45 (.lit 78 2 1 3 [(.val (.int .i64 0))] [(0,(ci 0)),(1,(ci 1)),(2,(ci 2))]),
 wo [0,1] 46 (.call 30 [(.t 44),(.t 45)]),
 tA [0,1,2,3,4,5,6] 47 0,
 tCR [0,1,2,3,4,5,6,7] 48,
 wo [0,1] 49 (.call 30 [(.t 47),(.t 48)]),
 wo [0,1] 50 (.build 41 [(.val (.int .i64 0)),(.val (.int .i64 0)),(.val (.int .i64 0)),(.nl 2),(.val (.int .i64 0))] [(0,0,1,(.t 43)),(4,4,1,(.t 46)),(1,1,1,(.t 49))]),
 wo [0,1] 51 (.lit 25 41 5 1 [(.val (.int .i64 0)),(.val (.int .i64 0)),(.val (.int .i64 0)),(.nl 2),(.val (.int .i64 0))] [(0,(.t 50))]),
 tBV 52 41 51,
 tG 53 3,
 tBI 53 52])
 .skip))))))))))))
 (.seq
 (rg [0,2] [
 tD 54 3,
 tQ 2 54])
 .ret))))
 modes:=[.io]
 rets:=[⟨2,some (true,8)⟩]}

def v23 : VFun := {
 code:=
 (.seq
 (rg [0,1] [
 tB 4])
 (.seq
 (rg [0,1] [
 mv 8 0,
 mv 9 0,
 tE 10 9,
 tCZ 11 69 1 1 1 10,
 ld 12 2 11,
 tBW 13 12,
 tE 14 8,
 tCZ 15 69 1 1 1 14,
 tY 15 13])
 (.seq
 (.seq
 (rg [0,1,17] [
 mv 16 1,
 vo 17 (.bin false .lss 2 (.t 16) (ci 1))])
 (.cond (.t 17)
 (.seq
 (rg [0,4] [
 tB 4])
 .ret)
 .skip))
 (.seq
 (rg [0,1,5] [
 mv 18 0,
 tE 19 18,
 tCZ 20 69 1 1 1 19,
 ld 21 2 20,
 tBX 22 21,
 sg 5 22])
 (.seq
 (rg [0,1,5,6] [
 mv 23 0,
 tE 24 23,
 tCZ 25 69 0 0 1 24,
 ld 26 22 25,
 vo 27 (.len false 22 (.t 26)),
 sg 6 27])
 (.seq
 (.seq
 (rg [0,1,5,6,29] [
 mv 28 6,
 tAW 29 28])
 (.cond (.t 29)
 (.seq
 (rg [0,4] [
 mv 30 5,
 vo 31 (.bin false .mul 2 (.t 30) (ci 7)),
 mv 32 1,
 tBY 33 31 32,
 sg 4 33])
 .ret)
 .skip))
 (.seq
 (.region true [0,1,5,6,7] [
 mv 34 0,
 tE 35 34,
 tCZ 36 69 0 0 1 35,
 ld 37 22 36,
 tA [0,1,2,3] 38 5,
 tA [0,1,2,3,4] 39 6,
 wo [0,1,2,3] 40 (.bin false .rem 2 (.t 38) (.t 39)),
 vo 41 (.ia 22 5 1 (.t 37) (.t 40)),
 ld 42 5 41,
 vo 43 (.conv 5 2 .i64 (.t 42)),
 tA [0,1,2,3,4,5,6,7,8,9] 44 5,
 tA [0,1,2,3,4,5,6,7,8,9,10] 45 6,
 wo [0,1,2,3,4,5,6,7,8,9] 46 (.bin false .quo 2 (.t 44) (.t 45)),
 wo [0,1,2,3,4,5,6,7,8,9] 47 (.bin false .mul 2 (.t 46) (ci 37)),
 tP 48 43 47,
 sg 7 48])
 (.seq
 (.seq
 (rg [0,1,5,6,7,50] [
 mv 49 1,
 vo 50 (.bin false .gtr 2 (.t 49) (ci 200))])
 (.cond (.t 50)
 (.region true [0,1,7] [
 mv 51 7,
 vo 52 (.bin false .mul 2 (.t 51) (ci 251)),
 tA [0,1] 53 0,
 tV [0,1] 54 53,
 tDA [0,1] 55 69 0 0 1 54,
 wo [0,1] 56 (.load 22 false 1 (.t 55)),
 tA [0,1,2,3,4,5] 57 5,
 wo [0,1,2,3,4,5] 58 (.bin false .add 2 (.t 57) (ci 1)),
 tA [0,1,2,3,4,5,6,7] 59 6,
 wo [0,1,2,3,4,5] 60 (.bin false .rem 2 (.t 58) (.t 59)),
 wo [0,1] 61 (.ia 22 5 1 (.t 56) (.t 60)),
 wo [0,1] 62 (.load 5 false 1 (.t 61)),
 wo [0,1] 63 (.conv 5 2 .i64 (.t 62)),
 wo [0,1] 64 (.bin false .mul 2 (.t 63) (ci 13)),
 tP 65 52 64,
 tA [0,1,2,3,4,5,6,7,8,9,10,11,12,13,14] 66 5,
 tP 67 65 66,
 sg 7 67])
 .skip))
 (.seq
 (rg [0,4] [
 mv 68 7,
 mv 69 1,
 tBY 70 68 69,
 sg 4 70])
 .ret)))))))))
 modes:=[.io,.lend]
 rets:=[⟨4,none⟩]}

def v24 : VFun := {
 code:=
 (.seq
 (rg [1,2,4] [
 tU 2 0,
 tT 4])
 (.seq
 (.seq
 (rg [1,2,4,5] [
 tD 8 2,
 cl 9 14 [8],
 sg 5 9])
 (.seq
 (rg [1,2,4,5,11] [
 mv 10 5,
 tAB 11 10])
 (.cond (.t 11)
 (.seq
 (rg [4] [
 mv 12 5,
 vo 13 (.build 31 [(.val (.int .i64 0)),(.val (.int .i64 0)),(.val (.int .i64 0)),(.val (.int .i64 0)),(.nl 2),(.nl 5),(.nl 2),(.val (.int .i64 0)),(.val (.int .i64 0)),(.val (.int .i64 0))] [(0,0,1,(.t 12))]),
 tC 4 13])
 .ret)
 .skip)))
 (.seq
 (rg [1,4,6] [
 tD 14 2,
 cl 15 52 [14],
 tR 6,
 tQ 6 15])
 (.seq
 (.seq
 (rg [4,6,7] [
 mv 16 1,
 vo 17 (.callv (.t 16) [(.t 6)]),
 sg 7 17])
 (.seq
 (rg [4,6,7,19] [
 mv 18 7,
 tAB 19 18])
 (.cond (.t 19)
 (.seq
 (rg [4] [
 mv 20 7,
 vo 21 (.build 31 [(.val (.int .i64 0)),(.val (.int .i64 0)),(.val (.int .i64 0)),(.val (.int .i64 0)),(.nl 2),(.nl 5),(.nl 2),(.val (.int .i64 0)),(.val (.int .i64 0)),(.val (.int .i64 0))] [(0,0,1,(.t 20))]),
 tC 4 21])
 .ret)
 .skip)))
 (.seq
 (rg [4] [
 tD 22 6,
 vo 23 (.build 31 [(.val (.int .i64 0)),(.val (.int .i64 0)),(.val (.int .i64 0)),(.val (.int .i64 0)),(.nl 2),(.nl 5),(.nl 2),(.val (.int .i64 0)),(.val (.int .i64 0)),(.val (.int .i64 0))] [(2,2,8,(.t 22))]),
 tC 4 23])
 .ret)))))
 modes:=[.lend,.lend]
 rets:=[⟨4,some (true,10)⟩]}

def v25 : VFun := {
 code:=
 (.seq
 (rg [0,1] [
 tB 3])
 (.seq
 (.region true [0,4] [
 mv 5 0,
 tE 6 5,
 tG 7 6,
 ld 8 25 7,
 tL [0,1,2,3] 9 1,
 cl 10 26 [8,9],
 sg 4 10])
 (.seq
 (.block 0
 (.seq
 (rg [0,4,11] [
 mv 12 4,
 tBJ 13 12,
 sg 11 13])
 (.cond (.t 11)
 (.seq
 (rg [0,3] [
 vo 3 (.asg (ci 4))])
 .ret)
 (.seq
 (rg [0,4,14] [
 mv 15 0,
 tE 16 15,
 tG 17 16,
 ld 18 25 17,
 mv 19 4,
 tW 20 18 19,
 tAF 21 20,
 ld 22 2 21,
 vo 23 (.bin false .neq 2 (.t 22) (ci 1)),
 sg 14 23])
 (.cond (.t 14)
 (.seq
 (rg [0,3] [
 vo 3 (.asg (ci 9))])
 .ret)
 .skip)))))
 (.seq
 (rg [0,3] [
 mv 24 0,
 mv 25 0,
 tE 26 25,
 tG 27 26,
 ld 28 25 27,
 mv 29 4,
 tW 30 28 29,
 cl 31 27 [24,30],
 sg 3 31])
 .ret))))
 modes:=[.io,.lend]
 rets:=[⟨3,none⟩]}

def v26 : VFun := {
 code:=
 (.seq
 (rg [0,3] [
 tBF 3 1,
 tB 4])
 (.seq
 (rg [4] [
 mv 5 0,
 vo 6 (.fn 54 [] [(.t 3)]),
 tDI 7 53,
 sg 4 7])
 .ret))
 modes:=[.lend,.lend]
 rets:=[⟨4,none⟩]}

def b27_0:VC:=
 (.seq
 (rg [0,1,5,13,17,18,19,20,42] [
 tI 20 19 18])
 (.seq
 (.cond (.t 20)
 .skip
 (.exit 0))
 (.seq
 (.block 1
 (.seq
 (rg [0,1,5,7,13,17,18,19,42] [
 tH 21 17 19,
 tAE 22 21,
 tAZ 7,
 tBA 7 22])
 (.seq
 (rg [0,1,5,7,8,13,17,18,19,42] [
 mv 23 5,
 tAI 24 7,
 ld 25 9 24,
 cl 26 56 [23,25],
 sg 8 26])
 (.seq
 (rg [0,1,5,7,8,13,17,18,19,28,42] [
 mv 27 8,
 tAN 28 27])
 (.cond (.t 28)
 (.region true [0,1,5,13,17,18,19,42] [
 mv 29 5,
 tA [0] 30 8,
 tH 31 29 30,
 tS 32 31,
 ld 33 2 32,
 tAQ [0,1,2,3,4] 34 7,
 tL [0,1,2,3,4] 35 34,
 tP 36 33 35,
 tH 37 29 30,
 tS 38 37,
 tY 38 36])
 (rg [0,1,5,13,17,18,19,42] [
 mv 39 5,
 tAE 40 7,
 vo 41 (.lit 24 63 2 1 [(.val (.string (⟨#[]⟩:ByteArray))),(.val (.int .i64 0))] [(0,(.t 40))]),
 tAH 42 39 41,
 sg 5 42]))))))
 (rg [0,1,5,13,17,18,19,42] [
 tJ 43 19,
 mv 19 43]))))
def l27_0:VC:=.loop b27_0
def v27 : VFun := {
 code:=
 (.seq
 (rg [0,1] [
 tB 4])
 (.seq
 (rg [0,1,5,13,42] [
 mv 9 0,
 tE 10 9,
 tX 11 10,
 ld 12 24 11,
 tDG 13 55,
 sg 5 13])
 (.seq
 (.seq
 (rg [0,1,5,13,17,18,19,42] [
 mv 14 1,
 tE 15 14,
 tAK 16 15,
 ld 17 24 16,
 tM 18 17,
 tZ 19])
 (.block 0
 l27_0))
 (.seq
 (.block 2
 (.seq
 (rg [0,1,5,13,42,44] [
 mv 45 5,
 tM 46 45,
 vo 47 (.bin false .gtr 3 (.t 46) (ci 8)),
 sg 44 47])
 (.cond (.t 44)
 (.seq
 (rg [0,1,4] [
 vo 4 (.asg (ci 10))])
 .ret)
 (.seq
 (.region true [0,1,5,13,42,48] [
 mv 49 0,
 tE 50 49,
 tBH 51 50,
 ld 52 2 51,
 tA [0,1,2,3] 53 1,
 tV [0,1,2,3] 54 53,
 tBK [0,1,2,3] 55 54,
 tL [0,1,2,3] 56 55,
 tP 57 52 56,
 cl 58 29 [57],
 tO 59 58,
 mv 60 59,
 tCX 61 5 60,
 og 62 (.call 41 [(.t 61),(ci 8)]) 60 false,
 tCY 63 62 60,
 tF 64 60 63,
 sg 48 64])
 (.cond (.t 48)
 (.seq
 (rg [0,1,4] [
 tAY 4])
 .ret)
 .skip)))))
 (.seq
 (.region true [0,1] [
 mv 65 0,
 tA [0] 66 0,
 tA [0,1] 67 1,
 tA [0,1,2] 68 5,
 tA [0,1,2,3] 69 0,
 tV [0,1,2,3] 70 69,
 tBT [0,1,2,3] 71 70,
 tL [0,1,2,3] 72 71,
 tA [0,1,2,3,4,5,6,7] 73 1,
 tV [0,1,2,3,4,5,6,7] 74 73,
 tBK [0,1,2,3,4,5,6,7] 75 74,
 tL [0,1,2,3,4,5,6,7] 76 75,
 tBG [0,1,2,3] 77 72 76,
 tV [1,2,12] 78 65,
 tDA [1,2,12] 79 27 4 4 1 78,
 ⟨none,.store 24 1 (.t 79) (.t 68),none,[1,2,12]⟩,
 tV [2] 80 66,
 tBT [2] 81 80,
 ⟨none,.store 2 1 (.t 81) (.t 77),none,[2]⟩,
 tE 82 67,
 tAF 83 82,
 vn (.store 2 1 (.t 83) (ci 2))])
 (.seq
 (rg [0,1,4] [
 tB 4])
 .ret))))))
 modes:=[.io,.al]
 rets:=[⟨4,none⟩]}

def v28 : VFun := {
 code:=
 (.seq
 (rg [0,1] [
 tB 3])
 (.seq
 (.region true [0,4] [
 mv 6 0,
 tE 7 6,
 tG 8 7,
 ld 9 25 8,
 tL [0,1,2,3] 10 1,
 cl 11 26 [9,10],
 sg 4 11])
 (.seq
 (.seq
 (rg [0,4,13] [
 mv 12 4,
 tBJ 13 12])
 (.cond (.t 13)
 (.seq
 (rg [0,3] [
 vo 3 (.asg (ci 4))])
 .ret)
 .skip))
 (.seq
 (rg [0,5] [
 mv 14 0,
 tE 15 14,
 tG 16 15,
 ld 17 25 16,
 mv 18 4,
 tW 19 17 18,
 sg 5 19])
 (.seq
 (.block 0
 (.seq
 (rg [0,5,20] [
 mv 21 5,
 tE 22 21,
 tAF 23 22,
 ld 24 2 23,
 tBU 25 24,
 sg 20 25])
 (.cond (.t 20)
 (.seq
 (rg [0,3] [
 vo 3 (.asg (ci 9))])
 .ret)
 (.seq
 (.region true [0,5,26] [
 mv 27 5,
 tE 28 27,
 tAF 29 28,
 ld 30 2 29,
 tAT 31 30,
 mv 32 31,
 tDB 33 0 32,
 tDK 34 33 32,
 tCI 35 34,
 tCJ 36 35,
 ⟨some 37,.mov (.t 5),some (32,true),[6,7,8,9]⟩,
 ⟨some 38,.nilc (.t 37),some (32,true),[6,7,8,9]⟩,
 ⟨some 39,.fa 41 1 1 1 (.t 38),some (32,true),[6,7,8,9]⟩,
 ⟨some 40,.load 2 false 1 (.t 39),some (32,true),[6,7,8,9]⟩,
 og 41 (.bin false .add 2 (.t 36) (.t 40)) 32 true,
 og 42 (.call 29 [(.t 41)]) 32 true,
 og 43 (.un .not (.t 42)) 32 true,
 tN 44 32 43,
 sg 26 44])
 (.cond (.t 26)
 (.seq
 (rg [0,3] [
 tAY 3])
 .ret)
 (.seq
 (rg [0,5,45] [
 mv 46 5,
 tE 47 46,
 tAF 48 47,
 ld 49 2 48,
 tAT 50 49,
 sg 45 50])
 (.cond (.t 45)
 (.region true [0,5] [
 mv 51 0,
 tE 52 51,
 tBL 53 52,
 ld 54 2 53,
 tA [0,1,2,3] 55 5,
 tV [0,1,2,3] 56 55,
 tDA [0,1,2,3] 57 41 1 1 1 56,
 tL [0,1,2,3] 58 57,
 tP 59 54 58,
 tE 60 51,
 tBL 61 60,
 tY 61 59])
 .skip)))))))
 (.seq
 (rg [0] [
 mv 62 5,
 tE 63 62,
 tAF 64 63,
 vn (.store 2 1 (.t 64) (ci 3))])
 (.seq
 (rg [0,3] [
 tB 3])
 .ret)))))))
 modes:=[.io,.lend]
 rets:=[⟨3,none⟩]}

def v29 : VFun := {
 code:=
 (.seq
 (rg [0] [
 tK 2])
 (.seq
 (rg [2] [
 mv 3 0,
 vo 4 (.call 57 [(.t 3),(ci 0),(ci 1000000)]),
 sg 2 4])
 .ret))
 modes:=[.lend]
 rets:=[⟨2,none⟩]}

def v30 : VFun := {
 code:=
 (.seq
 (rg [0,1] [
 tB 4])
 (.seq
 (rg [0,4] [
 mv 5 1,
 mv 6 0,
 mv 7 1,
 tBM 8 7,
 cl 9 23 [6,8],
 tBB 10 5 9,
 ld 11 2 10,
 sg 4 11])
 .ret))
 modes:=[.io,.lend]
 rets:=[⟨4,none⟩]}

def v31 : VFun := {
 code:=
 (.seq
 (rg [0,1,2] [
 tB 4])
 (.seq
 (.block 0
 (.seq
 (rg [0,1,2,6] [
 ld 7 2 1,
 cl 8 32 [7],
 tO 9 8,
 mv 10 9,
 tCU 11 2 1 2 10,
 og 12 (.call 29 [(.t 11)]) 10 false,
 tCY 13 12 10,
 tF 14 10 13,
 sg 6 14])
 (.cond (.t 6)
 (.seq
 (rg [0,4] [
 tAP 4])
 .ret)
 (.seq
 (.region true [0,1,2,15] [
 mv 16 0,
 tE 17 16,
 tG 18 17,
 ld 19 25 18,
 tL [0,1,2,3] 20 1,
 cl 21 26 [19,20],
 tAN 22 21,
 sg 15 22])
 (.cond (.t 15)
 (.seq
 (rg [0,4] [
 vo 4 (.asg (ci 6))])
 .ret)
 (.seq
 (rg [0,1,2,23] [
 mv 24 0,
 tE 25 24,
 tG 26 25,
 ld 27 25 26,
 tAA 28 27,
 vo 29 (.bin false .geq 3 (.t 28) (ci 6)),
 sg 23 29])
 (.cond (.t 23)
 (.seq
 (rg [0,4] [
 vo 4 (.asg (ci 10))])
 .ret)
 (.seq
 (.region true [0,1,2,30] [
 mv 31 0,
 tE 32 31,
 tG 33 32,
 ld 34 25 33,
 vo 35 (.call 33 [(.t 34),(ci 0)]),
 tL [0,1,2,3,4] 36 2,
 tP 37 35 36,
 cl 38 29 [37],
 tO 39 38,
 sg 30 39])
 (.cond (.t 30)
 (.seq
 (rg [0,4] [
 tAY 4])
 .ret)
 .skip)))))))))
 (.seq
 (rg [0,2,5] [
 ld 40 2 1,
 ld 41 2 2,
 ld 42 2 2,
 vo 43 (.build 41 [(.val (.int .i64 0)),(.val (.int .i64 0)),(.val (.int .i64 0)),(.nl 2),(.val (.int .i64 0))] [(0,0,1,(.t 40)),(1,1,1,(.t 41)),(2,2,1,(.t 42)),(4,4,1,(ci 1))]),
 tAL 5,
 tAM 5 43])
 (.seq
 (.seq
 (rg [0,2,5,49] [
 mv 44 0,
 tE 45 44,
 tAD 46 45,
 ld 47 24 46,
 tM 48 47,
 vo 49 (.bin false .gtr 3 (.t 48) (ci 0))])
 (.cond (.t 49)
 (.seq
 (.region true [0,2,5] [
 ld 50 2 2,
 tA [0] 51 0,
 tV [0] 52 51,
 tDA [0] 53 27 1 1 1 52,
 tL [0] 54 53,
 tBN 55 50 54,
 vo 56 (.bin false .quo 2 (.t 55) (ci 1000)),
 tBZ 57 5,
 tY 57 56])
 (.region true [0,5] [
 ld 58 2 2,
 tBK [0] 59 5,
 tL [0] 60 59,
 tCA 61 58 60,
 tA [0,1,2,3] 62 0,
 tV [0,1,2,3] 63 62,
 tDA [0,1,2,3] 64 27 2 2 1 63,
 tCB [0,1,2,3] 65 64,
 cl 66 34 [61,65],
 tAK 67 5,
 tAG 67 66]))
 .skip))
 (.seq
 (.region true [0] [
 mv 68 0,
 tA [0] 69 0,
 tV [0] 70 69,
 tBQ [0] 71 70,
 tBR [0] 72 71,
 wo [0,1,2,3,4] 73 (.load 41 true 5 (.t 5)),
 wo [0,1,2,3,4] 74 (.lit 25 41 5 1 [(.val (.int .i64 0)),(.val (.int .i64 0)),(.val (.int .i64 0)),(.nl 2),(.val (.int .i64 0))] [(0,(.t 73))]),
 wo [0] 75 (.app 25 41 5 56 (.t 72) (.t 74)),
 tE 76 68,
 tG 77 76,
 tBI 77 75])
 (.seq
 (rg [0,4] [
 tB 4])
 .ret))))))
 modes:=[.io,.lend,.lend]
 rets:=[⟨4,none⟩]}

def v32 : VFun := {
 code:=
 (.seq
 (rg [0] [
 tK 2])
 (.seq
 (rg [2] [
 mv 3 0,
 vo 4 (.call 57 [(.t 3),(ci 0),(ci 2147483646)]),
 sg 2 4])
 .ret))
 modes:=[.lend]
 rets:=[⟨2,none⟩]}

def b33_0:VC:=
 (.seq
 (rg [1,5,8,9,10,11] [
 tI 11 10 9])
 (.seq
 (.cond (.t 11)
 .skip
 (.exit 0))
 (.seq
 (.block 1
 (.seq
 (rg [1,5,7,8,9,10] [
 tW 12 8 10,
 tAC 13 12,
 tAL 7,
 tAM 7 13])
 (.seq
 (rg [1,5,7,8,9,10,21] [
 mv 14 1,
 tAW 15 14,
 mv 16 15,
 tCT 17 41 4 4 1 7 16,
 tCU 18 2 1 17 16,
 tCX 19 1 16,
 og 20 (.bin false .eql 2 (.t 18) (.t 19)) 16 false,
 tF 21 16 20])
 (.cond (.t 21)
 (rg [1,5,8,9,10] [
 mv 22 5,
 tCZ 23 41 1 1 1 7,
 ld 24 2 23,
 tP 25 22 24,
 sg 5 25])
 .skip))))
 (rg [1,5,8,9,10] [
 tJ 26 10,
 mv 10 26]))))
def l33_0:VC:=.loop b33_0
def v33 : VFun := {
 code:=
 (.seq
 (rg [0,1] [
 tB 4])
 (.seq
 (rg [0,1,5] [
 tB 5])
 (.seq
 (.seq
 (rg [1,5,8,9,10] [
 mv 8 0,
 tAA 9 8,
 tZ 10])
 (.block 0
 l33_0))
 (.seq
 (rg [4] [
 mv 27 5,
 sg 4 27])
 .ret))))
 modes:=[.lend,.lend]
 rets:=[⟨4,none⟩]}

def b34_1:VC:=
 (.seq
 (rg [5,7,14,17,42,49,50,51] [
 vo 51 (.bin false .lss 2 (.t 50) (.t 49))])
 (.seq
 (.cond (.t 51)
 .skip
 (.exit 2))
 (.seq
 (.block 3
 (.seq
 (rg [5,7,12,14,17,42,49,50] [
 mv 52 7,
 mv 53 7,
 cl 54 60 [53],
 cl 55 59 [52,54],
 sg 12 55])
 (.seq
 (rg [5,7,12,14,17,42,49,50] [
 mv 56 5,
 mv 57 12,
 tH 58 56 57,
 tS 59 58,
 ld 60 2 59,
 tBW 61 60,
 tH 62 56 57,
 tS 63 62,
 tY 63 61])
 (rg [5,7,14,17,42,49,50] [
 mv 64 7,
 mv 65 12,
 tBB 66 64 65,
 vn (.store 2 1 (.t 66) (ci ((-1))))]))))
 (rg [5,7,14,17,42,49,50] [
 tBW 67 50,
 mv 50 67]))))
def l34_1:VC:=.loop b34_1
def b34_0:VC:=
 (.seq
 (rg [0,5,6,7,8,14,17,19,20,21,22,42] [
 tI 22 21 20])
 (.seq
 (.cond (.t 22)
 .skip
 (.exit 0))
 (.seq
 (.block 1
 (.seq
 (rg [0,5,6,7,8,9,10,14,17,19,20,21,42] [
 mv 23 21,
 tH 24 19 21,
 tAE 25 24,
 tAZ 10,
 sg 9 23,
 tBA 10 25])
 (.seq
 (rg [0,5,6,7,8,9,11,14,17,19,20,21,42] [
 mv 26 0,
 tS 27 10,
 ld 28 2 27,
 tBN 29 26 28,
 sg 11 29])
 (.seq
 (rg [0,5,6,7,8,11,14,17,19,20,21,42] [
 mv 30 5,
 mv 31 9,
 mv 32 11,
 mv 33 6,
 tCL 34 32 33,
 tH 35 30 31,
 tS 36 35,
 tY 36 34])
 (.seq
 (rg [0,5,6,7,8,11,14,17,19,20,21,42] [
 mv 37 7,
 mv 38 11,
 mv 39 6,
 tBY 40 38 39,
 vo 41 (.lit 78 2 1 1 [(.val (.int .i64 0))] [(0,(.t 40))]),
 vo 42 (.app 78 2 1 8 (.t 37) (.t 41)),
 sg 7 42])
 (rg [0,5,6,7,8,14,17,19,20,21,42] [
 mv 43 8,
 mv 44 11,
 mv 45 6,
 tCL 46 44 45,
 tCA 47 43 46,
 sg 8 47]))))))
 (rg [0,5,6,7,8,14,17,19,20,21,42] [
 tJ 48 21,
 mv 21 48]))))
def l34_0:VC:=.loop b34_0
def v34 : VFun := {
 code:=
 (.seq
 (rg [0,1] [
 tAJ 4])
 (.seq
 (rg [0,5,6,7,14,17,42] [
 mv 13 1,
 cl 14 58 [13],
 mv 15 1,
 cl 16 42 [15],
 vo 17 (.lit 78 2 1 0 [(.val (.int .i64 0))] []),
 sg 5 14,
 sg 6 16,
 sg 7 17])
 (.seq
 (rg [0,5,6,7,8,14,17,42] [
 mv 18 0,
 sg 8 18])
 (.seq
 (.seq
 (rg [0,5,6,7,8,14,17,19,20,21,42] [
 mv 19 5,
 tM 20 19,
 tZ 21])
 (.block 0
 l34_0))
 (.seq
 (.seq
 (rg [5,7,14,17,42,49,50] [
 mv 49 8,
 tZ 50])
 (.block 2
 l34_1))
 (.seq
 (rg [4,5,14] [
 mv 68 5,
 sg 4 68])
 .ret))))))
 modes:=[.lend,.lend]
 rets:=[⟨4,none⟩]}

def v35 : VFun := {
 code:=
 (.seq
 (rg [0,1] [
 tK 4])
 (.seq
 (rg [4] [
 mv 5 0,
 vo 6 (.call 57 [(.t 5),(ci 1),(ci 12)]),
 mv 7 6,
 tDB 8 1 7,
 og 9 (.call 57 [(.t 8),(ci 0),(ci 1000)]) 7 true,
 tN 10 7 9,
 sg 4 10])
 .ret))
 modes:=[.lend,.lend]
 rets:=[⟨4,none⟩]}

def b36_0:VC:=
 (.seq
 (.seq
 (rg [0,4,49] [
 mv 43 4,
 mv 44 0,
 tE 45 44,
 tG 46 45,
 ld 47 25 46,
 tAA 48 47,
 tI 49 43 48])
 (.cond (.t 49)
 .skip
 (.exit 0)))
 (.seq
 (.block 1
 (.seq
 (rg [0,4,5] [
 mv 52 0,
 tE 53 52,
 tG 54 53,
 ld 55 25 54,
 mv 56 4,
 cl 57 62 [55,56],
 sg 5 57])
 (.seq
 (rg [0,4,5,59] [
 mv 58 5,
 tAB 59 58])
 (.cond (.t 59)
 (.seq
 (rg [2] [
 mv 60 5,
 sg 2 60])
 .ret)
 .skip))))
 (rg [0,4] [
 mv 50 4,
 tJ 51 50,
 sg 4 51])))
def l36_0:VC:=.loop b36_0
def v36 : VFun := {
 code:=
 (.seq
 (rg [0] [
 tB 2])
 (.seq
 (.seq
 (rg [0,8] [
 mv 6 0,
 cl 7 44 [6],
 tO 8 7])
 (.cond (.t 8)
 (.seq
 (rg [2] [
 tAP 2])
 .ret)
 .skip))
 (.seq
 (.seq
 (rg [0,3] [
 mv 9 0,
 tE 10 9,
 tAD 11 10,
 ld 12 24 11,
 tDG 13 61,
 sg 3 13])
 (.seq
 (rg [0,3,15] [
 mv 14 3,
 tAB 15 14])
 (.cond (.t 15)
 (.seq
 (rg [2] [
 mv 16 3,
 sg 2 16])
 .ret)
 .skip)))
 (.seq
 (.seq
 (.region true [0,42] [
 mv 17 0,
 tE 18 17,
 tAD 19 18,
 ld 20 24 19,
 tM 21 20,
 tA [0,1,2,3,4] 22 0,
 tV [0,1,2,3,4] 23 22,
 tDA [0,1,2,3,4] 24 27 0 0 1 23,
 tL [0,1,2,3,4] 25 24,
 tBS 26 21 25,
 mv 27 26,
 tCX 28 0 27,
 tDE 29 28 27,
 tCT 30 27 3 3 1 29 27,
 tCU 31 25 1 30 27,
 tDO 32 25 31 27,
 og 33 (.bin false .gtr 3 (.t 32) (ci 6)) 27 false,
 tF 34 27 33,
 mv 35 34,
 tCX 36 0 35,
 tDE 37 36 35,
 tCT 38 27 4 4 1 37 35,
 tCU 39 24 1 38 35,
 tDO 40 24 39 35,
 og 41 (.bin false .gtr 3 (.t 40) (ci 8)) 35 false,
 tF 42 35 41])
 (.cond (.t 42)
 (.seq
 (rg [2] [
 vo 2 (.asg (ci 2))])
 .ret)
 .skip))
 (.seq
 (.seq
 (rg [0,4] [
 tB 4])
 (.block 0
 l36_0))
 (.seq
 (.seq
 (rg [0,66] [
 mv 61 0,
 tE 62 61,
 tX 63 62,
 ld 64 24 63,
 cl 65 63 [64],
 tO 66 65])
 (.cond (.t 66)
 (.seq
 (rg [2] [
 tAX 2])
 .ret)
 .skip))
 (.seq
 (.seq
 (.region true [101] [
 mv 67 0,
 tE 68 67,
 tX 69 68,
 ld 70 24 69,
 cl 71 64 [70],
 tA [0,1,2,3,4] 72 0,
 tV [0,1,2,3,4] 73 72,
 tBT [0,1,2,3,4] 74 73,
 tL [0,1,2,3,4] 75 74,
 tP 76 71 75,
 tA [0,1,2,3,4,5,6,7,8,9] 77 0,
 tV [0,1,2,3,4,5,6,7,8,9] 78 77,
 tDA [0,1,2,3,4,5,6,7,8,9] 79 27 5 5 1 78,
 tL [0,1,2,3,4,5,6,7,8,9] 80 79,
 tP 81 76 80,
 tA [0,1,2,3,4,5,6,7,8,9,10,11,12,13,14] 82 0,
 tV [0,1,2,3,4,5,6,7,8,9,10,11,12,13,14] 83 82,
 tBQ [0,1,2,3,4,5,6,7,8,9,10,11,12,13,14] 84 83,
 tBR [0,1,2,3,4,5,6,7,8,9,10,11,12,13,14] 85 84,
 wo [5,6,7,8,9,10,11,12,13,14] 86 (.call 65 [(.t 85),(.c (.bool true))]),
 tA [0,1,2,3,4,5,6,7,8,9,10,11,12,13,14,15,16,17,18,19] 87 0,
 tV [0,1,2,3,4,5,6,7,8,9,10,11,12,13,14,15,16,17,18,19] 88 87,
 tDA [0,1,2,3,4,5,6,7,8,9,10,11,12,13,14,15,16,17,18,19] 89 27 7 7 1 88,
 tL [0,1,2,3,4,5,6,7,8,9,10,11,12,13,14,15,16,17,18,19] 90 89,
 tBG [5,6,7,8,9,10,11,12,13,14] 91 86 90,
 tCG 92 81 91,
 mv 93 92,
 tCX 94 0 93,
 tDE 95 94 93,
 tCT 96 27 3 3 1 95 93,
 tCU 97 25 1 96 93,
 og 98 (.call 65 [(.t 97),(.c (.bool false))]) 93 false,
 og 99 (.call 66 [(.t 98)]) 93 false,
 tCY 100 99 93,
 tF 101 93 100])
 (.cond (.t 101)
 (.seq
 (rg [2] [
 tAY 2])
 .ret)
 .skip))
 (.seq
 (rg [2] [
 tB 2])
 .ret))))))))
 modes:=[.lend]
 rets:=[⟨2,none⟩]}

def v37 : VFun := {
 code:=
 (.seq
 (rg [0,2] [
 tT 2])
 (.seq
 (rg [2] [
 mv 3 0,
 vo 4 (.build 31 [(.val (.int .i64 0)),(.val (.int .i64 0)),(.val (.int .i64 0)),(.val (.int .i64 0)),(.nl 2),(.nl 5),(.nl 2),(.val (.int .i64 0)),(.val (.int .i64 0)),(.val (.int .i64 0))] [(0,0,1,(.t 3))]),
 tC 2 4])
 .ret))
 modes:=[.lend]
 rets:=[⟨2,some (true,10)⟩]}

def v38 : VFun := {
 code:=
 (.seq
 (rg [1,2,4] [
 tU 2 0,
 tT 4])
 (.seq
 (rg [2,4,5] [
 tG 8 2,
 ld 9 25 8,
 mv 10 1,
 cl 11 67 [9,10],
 sg 5 11])
 (.seq
 (.seq
 (rg [2,4,5,13] [
 mv 12 5,
 tBJ 13 12])
 (.cond (.t 13)
 (.seq
 (rg [4] [
 vo 14 (.call 37 [(ci 4)]),
 tC 4 14])
 .ret)
 .skip))
 (.seq
 (rg [2,4,5,6] [
 tG 15 2,
 ld 16 25 15,
 mv 17 5,
 tW 18 16 17,
 sg 6 18])
 (.seq
 (.seq
 (rg [2,4,5,6,23] [
 mv 19 6,
 tE 20 19,
 tAF 21 20,
 ld 22 2 21,
 tBU 23 22])
 (.cond (.t 23)
 (.seq
 (rg [4] [
 vo 24 (.call 37 [(ci 9)]),
 tC 4 24])
 .ret)
 .skip))
 (.seq
 (rg [2,4,5,6,7] [
 tD 25 2,
 cl 26 68 [25],
 tR 7,
 tQ 7 26])
 (.seq
 (.seq
 (rg [2,4,5,6,7,31] [
 mv 27 6,
 tE 28 27,
 tAF 29 28,
 ld 30 2 29,
 tAT 31 30])
 (.cond (.t 31)
 (.region true [4,5,7] [
 tBL 32 2,
 ld 33 2 32,
 tA [0,1] 34 6,
 tV [0,1] 35 34,
 tDA [0,1] 36 41 1 1 1 35,
 tL [0,1] 37 36,
 tP 38 33 37,
 tBL 39 7,
 tY 39 38])
 .skip))
 (.seq
 (.seq
 (rg [4,5,7,43] [
 tBL 40 7,
 ld 41 2 40,
 cl 42 66 [41],
 tO 43 42])
 (.cond (.t 43)
 (.seq
 (rg [4] [
 tCC 44,
 tC 4 44])
 .ret)
 .skip))
 (.seq
 (rg [4,7] [
 tG 45 7,
 ld 46 25 45,
 mv 47 5,
 tW 48 46 47,
 tAF 49 48,
 vn (.store 2 1 (.t 49) (ci 3))])
 (.seq
 (rg [4] [
 tD 50 7,
 vo 51 (.build 31 [(.val (.int .i64 0)),(.val (.int .i64 0)),(.val (.int .i64 0)),(.val (.int .i64 0)),(.nl 2),(.nl 5),(.nl 2),(.val (.int .i64 0)),(.val (.int .i64 0)),(.val (.int .i64 0))] [(2,2,8,(.t 50))]),
 tC 4 51])
 .ret))))))))))
 modes:=[.lend,.lend]
 rets:=[⟨4,some (true,10)⟩]}

def b39_0:VC:=
 (.seq
 (rg [8,9,10,11] [
 tI 11 10 9])
 (.seq
 (.cond (.t 11)
 .skip
 (.exit 0))
 (.seq
 (.block 1
 (.seq
 (rg [4,8,9,10] [
 tH 12 8 10,
 tAE 13 12,
 tAZ 4,
 tBA 4 13])
 (.block 2
 (.seq
 (rg [4,8,9,10,14] [
 tAI 15 4,
 ld 16 9 15,
 cl 17 69 [16],
 tO 18 17,
 sg 14 18])
 (.cond (.t 14)
 (.seq
 (rg [2] [
 vo 2 (.asg (ci 5))])
 .ret)
 (.seq
 (rg [8,9,10,19] [
 tS 20 4,
 ld 21 2 20,
 vo 22 (.call 57 [(.t 21),(ci 1),(ci 9999)]),
 tO 23 22,
 sg 19 23])
 (.cond (.t 19)
 (.seq
 (rg [2] [
 tAP 2])
 .ret)
 .skip)))))))
 (rg [8,9,10] [
 tJ 24 10,
 mv 10 24]))))
def l39_0:VC:=.loop b39_0
def v39 : VFun := {
 code:=
 (.seq
 (rg [0] [
 tB 2])
 (.seq
 (.seq
 (rg [0,7] [
 mv 5 0,
 tM 6 5,
 tCM 7 6])
 (.cond (.t 7)
 (.seq
 (rg [2] [
 vo 2 (.asg (ci 2))])
 .ret)
 .skip))
 (.seq
 (.seq
 (rg [8,9,10] [
 mv 8 0,
 tM 9 8,
 tZ 10])
 (.block 0
 l39_0))
 (.seq
 (rg [2] [
 tB 2])
 .ret))))
 modes:=[.lend]
 rets:=[⟨2,none⟩]}

def v40 : VFun := {
 code:=
 (.seq
 (rg [1,2] [
 tDD 2 41 0,
 tB 4])
 (.seq
 (.block 0
 (.seq
 (rg [1,2,5] [
 tAR 6 2,
 ld 7 2 6,
 cl 8 32 [7],
 tO 9 8,
 mv 10 9,
 tCT 11 41 1 1 1 2 10,
 tCU 12 2 1 11 10,
 og 13 (.call 29 [(.t 12)]) 10 false,
 tCY 14 13 10,
 tF 15 10 14,
 mv 16 15,
 tCT 17 41 2 2 1 2 16,
 tCU 18 2 1 17 16,
 og 19 (.call 29 [(.t 18)]) 16 false,
 tCY 20 19 16,
 tF 21 16 20,
 mv 22 21,
 tCT 23 41 4 4 1 2 22,
 tCU 24 2 1 23 22,
 og 25 (.call 57 [(.t 24),(ci 1),(ci 3)]) 22 false,
 tCY 26 25 22,
 tF 27 22 26,
 sg 5 27])
 (.cond (.t 5)
 (.seq
 (rg [4] [
 tAP 4])
 .ret)
 (.seq
 (.region true [1,2,28] [
 tAK 29 2,
 ld 30 24 29,
 vo 31 (.call 41 [(.t 30),(ci 12)]),
 tO 32 31,
 mv 33 32,
 tCT 34 41 3 3 1 2 33,
 tCU 35 24 1 34 33,
 og 36 (.call 42 [(.t 35)]) 33 false,
 ⟨some 37,.fa 41 2 2 1 (.t 2),some (33,false),[5,6,7]⟩,
 ⟨some 38,.load 2 false 1 (.t 37),some (33,false),[5,6,7]⟩,
 og 39 (.bin false .add 2 (.t 36) (.t 38)) 33 false,
 ⟨some 40,.fa 41 1 1 1 (.t 2),some (33,false),[5,6,7,8,9,10]⟩,
 ⟨some 41,.load 2 false 1 (.t 40),some (33,false),[5,6,7,8,9,10]⟩,
 tDH 42 2 39 41 33,
 tF 43 33 42,
 sg 28 43])
 (.cond (.t 28)
 (.seq
 (rg [4] [
 tAX 4])
 .ret)
 (.seq
 (rg [44] [
 mv 45 1,
 tAR 46 2,
 ld 47 2 46,
 cl 48 26 [45,47],
 tAN 49 48,
 sg 44 49])
 (.cond (.t 44)
 (.seq
 (rg [4] [
 vo 4 (.asg (ci 6))])
 .ret)
 .skip)))))))
 (.seq
 (rg [4] [
 tB 4])
 .ret)))
 modes:=[.lend,.lend]
 rets:=[⟨4,none⟩]}

def b41_0:VC:=
 (.seq
 (rg [0,1,7,8,9,10] [
 tI 10 9 8])
 (.seq
 (.cond (.t 10)
 .skip
 (.exit 0))
 (.seq
 (.block 1
 (.seq
 (rg [0,1,5,6,7,8,9] [
 mv 11 9,
 tH 12 7 9,
 tAE 13 12,
 tAZ 6,
 sg 5 11,
 tBA 6 13])
 (.seq
 (.region true [0,1,7,8,9,32] [
 tAI 14 6,
 ld 15 9 14,
 cl 16 69 [15],
 tO 17 16,
 mv 18 17,
 tCT 19 63 1 1 1 6 18,
 tCU 20 2 1 19 18,
 og 21 (.call 29 [(.t 20)]) 18 false,
 tCY 22 21 18,
 tF 23 18 22,
 mv 24 23,
 tCX 25 0 24,
 ⟨some 26,.mov (.t 5),some (24,false),[11]⟩,
 og 27 (.cut 24 (some 63) 2 (.t 25) none (some (.t 26))) 24 false,
 ⟨some 28,.fa 63 0 0 1 (.t 6),some (24,false),[11,12,13]⟩,
 ⟨some 29,.load 9 false 1 (.t 28),some (24,false),[11,12,13]⟩,
 og 30 (.call 56 [(.t 27),(.t 29)]) 24 false,
 og 31 (.bin false .geq 3 (.t 30) (ci 0)) 24 false,
 tF 32 24 31])
 (.cond (.t 32)
 (.seq
 (rg [4] [
 tK 4])
 .ret)
 .skip))))
 (rg [0,1,7,8,9] [
 tJ 33 9,
 mv 9 33]))))
def l41_0:VC:=.loop b41_0
def v41 : VFun := {
 code:=
 (.seq
 (rg [0,1] [
 tK 4])
 (.seq
 (.seq
 (rg [0,1,7,8,9] [
 mv 7 0,
 tM 8 7,
 tZ 9])
 (.block 0
 l41_0))
 (.seq
 (rg [4] [
 mv 34 0,
 tM 35 34,
 mv 36 1,
 vo 37 (.bin false .leq 3 (.t 35) (.t 36)),
 sg 4 37])
 .ret)))
 modes:=[.lend,.lend]
 rets:=[⟨4,none⟩]}

def b42_0:VC:=
 (.seq
 (rg [3,6,7,8,9] [
 tI 9 8 7])
 (.seq
 (.cond (.t 9)
 .skip
 (.exit 0))
 (.seq
 (.block 1
 (.seq
 (rg [3,5,6,7,8] [
 tH 10 6 8,
 tAE 11 10,
 tAZ 5,
 tBA 5 11])
 (rg [3,6,7,8] [
 mv 12 3,
 tS 13 5,
 ld 14 2 13,
 tP 15 12 14,
 sg 3 15])))
 (rg [3,6,7,8] [
 tJ 16 8,
 mv 8 16]))))
def l42_0:VC:=.loop b42_0
def v42 : VFun := {
 code:=
 (.seq
 (rg [0] [
 tB 2])
 (.seq
 (rg [0,3] [
 tB 3])
 (.seq
 (.seq
 (rg [3,6,7,8] [
 mv 6 0,
 tM 7 6,
 tZ 8])
 (.block 0
 l42_0))
 (.seq
 (rg [2] [
 mv 17 3,
 sg 2 17])
 .ret))))
 modes:=[.lend]
 rets:=[⟨2,none⟩]}

def v43 : VFun := {
 code:=
 (.seq
 (rg [1,2,3,6] [
 tU 3 0,
 tT 6])
 (.seq
 (.seq
 (rg [1,2,3,6,16] [
 mv 9 1,
 cl 10 70 [9],
 tO 11 10,
 mv 12 11,
 tCX 13 2 12,
 og 14 (.call 66 [(.t 13)]) 12 false,
 tCY 15 14 12,
 tF 16 12 15])
 (.cond (.t 16)
 (.seq
 (rg [6] [
 vo 17 (.call 37 [(ci 3)]),
 tC 6 17])
 .ret)
 .skip))
 (.seq
 (.seq
 (rg [1,2,3,6,22] [
 tG 18 3,
 ld 19 25 18,
 mv 20 1,
 cl 21 67 [19,20],
 tAN 22 21])
 (.cond (.t 22)
 (.seq
 (rg [6] [
 vo 23 (.call 37 [(ci 6)]),
 tC 6 23])
 .ret)
 .skip))
 (.seq
 (.seq
 (rg [1,2,3,6,27] [
 tG 24 3,
 ld 25 25 24,
 tAA 26 25,
 vo 27 (.bin false .geq 3 (.t 26) (ci 6))])
 (.cond (.t 27)
 (.seq
 (rg [6] [
 vo 28 (.call 37 [(ci 10)]),
 tC 6 28])
 .ret)
 .skip))
 (.seq
 (.seq
 (rg [1,2,3,6,35] [
 tG 29 3,
 ld 30 25 29,
 vo 31 (.call 65 [(.t 30),(.c (.bool false))]),
 mv 32 2,
 tP 33 31 32,
 cl 34 66 [33],
 tO 35 34])
 (.cond (.t 35)
 (.seq
 (rg [6] [
 tCC 36,
 tC 6 36])
 .ret)
 .skip))
 (.seq
 (rg [2,3,6,7] [
 mv 37 1,
 mv 38 2,
 mv 39 2,
 vo 40 (.build 41 [(.val (.int .i64 0)),(.val (.int .i64 0)),(.val (.int .i64 0)),(.nl 2),(.val (.int .i64 0))] [(0,0,1,(.t 37)),(1,1,1,(.t 38)),(2,2,1,(.t 39)),(4,4,1,(ci 1))]),
 tAL 7,
 tAM 7 40])
 (.seq
 (.seq
 (rg [2,3,6,7,44] [
 tAD 41 3,
 ld 42 24 41,
 tM 43 42,
 vo 44 (.bin false .gtr 3 (.t 43) (ci 0))])
 (.cond (.t 44)
 (.seq
 (rg [2,3,6,7] [
 mv 45 2,
 tCZ 46 27 1 1 1 3,
 ld 47 2 46,
 tBN 48 45 47,
 vo 49 (.bin false .quo 2 (.t 48) (ci 1000)),
 tBZ 50 7,
 tY 50 49])
 (rg [3,6,7] [
 mv 51 2,
 tBZ 52 7,
 ld 53 2 52,
 tCA 54 51 53,
 tAD 55 3,
 ld 56 24 55,
 cl 57 71 [54,56],
 tAK 58 7,
 tAG 58 57]))
 .skip))
 (.seq
 (rg [6,7,8] [
 tD 59 3,
 cl 60 68 [59],
 tR 8,
 tQ 8 60])
 (.seq
 (rg [6,7,8] [
 tG 61 8,
 ld 62 25 61,
 tAC 63 7,
 vo 64 (.lit 25 41 5 1 [(.val (.int .i64 0)),(.val (.int .i64 0)),(.val (.int .i64 0)),(.nl 2),(.val (.int .i64 0))] [(0,(.t 63))]),
 tBV 65 62 64,
 tG 66 8,
 tBI 66 65])
 (.seq
 (rg [6] [
 tBZ 67 7,
 ld 68 2 67,
 tD 69 8,
 vo 70 (.build 31 [(.val (.int .i64 0)),(.val (.int .i64 0)),(.val (.int .i64 0)),(.val (.int .i64 0)),(.nl 2),(.nl 5),(.nl 2),(.val (.int .i64 0)),(.val (.int .i64 0)),(.val (.int .i64 0))] [(1,1,1,(.t 68)),(2,2,8,(.t 69))]),
 tC 6 70])
 .ret))))))))))
 modes:=[.lend,.lend,.lend]
 rets:=[⟨6,some (true,10)⟩]}

def v44 : VFun := {
 code:=
 (.seq
 (rg [0] [
 tK 2])
 (.seq
 (rg [2] [
 mv 3 0,
 tE 4 3,
 tAO 5 4,
 ld 6 2 5,
 vo 7 (.call 72 [(.t 6),(ci 1),(ci 12)]),
 mv 8 7,
 tDB 9 0 8,
 tDK 10 9 8,
 tCV 11 27 1 1 1 10 8,
 tCW 12 2 1 11 8,
 og 13 (.call 72 [(.t 12),(ci 0),(ci 1000)]) 8 true,
 tN 14 8 13,
 mv 15 14,
 tDB 16 0 15,
 tDK 17 16 15,
 tCV 18 27 5 5 1 17 15,
 tCW 19 2 1 18 15,
 og 20 (.call 66 [(.t 19)]) 15 true,
 tN 21 15 20,
 mv 22 21,
 tDB 23 0 22,
 tDK 24 23 22,
 tCV 25 27 6 6 1 24 22,
 tCW 26 2 1 25 22,
 og 27 (.call 66 [(.t 26)]) 22 true,
 tN 28 22 27,
 mv 29 28,
 tDB 30 0 29,
 tDK 31 30 29,
 tCV 32 27 7 7 1 31 29,
 tCW 33 2 1 32 29,
 og 34 (.call 66 [(.t 33)]) 29 true,
 tN 35 29 34,
 sg 2 35])
 .ret))
 modes:=[.lend]
 rets:=[⟨2,none⟩]}

def v45 : VFun := {
 code:=
 (.seq
 (rg [1,2,4] [
 tU 2 0,
 tT 4])
 (.seq
 (rg [2,4,5] [
 tG 10 2,
 ld 11 25 10,
 mv 12 1,
 cl 13 67 [11,12],
 sg 5 13])
 (.seq
 (.seq
 (rg [2,4,5,15] [
 mv 14 5,
 tBJ 15 14])
 (.cond (.t 15)
 (.seq
 (rg [4] [
 vo 16 (.call 37 [(ci 4)]),
 tC 4 16])
 .ret)
 .skip))
 (.seq
 (rg [2,4,5,6] [
 tG 17 2,
 ld 18 25 17,
 mv 19 5,
 tW 20 18 19,
 sg 6 20])
 (.seq
 (.seq
 (rg [2,4,5,6,25] [
 mv 21 6,
 tE 22 21,
 tAF 23 22,
 ld 24 2 23,
 vo 25 (.bin false .neq 2 (.t 24) (ci 1))])
 (.cond (.t 25)
 (.seq
 (rg [4] [
 vo 26 (.call 37 [(ci 9)]),
 tC 4 26])
 .ret)
 .skip))
 (.seq
 (.region true [2,4,5,6,7,8,34] [
 tX 28 2,
 ld 29 24 28,
 tA [0,1] 30 6,
 tV [0,1] 31 30,
 tDA [0,1] 32 41 3 3 1 31,
 tCB [0,1] 33 32,
 cl 34 73 [29,33],
 mv 27 34,
 tAU 35 27,
 wo [8] 36 (.ext (.t 27) 1),
 wo [9] 7 (.asg (.t 35)),
 sg 8 36])
 (.seq
 (.seq
 (rg [2,4,5,6,7,8,34,38] [
 mv 37 8,
 tAB 38 37])
 (.cond (.t 38)
 (.seq
 (rg [4] [
 mv 39 8,
 cl 40 37 [39],
 tC 4 40])
 .ret)
 .skip))
 (.seq
 (.seq
 (.region true [2,4,5,6,7,34,49] [
 tBH 41 2,
 ld 42 2 41,
 tA [0,1] 43 6,
 tV [0,1] 44 43,
 tBK [0,1] 45 44,
 tL [0,1] 46 45,
 tP 47 42 46,
 cl 48 66 [47],
 tO 49 48])
 (.cond (.t 49)
 (.seq
 (rg [4] [
 tCC 50,
 tC 4 50])
 .ret)
 .skip))
 (.seq
 (rg [2,4,5,6,7,9,34] [
 tD 51 2,
 cl 52 68 [51],
 tR 9,
 tQ 9 52])
 (.seq
 (rg [2,4,6,7,9,34] [
 tG 53 9,
 ld 54 25 53,
 mv 55 5,
 tW 56 54 55,
 tAF 57 56,
 vn (.store 2 1 (.t 57) (ci 2))])
 (.seq
 (.region true [4,7,9,34] [
 tBH 58 2,
 ld 59 2 58,
 tA [0,1] 60 6,
 tV [0,1] 61 60,
 tBK [0,1] 62 61,
 tL [0,1] 63 62,
 tP 64 59 63,
 tBH 65 9,
 tY 65 64])
 (.seq
 (rg [4,9] [
 mv 66 7,
 tX 67 9,
 tAG 67 66])
 (.seq
 (rg [4] [
 tD 68 9,
 vo 69 (.build 31 [(.val (.int .i64 0)),(.val (.int .i64 0)),(.val (.int .i64 0)),(.val (.int .i64 0)),(.nl 2),(.nl 5),(.nl 2),(.val (.int .i64 0)),(.val (.int .i64 0)),(.val (.int .i64 0))] [(2,2,8,(.t 68))]),
 tC 4 69])
 .ret)))))))))))))
 modes:=[.lend,.lend]
 rets:=[⟨4,some (true,10)⟩]}

def b46_0:VC:=
 (.seq
 (rg [0,1,12,13,14] [
 tI 14 13 12])
 (.seq
 (.cond (.t 14)
 .skip
 (.exit 0))
 (.seq
 (.block 1
 (.seq
 (rg [0,1,5,12,13] [
 mv 15 13,
 sg 5 15])
 (.seq
 (.region true [0,1,12,13,24] [
 mv 16 0,
 tA [0] 17 5,
 tH 18 16 17,
 tAE 19 18,
 tA [0,1,2,3] 20 1,
 tA [0,1,2,3,4] 21 5,
 tBC [0,1,2,3] 22 20 21,
 wo [0,1,2,3] 23 (.load 63 true 2 (.t 22)),
 vo 24 (.eqs true 63 [2,1] (.t 19) (.t 23))])
 (.cond (.t 24)
 (.seq
 (rg [4] [
 tK 4])
 .ret)
 .skip))))
 (rg [0,1,12,13] [
 tJ 25 13,
 mv 13 25]))))
def l46_0:VC:=.loop b46_0
def v46 : VFun := {
 code:=
 (.seq
 (rg [0,1] [
 tK 4])
 (.seq
 (.seq
 (rg [0,1,10] [
 mv 6 0,
 tM 7 6,
 mv 8 1,
 tM 9 8,
 vo 10 (.bin false .neq 3 (.t 7) (.t 9))])
 (.cond (.t 10)
 (.seq
 (rg [4] [
 tK 4])
 .ret)
 .skip))
 (.seq
 (.seq
 (rg [0,1,12,13] [
 mv 11 0,
 tM 12 11,
 tZ 13])
 (.block 0
 l46_0))
 (.seq
 (rg [4] [
 tBP 4])
 .ret))))
 modes:=[.lend,.lend]
 rets:=[⟨4,none⟩]}

def b47_0:VC:=
 (.seq
 (rg [1,2,15,16,17,18] [
 tI 18 17 16])
 (.seq
 (.cond (.t 18)
 .skip
 (.exit 0))
 (.seq
 (.block 1
 (.seq
 (rg [1,2,7,8,15,16,17] [
 mv 19 17,
 tW 20 15 17,
 tAC 21 20,
 tAL 8,
 sg 7 19,
 tAM 8 21])
 (.seq
 (rg [1,2,8,9,15,16,17] [
 mv 22 1,
 mv 23 7,
 tW 24 22 23,
 tAC 25 24,
 tAL 9,
 tAM 9 25])
 (.seq
 (rg [1,2,15,16,17,30] [
 mv 26 2,
 tAC 27 8,
 tAC 28 9,
 vo 29 (.callv (.t 26) [(.t 27),(.t 28)]),
 tO 30 29])
 (.cond (.t 30)
 (.seq
 (rg [6] [
 tK 6])
 .ret)
 .skip)))))
 (rg [1,2,15,16,17] [
 tJ 31 17,
 mv 17 31]))))
def l47_0:VC:=.loop b47_0
def v47 : VFun := {
 code:=
 (.seq
 (rg [0,1,2] [
 tK 6])
 (.seq
 (.seq
 (rg [0,1,2,14] [
 mv 10 0,
 tAA 11 10,
 mv 12 1,
 tAA 13 12,
 vo 14 (.bin false .neq 3 (.t 11) (.t 13))])
 (.cond (.t 14)
 (.seq
 (rg [6] [
 tK 6])
 .ret)
 .skip))
 (.seq
 (.seq
 (rg [1,2,15,16,17] [
 mv 15 0,
 tAA 16 15,
 tZ 17])
 (.block 0
 l47_0))
 (.seq
 (rg [6] [
 tBP 6])
 .ret))))
 modes:=[.lend,.lend,.lend]
 rets:=[⟨6,none⟩]}

def v48 : VFun := {
 code:=
 (.seq
 (rg [2,3] [
 tDD 2 41 0,
 tDD 3 41 1,
 tK 4])
 (.seq
 (rg [4] [
 tAR 5 2,
 ld 6 2 5,
 tAR 7 3,
 ld 8 2 7,
 tAV 9 6 8,
 mv 10 9,
 tCV 11 41 1 1 1 2 10,
 tCW 12 2 1 11 10,
 tCV 13 41 1 1 1 3 10,
 tCW 14 2 1 13 10,
 tDC 15 2 12 14 10,
 tN 16 10 15,
 mv 17 16,
 tCV 18 41 2 2 1 2 17,
 tCW 19 2 1 18 17,
 tCV 20 41 2 2 1 3 17,
 tCW 21 2 1 20 17,
 tDC 22 2 19 21 17,
 tN 23 17 22,
 mv 24 23,
 tCV 25 41 3 3 1 2 24,
 tCW 26 24 1 25 24,
 tCV 27 41 3 3 1 3 24,
 tCW 28 24 1 27 24,
 og 29 (.call 46 [(.t 26),(.t 28)]) 24 true,
 tN 30 24 29,
 mv 31 30,
 tCV 32 41 4 4 1 2 31,
 tCW 33 2 1 32 31,
 tCV 34 41 4 4 1 3 31,
 tCW 35 2 1 34 31,
 tDC 36 2 33 35 31,
 tN 37 31 36,
 sg 4 37])
 .ret))
 modes:=[.lend,.lend]
 rets:=[⟨4,none⟩]}

def b49_0:VC:=
 (.seq
 (.seq
 (rg [0,2,3,4,15] [
 mv 14 4,
 tCN 15 14])
 (.cond (.t 15)
 .skip
 (.exit 0)))
 (.seq
 (.block 1
 (rg [0,2,3,4] [
 mv 18 0,
 tD 19 3,
 cl 20 74 [18,19],
 tQ 3 20]))
 (rg [0,2,3,4] [
 mv 16 4,
 tBX 17 16,
 sg 4 17])))
def l49_0:VC:=.loop b49_0
def v49 : VFun := {
 code:=
 (.seq
 (rg [0,2] [
 tR 2])
 (.seq
 (rg [0,2,3] [
 mv 5 0,
 vo 6 (.lit 78 2 1 3 [(.val (.int .i64 0))] [(0,(ci 1)),(1,(ci 4)),(2,(ci 12))]),
 tDI 7 30,
 mv 8 0,
 vo 9 (.lit 78 2 1 4 [(.val (.int .i64 0))] [(0,(ci 0)),(1,(ci 10)),(2,(ci 333)),(3,(ci 1000))]),
 cl 10 30 [8,9],
 vo 11 (.build 27 [(.val (.int .i64 0)),(.val (.int .i64 0)),(.nl 2),(.nl 5),(.nl 2),(.val (.int .i64 0)),(.val (.int .i64 0)),(.val (.int .i64 0))] [(0,0,1,(.t 7)),(1,1,1,(.t 10))]),
 tR 3,
 tQ 3 11])
 (.seq
 (.seq
 (rg [0,2,3,4] [
 mv 12 0,
 vo 13 (.call 23 [(.t 12),(ci 20)]),
 sg 4 13])
 (.block 0
 l49_0))
 (.seq
 (rg [0,2] [
 tD 21 3,
 tQ 2 21])
 .ret))))
 modes:=[.io]
 rets:=[⟨2,some (true,8)⟩]}

def v50 : VFun := {
 code:=
 (.seq
 (rg [0] [
 tAJ 2])
 (.seq
 (rg [0,3,5,21,24] [
 mv 4 0,
 cl 5 75 [4],
 sg 3 5])
 (.seq
 (.seq
 (rg [0,3,5,7,21,24] [
 mv 6 0,
 vo 7 (.call 23 [(.t 6),(ci 12)])])
 (.block 0
 (.seq
 (rg [0,3,5,7,8,21,24] [
 tAW 9 7,
 sg 8 9])
 (.cond (.t 8)
 (.region true [0,3,5,21,24] [
 mv 10 3,
 wo [0] 11 (.lit 88 9 1 3 [(.val (.string (⟨#[]⟩:ByteArray)))] [(0,(.c (.string (⟨#[]⟩:ByteArray)))),(1,(.c (.string (⟨#[97,32,98]⟩:ByteArray)))),(2,(.c (.string (⟨#[111,107]⟩:ByteArray))))]),
 tA [0,1] 12 0,
 wo [0,1] 13 (.call 23 [(.t 12),(ci 3)]),
 wo [0] 14 (.ia 88 9 1 (.t 11) (.t 13)),
 wo [0] 15 (.load 9 false 1 (.t 14)),
 tA [0,1,2,3,4,5] 16 0,
 wo [0,1,2,3,4,5,6] 17 (.lit 78 2 1 3 [(.val (.int .i64 0))] [(0,(ci 0)),(1,(ci 1)),(2,(ci 10000))]),
 wo [0,1,4,5] 18 (.call 30 [(.t 16),(.t 17)]),
 wo [0] 19 (.build 63 [(.val (.string (⟨#[]⟩:ByteArray))),(.val (.int .i64 0))] [(0,0,1,(.t 15)),(1,1,1,(.t 18))]),
 wo [0] 20 (.lit 24 63 2 1 [(.val (.string (⟨#[]⟩:ByteArray))),(.val (.int .i64 0))] [(0,(.t 19))]),
 tAH 21 10 20,
 sg 3 21])
 (.seq
 (rg [0,3,5,21,22,24] [
 tCK 23 7,
 sg 22 23])
 (.cond (.t 22)
 (rg [0,3,5,21,24] [
 vo 24 (.mk 24 63 2 24 [(.val (.string (⟨#[]⟩:ByteArray))),(.val (.int .i64 0))] (ci 13) (ci 13)),
 sg 3 24])
 .skip))))))
 (.seq
 (rg [0,2,3,5,21,24] [
 mv 25 3,
 sg 2 25])
 .ret))))
 modes:=[.io]
 rets:=[⟨2,none⟩]}

def v51 : VFun := {
 code:=
 (.seq
 (rg [0] [
 vo 2 (.asg (.c (.string (⟨#[]⟩:ByteArray))))])
 (.seq
 (rg [0,2] [
 vo 3 (.lit 88 9 1 4 [(.val (.string (⟨#[]⟩:ByteArray)))] [(0,(.c (.string (⟨#[98,111,98]⟩:ByteArray)))),(1,(.c (.string (⟨#[97,110,110]⟩:ByteArray)))),(2,(.c (.string (⟨#[101,118,101]⟩:ByteArray)))),(3,(.c (.string (⟨#[120,49]⟩:ByteArray))))]),
 mv 4 0,
 vo 5 (.call 23 [(.t 4),(ci 4)]),
 vo 6 (.ia 88 9 1 (.t 3) (.t 5)),
 ld 7 9 6,
 sg 2 7])
 .ret))
 modes:=[.io]
 rets:=[⟨2,none⟩]}

def b52_0:VC:=
 (.seq
 (rg [1,2,3,14,16,17,18,19,29] [
 tI 19 18 17])
 (.seq
 (.cond (.t 19)
 .skip
 (.exit 0))
 (.seq
 (.block 1
 (.seq
 (rg [1,2,3,5,14,16,17,18,29] [
 tW 20 16 18,
 tAC 21 20,
 tAL 5,
 tAM 5 21])
 (.seq
 (rg [1,2,3,5,14,16,17,18,29] [
 tAK 22 5,
 ld 23 24 22,
 cl 24 55 [23],
 tAK 25 5,
 tAG 25 24])
 (rg [1,2,3,14,16,17,18,29] [
 mv 26 3,
 tAC 27 5,
 vo 28 (.lit 25 41 5 1 [(.val (.int .i64 0)),(.val (.int .i64 0)),(.val (.int .i64 0)),(.nl 2),(.val (.int .i64 0))] [(0,(.t 27))]),
 tBV 29 26 28,
 sg 3 29]))))
 (rg [1,2,3,14,16,17,18,29] [
 tJ 30 18,
 mv 18 30]))))
def l52_0:VC:=.loop b52_0
def v52 : VFun := {
 code:=
 (.seq
 (rg [1,2] [
 tU 1 0,
 tR 2])
 (.seq
 (.region true [1,2] [
 tAD 6 1,
 ld 7 24 6,
 cl 8 55 [7],
 tDA [0,1,2] 9 27 4 4 1 1,
 tCB [0,1,2] 10 9,
 cl 11 55 [10],
 tDA [5] 12 27 2 2 1 1,
 tAG 12 8,
 tX 13 1,
 tAG 13 11])
 (.seq
 (rg [1,2,3,14,29] [
 vo 14 (.lit 25 41 5 0 [(.val (.int .i64 0)),(.val (.int .i64 0)),(.val (.int .i64 0)),(.nl 2),(.val (.int .i64 0))] []),
 sg 3 14])
 (.seq
 (.seq
 (rg [1,2,3,14,16,17,18,29] [
 tG 15 1,
 ld 16 25 15,
 tAA 17 16,
 tZ 18])
 (.block 0
 l52_0))
 (.seq
 (rg [1,2] [
 mv 31 3,
 tG 32 1,
 tBI 32 31])
 (.seq
 (rg [2] [
 tD 33 1,
 tQ 2 33])
 .ret))))))
 modes:=[.lend]
 rets:=[⟨2,some (true,8)⟩]}

def b53_0:VC:=
 (.seq
 (rg [0,1,7,8,9] [
 tI 9 8 7])
 (.seq
 (.cond (.t 9)
 .skip
 (.exit 0))
 (.seq
 (.block 1
 (.seq
 (rg [0,1,5,7,8] [
 mv 10 8,
 sg 5 10])
 (.seq
 (rg [0,1,5,7,8,16] [
 mv 11 1,
 mv 12 0,
 mv 13 5,
 tW 14 12 13,
 tAC 15 14,
 vo 16 (.callv (.t 11) [(.t 15)])])
 (.cond (.t 16)
 (.seq
 (rg [4] [
 mv 17 5,
 sg 4 17])
 .ret)
 .skip))))
 (rg [0,1,7,8] [
 tJ 18 8,
 mv 8 18]))))
def l53_0:VC:=.loop b53_0
def v53 : VFun := {
 code:=
 (.seq
 (rg [0,1] [
 tB 4])
 (.seq
 (.seq
 (rg [0,1,7,8] [
 mv 6 0,
 tAA 7 6,
 tZ 8])
 (.block 0
 l53_0))
 (.seq
 (rg [4] [
 tBO 4])
 .ret)))
 modes:=[.lend,.lend]
 rets:=[⟨4,none⟩]}

def v54 : VFun := {
 code:=
 (.seq
 (rg [1,2] [
 tDD 2 41 0,
 tK 3])
 (.seq
 (rg [3] [
 tAR 4 2,
 ld 5 2 4,
 ld 6 2 1,
 tAV 7 5 6,
 sg 3 7])
 .ret))
 modes:=[.lend,.lend]
 rets:=[⟨3,none⟩]}

def v56 : VFun := {
 code:=
 (.seq
 (rg [0,3] [
 tDD 3 9 1,
 tB 4])
 (.seq
 (rg [4] [
 mv 5 0,
 vo 6 (.fn 77 [] [(.t 3)]),
 tDI 7 76,
 sg 4 7])
 .ret))
 modes:=[.lend,.lend]
 rets:=[⟨4,none⟩]}

def v57 : VFun := {
 code:=
 (.seq
 (rg [0,1,2] [
 tK 6])
 (.seq
 (rg [6] [
 mv 7 0,
 mv 8 1,
 vo 9 (.bin false .geq 2 (.t 7) (.t 8)),
 mv 10 9,
 tCD 11 0,
 tCD 12 2,
 og 13 (.bin false .leq 2 (.t 11) (.t 12)) 10 true,
 tN 14 10 13,
 sg 6 14])
 .ret))
 modes:=[.lend,.lend,.lend]
 rets:=[⟨6,none⟩]}

def b58_0:VC:=
 (.seq
 (rg [3,7,8,9,10,11,33] [
 tI 11 10 9])
 (.seq
 (.cond (.t 11)
 .skip
 (.exit 0))
 (.seq
 (.block 1
 (.seq
 (rg [3,5,7,8,9,10,33] [
 tH 12 8 10,
 tAE 13 12,
 tAZ 5,
 tBA 5 13])
 (.seq
 (rg [3,5,6,7,8,9,10,33] [
 mv 14 3,
 tAI 15 5,
 ld 16 9 15,
 cl 17 56 [14,16],
 sg 6 17])
 (.seq
 (rg [3,5,6,7,8,9,10,19,33] [
 mv 18 6,
 tAN 19 18])
 (.cond (.t 19)
 (.region true [3,7,8,9,10,33] [
 mv 20 3,
 tA [0] 21 6,
 tH 22 20 21,
 tS 23 22,
 ld 24 2 23,
 tAQ [0,1,2,3,4] 25 5,
 tL [0,1,2,3,4] 26 25,
 tP 27 24 26,
 tH 28 20 21,
 tS 29 28,
 tY 29 27])
 (rg [3,7,8,9,10,33] [
 mv 30 3,
 tAE 31 5,
 vo 32 (.lit 24 63 2 1 [(.val (.string (⟨#[]⟩:ByteArray))),(.val (.int .i64 0))] [(0,(.t 31))]),
 tAH 33 30 32,
 sg 3 33]))))))
 (rg [3,7,8,9,10,33] [
 tJ 34 10,
 mv 10 34]))))
def l58_0:VC:=.loop b58_0
def v58 : VFun := {
 code:=
 (.seq
 (rg [0] [
 tAJ 2])
 (.seq
 (rg [0,3,7,33] [
 tAS 7,
 sg 3 7])
 (.seq
 (.seq
 (rg [3,7,8,9,10,33] [
 mv 8 0,
 tM 9 8,
 tZ 10])
 (.block 0
 l58_0))
 (.seq
 (rg [2,3,7,33] [
 mv 35 3,
 sg 2 35])
 .ret))))
 modes:=[.lend]
 rets:=[⟨2,none⟩]}

def b59_0:VC:=
 (.seq
 (rg [0,1,7,8,9] [
 tI 9 8 7])
 (.seq
 (.cond (.t 9)
 .skip
 (.exit 0))
 (.seq
 (.block 1
 (.seq
 (rg [0,1,5,7,8] [
 mv 10 8,
 sg 5 10])
 (.seq
 (rg [0,1,5,7,8,16] [
 mv 11 1,
 mv 12 0,
 mv 13 5,
 tBB 14 12 13,
 ld 15 2 14,
 tAV 16 11 15])
 (.cond (.t 16)
 (.seq
 (rg [4] [
 mv 17 5,
 sg 4 17])
 .ret)
 .skip))))
 (rg [0,1,7,8] [
 tJ 18 8,
 mv 8 18]))))
def l59_0:VC:=.loop b59_0
def v59 : VFun := {
 code:=
 (.seq
 (rg [0,1] [
 tB 4])
 (.seq
 (.seq
 (rg [0,1,7,8] [
 mv 6 0,
 tBM 7 6,
 tZ 8])
 (.block 0
 l59_0))
 (.seq
 (rg [4] [
 tBO 4])
 .ret)))
 modes:=[.lend,.lend]
 rets:=[⟨4,none⟩]}

def b60_0:VC:=
 (.seq
 (.seq
 (rg [0,3,4,15] [
 mv 12 4,
 mv 13 0,
 tBM 14 13,
 tI 15 12 14])
 (.cond (.t 15)
 .skip
 (.exit 0)))
 (.seq
 (.block 1
 (rg [0,3,4] [
 mv 18 3,
 mv 19 0,
 mv 20 4,
 tBB 21 19 20,
 ld 22 2 21,
 vo 23 (.mm true (.t 18) (.t 22)),
 sg 3 23]))
 (rg [0,3,4] [
 mv 16 4,
 tJ 17 16,
 sg 4 17])))
def l60_0:VC:=.loop b60_0
def v60 : VFun := {
 code:=
 (.seq
 (rg [0] [
 tB 2])
 (.seq
 (.seq
 (rg [0,7] [
 mv 5 0,
 tBM 6 5,
 vo 7 (.bin false .lss 3 (.t 6) (ci 1))])
 (.cond (.t 7)
 .any
 .skip))
 (.seq
 (rg [0,3] [
 mv 9 0,
 vo 10 (.ia 78 2 1 (.t 9) (ci 0)),
 ld 11 2 10,
 sg 3 11])
 (.seq
 (.seq
 (rg [0,3,4] [
 tAX 4])
 (.block 0
 l60_0))
 (.seq
 (rg [2] [
 mv 24 3,
 sg 2 24])
 .ret)))))
 modes:=[.lend]
 rets:=[⟨2,none⟩]}

def b61_0:VC:=
 (.seq
 (.seq
 (rg [0,3,11] [
 mv 8 3,
 mv 9 0,
 tM 10 9,
 tI 11 8 10])
 (.cond (.t 11)
 .skip
 (.exit 0)))
 (.seq
 (.block 1
 (.seq
 (rg [0,3,4] [
 mv 14 0,
 mv 15 3,
 tH 16 14 15,
 cl 17 78 [16],
 sg 4 17])
 (.seq
 (rg [0,3,4,19] [
 mv 18 4,
 tAB 19 18])
 (.cond (.t 19)
 (.seq
 (rg [2] [
 mv 20 4,
 sg 2 20])
 .ret)
 .skip))))
 (rg [0,3] [
 mv 12 3,
 tJ 13 12,
 sg 3 13])))
def l61_0:VC:=.loop b61_0
def v61 : VFun := {
 code:=
 (.seq
 (rg [0] [
 tB 2])
 (.seq
 (.seq
 (rg [0,7] [
 mv 5 0,
 tM 6 5,
 tCM 7 6])
 (.cond (.t 7)
 (.seq
 (rg [2] [
 vo 2 (.asg (ci 2))])
 .ret)
 .skip))
 (.seq
 (.seq
 (rg [0,3] [
 tB 3])
 (.block 0
 l61_0))
 (.seq
 (rg [2] [
 tB 2])
 .ret))))
 modes:=[.lend]
 rets:=[⟨2,none⟩]}

def v62 : VFun := {
 code:=
 (.seq
 (rg [0,1] [
 tB 4])
 (.seq
 (rg [0,1,5] [
 mv 6 0,
 mv 7 1,
 tW 8 6 7,
 sg 5 8])
 (.seq
 (.seq
 (rg [0,1,5,38] [
 mv 9 5,
 tE 10 9,
 tAR 11 10,
 ld 12 2 11,
 tDG 13 70,
 tO 14 13,
 mv 15 14,
 tCE 16 5,
 tDE 17 16 15,
 tCT 18 41 1 1 1 17 15,
 tCO 19 18,
 og 20 (.call 66 [(.t 19)]) 15 false,
 tCY 21 20 15,
 tF 22 15 21,
 mv 23 22,
 tCX 24 5 23,
 tDE 25 24 23,
 tCT 26 41 2 2 1 25 23,
 tCU 27 2 1 26 23,
 og 28 (.call 66 [(.t 27)]) 23 false,
 tCY 29 28 23,
 tF 30 23 29,
 mv 31 30,
 tCX 32 5 31,
 tDE 33 32 31,
 tCT 34 41 4 4 1 33 31,
 tCU 35 2 1 34 31,
 og 36 (.call 72 [(.t 35),(ci 1),(ci 3)]) 31 false,
 tCY 37 36 31,
 tF 38 31 37])
 (.cond (.t 38)
 (.seq
 (rg [4] [
 tAP 4])
 .ret)
 .skip))
 (.seq
 (.seq
 (.region true [0,1,5,69] [
 mv 39 5,
 tE 40 39,
 tAK 41 40,
 ld 42 24 41,
 tM 43 42,
 tCM 44 43,
 mv 45 44,
 tCX 46 5 45,
 tDE 47 46 45,
 tCT 48 41 3 3 1 47 45,
 tCU 49 24 1 48 45,
 og 50 (.call 63 [(.t 49)]) 45 false,
 tCY 51 50 45,
 tF 52 45 51,
 mv 53 52,
 tCX 54 5 53,
 tDE 55 54 53,
 tCT 56 41 3 3 1 55 53,
 tCU 57 24 1 56 53,
 og 58 (.call 64 [(.t 57)]) 53 false,
 ⟨some 59,.mov (.t 5),some (53,false),[15,16,17,18,19]⟩,
 ⟨some 60,.nilc (.t 59),some (53,false),[15,16,17,18,19]⟩,
 ⟨some 61,.fa 41 2 2 1 (.t 60),some (53,false),[15,16,17,18,19]⟩,
 ⟨some 62,.load 2 false 1 (.t 61),some (53,false),[15,16,17,18,19]⟩,
 og 63 (.bin false .add 2 (.t 58) (.t 62)) 53 false,
 ⟨some 64,.mov (.t 5),some (53,false),[15,16,17,18,19,20,21,22,23,24]⟩,
 ⟨some 65,.nilc (.t 64),some (53,false),[15,16,17,18,19,20,21,22,23,24]⟩,
 ⟨some 66,.fa 41 1 1 1 (.t 65),some (53,false),[15,16,17,18,19,20,21,22,23,24]⟩,
 ⟨some 67,.load 2 false 1 (.t 66),some (53,false),[15,16,17,18,19,20,21,22,23,24]⟩,
 tDH 68 2 63 67 53,
 tF 69 53 68])
 (.cond (.t 69)
 (.seq
 (rg [4] [
 tAX 4])
 .ret)
 .skip))
 (.seq
 (.seq
 (.region true [78] [
 mv 70 0,
 tA [0] 71 1,
 vo 72 (.cut 25 (some 41) 5 (.t 70) none (some (.t 71))),
 tA [0,1,2] 73 5,
 tV [0,1,2] 74 73,
 tDA [0,1,2] 75 41 0 0 1 74,
 tL [0,1,2] 76 75,
 cl 77 67 [72,76],
 tAN 78 77])
 (.cond (.t 78)
 (.seq
 (rg [4] [
 vo 4 (.asg (ci 6))])
 .ret)
 .skip))
 (.seq
 (rg [4] [
 tB 4])
 .ret))))))
 modes:=[.lend,.lend]
 rets:=[⟨4,none⟩]}

def b63_0:VC:=
 (.seq
 (.seq
 (rg [0,3,7] [
 mv 4 3,
 mv 5 0,
 tM 6 5,
 tI 7 4 6])
 (.cond (.t 7)
 .skip
 (.exit 0)))
 (.seq
 (.block 1
 (.seq
 (rg [0,3,44] [
 mv 10 0,
 mv 11 3,
 tH 12 10 11,
 tAI 13 12,
 ld 14 9 13,
 tCS 15 14,
 mv 16 15,
 tCX 17 0 16,
 tCX 18 3 16,
 tDL 19 24 63 2 17 18 16,
 tCT 20 63 0 0 1 19 16,
 tCU 21 9 1 20 16,
 og 22 (.call 79 [(.t 21)]) 16 false,
 tCY 23 22 16,
 tF 24 16 23,
 mv 25 24,
 tCX 26 0 25,
 tCX 27 3 25,
 tDL 28 24 63 2 26 27 25,
 tCT 29 63 1 1 1 28 25,
 tCU 30 2 1 29 25,
 og 31 (.call 66 [(.t 30)]) 25 false,
 tCY 32 31 25,
 tF 33 25 32,
 mv 34 33,
 tCF 35 0,
 tCF 36 0,
 tCF 37 3,
 tDL 38 24 63 2 36 37 34,
 tCT 39 63 0 0 1 38 34,
 tCU 40 9 1 39 34,
 og 41 (.call 80 [(.t 35),(.t 40)]) 34 false,
 tCF 42 3,
 tDH 43 3 41 42 34,
 tF 44 34 43])
 (.cond (.t 44)
 (.seq
 (rg [2] [
 tK 2])
 .ret)
 .skip)))
 (rg [0,3] [
 mv 8 3,
 tJ 9 8,
 sg 3 9])))
def l63_0:VC:=.loop b63_0
def v63 : VFun := {
 code:=
 (.seq
 (rg [0] [
 tK 2])
 (.seq
 (.seq
 (rg [0,3] [
 tB 3])
 (.block 0
 l63_0))
 (.seq
 (rg [2] [
 tBP 2])
 .ret)))
 modes:=[.lend]
 rets:=[⟨2,none⟩]}

def b64_0:VC:=
 (.seq
 (.seq
 (rg [0,3,4,8] [
 mv 5 4,
 mv 6 0,
 tM 7 6,
 tI 8 5 7])
 (.cond (.t 8)
 .skip
 (.exit 0)))
 (.seq
 (.block 1
 (rg [0,3,4] [
 mv 11 3,
 mv 12 0,
 mv 13 4,
 tH 14 12 13,
 tS 15 14,
 ld 16 2 15,
 tP 17 11 16,
 sg 3 17]))
 (rg [0,3,4] [
 mv 9 4,
 tJ 10 9,
 sg 4 10])))
def l64_0:VC:=.loop b64_0
def v64 : VFun := {
 code:=
 (.seq
 (rg [0] [
 tB 2])
 (.seq
 (rg [0,3] [
 tB 3])
 (.seq
 (.seq
 (rg [0,3,4] [
 tB 4])
 (.block 0
 l64_0))
 (.seq
 (rg [2] [
 mv 18 3,
 sg 2 18])
 .ret))))
 modes:=[.lend]
 rets:=[⟨2,none⟩]}

def b65_0:VC:=
 (.seq
 (.seq
 (rg [0,1,5,6,10] [
 mv 7 6,
 mv 8 0,
 tAA 9 8,
 tI 10 7 9])
 (.cond (.t 10)
 .skip
 (.exit 0)))
 (.seq
 (.block 1
 (.seq
 (rg [0,1,5,6,22] [
 mv 13 1,
 tO 14 13,
 mv 15 14,
 tCE 16 0,
 tCE 17 6,
 tDL 18 25 41 5 16 17 15,
 tCT 19 41 4 4 1 18 15,
 tCO 20 19,
 og 21 (.bin false .eql 2 (.t 20) (ci 2)) 15 false,
 tF 22 15 21])
 (.cond (.t 22)
 (rg [0,1,5,6] [
 mv 23 5,
 mv 24 0,
 mv 25 6,
 tW 26 24 25,
 tCZ 27 41 1 1 1 26,
 ld 28 2 27,
 tP 29 23 28,
 sg 5 29])
 .skip)))
 (rg [0,1,5,6] [
 mv 11 6,
 tJ 12 11,
 sg 6 12])))
def l65_0:VC:=.loop b65_0
def v65 : VFun := {
 code:=
 (.seq
 (rg [0,1] [
 tB 4])
 (.seq
 (rg [0,1,5] [
 tB 5])
 (.seq
 (.seq
 (rg [0,1,5,6] [
 tB 6])
 (.block 0
 l65_0))
 (.seq
 (rg [4] [
 mv 30 5,
 sg 4 30])
 .ret))))
 modes:=[.lend,.lend]
 rets:=[⟨4,none⟩]}

def v66 : VFun := {
 code:=
 (.seq
 (rg [0] [
 tK 2])
 (.seq
 (rg [2] [
 mv 3 0,
 vo 4 (.call 72 [(.t 3),(ci 0),(ci 1000000)]),
 sg 2 4])
 .ret))
 modes:=[.lend]
 rets:=[⟨2,none⟩]}

def b67_0:VC:=
 (.seq
 (.seq
 (rg [0,1,5,9] [
 mv 6 5,
 mv 7 0,
 tAA 8 7,
 tI 9 6 8])
 (.cond (.t 9)
 .skip
 (.exit 0)))
 (.seq
 (.block 1
 (.seq
 (rg [0,1,5,18] [
 mv 12 0,
 mv 13 5,
 tW 14 12 13,
 tAR 15 14,
 ld 16 2 15,
 mv 17 1,
 tAV 18 16 17])
 (.cond (.t 18)
 (.seq
 (rg [4] [
 mv 19 5,
 sg 4 19])
 .ret)
 .skip)))
 (rg [0,1,5] [
 mv 10 5,
 tJ 11 10,
 sg 5 11])))
def l67_0:VC:=.loop b67_0
def v67 : VFun := {
 code:=
 (.seq
 (rg [0,1] [
 tB 4])
 (.seq
 (.seq
 (rg [0,1,5] [
 tB 5])
 (.block 0
 l67_0))
 (.seq
 (rg [4] [
 tBO 4])
 .ret)))
 modes:=[.lend,.lend]
 rets:=[⟨4,none⟩]}

def b68_0:VC:=
 (.seq
 (.seq
 (rg [1,2,3,4,20] [
 mv 16 4,
 tG 17 1,
 ld 18 25 17,
 tAA 19 18,
 tI 20 16 19])
 (.cond (.t 20)
 .skip
 (.exit 0)))
 (.seq
 (.block 1
 (.seq
 (rg [1,2,3,4,5] [
 tG 23 1,
 ld 24 25 23,
 mv 25 4,
 tW 26 24 25,
 tAC 27 26,
 tAL 5,
 tAM 5 27])
 (.seq
 (rg [1,2,3,4,5] [
 tAK 28 5,
 ld 29 24 28,
 cl 30 81 [29],
 tAK 31 5,
 tAG 31 30])
 (rg [1,2,3,4] [
 tG 32 3,
 ld 33 25 32,
 tAC 34 5,
 vo 35 (.lit 25 41 5 1 [(.val (.int .i64 0)),(.val (.int .i64 0)),(.val (.int .i64 0)),(.nl 2),(.val (.int .i64 0))] [(0,(.t 34))]),
 tBV 36 33 35,
 tG 37 3,
 tBI 37 36]))))
 (rg [1,2,3,4] [
 mv 21 4,
 tJ 22 21,
 sg 4 22])))
def l68_0:VC:=.loop b68_0
def v68 : VFun := {
 code:=
 (.seq
 (rg [1,2] [
 tU 1 0,
 tR 2])
 (.seq
 (rg [1,2,3] [
 tD 6 1,
 tR 3,
 tQ 3 6])
 (.seq
 (rg [1,2,3] [
 tAD 7 1,
 ld 8 24 7,
 cl 9 81 [8],
 tAD 10 3,
 tAG 10 9])
 (.seq
 (rg [1,2,3] [
 tX 11 1,
 ld 12 24 11,
 tDG 13 81,
 tX 14 3,
 tAG 14 13])
 (.seq
 (rg [1,2,3] [
 tG 15 3,
 vn (.store 25 1 (.t 15) (.n 5))])
 (.seq
 (.seq
 (rg [1,2,3,4] [
 tB 4])
 (.block 0
 l68_0))
 (.seq
 (rg [2] [
 tD 38 3,
 tQ 2 38])
 .ret)))))))
 modes:=[.lend]
 rets:=[⟨2,some (true,8)⟩]}

def v69 : VFun := {
 code:=
 (.seq
 (rg [0] [
 tK 2])
 (.seq
 (rg [2] [
 mv 3 0,
 vo 4 (.bin false .neq 9 (.t 3) (.c (.string (⟨#[]⟩:ByteArray)))),
 mv 5 4,
 tDB 6 0 5,
 og 7 (.call 82 [(.t 6)]) 5 true,
 tN 8 5 7,
 sg 2 8])
 .ret))
 modes:=[.lend]
 rets:=[⟨2,none⟩]}

def v70 : VFun := {
 code:=
 (.seq
 (rg [0] [
 tK 2])
 (.seq
 (rg [2] [
 mv 3 0,
 vo 4 (.call 72 [(.t 3),(ci 0),(ci 2147483646)]),
 sg 2 4])
 .ret))
 modes:=[.lend]
 rets:=[⟨2,none⟩]}

def b71_2:VC:=
 (.seq
 (.seq
 (rg [7,8,9,12,13,18,19,45,57,68] [
 mv 65 13,
 mv 66 8,
 tBM 67 66,
 tI 68 65 67])
 (.cond (.t 68)
 .skip
 (.exit 4)))
 (.seq
 (.block 5
 (.seq
 (.region true [7,8,9,12,13,18,19,45,57,79] [
 mv 71 8,
 tA [0] 72 13,
 tBB 73 71 72,
 ld 74 2 73,
 tA [0,1,2,3] 75 8,
 tA [0,1,2,3,4] 76 12,
 wo [0,1,2,3] 77 (.ia 78 2 1 (.t 75) (.t 76)),
 tL [0,1,2,3] 78 77,
 tBS 79 74 78])
 (.cond (.t 79)
 (rg [7,8,9,12,13,18,19,45,57] [
 mv 80 13,
 sg 12 80])
 .skip)))
 (rg [7,8,9,12,13,18,19,45,57] [
 mv 69 13,
 tJ 70 69,
 sg 13 70])))
def l71_2:VC:=.loop b71_2
def b71_1:VC:=
 (.seq
 (.seq
 (rg [7,8,9,18,19,45,57,62] [
 mv 61 9,
 tCN 62 61])
 (.cond (.t 62)
 .skip
 (.exit 2)))
 (.seq
 (.block 3
 (.seq
 (rg [7,8,9,12,18,19,45,57] [
 tB 12])
 (.seq
 (.seq
 (rg [7,8,9,12,13,18,19,45,57] [
 tAX 13])
 (.block 4
 l71_2))
 (.seq
 (rg [7,8,9,12,18,19,45,57] [
 mv 81 7,
 mv 82 12,
 tH 83 81 82,
 tS 84 83,
 ld 85 2 84,
 tBW 86 85,
 tH 87 81 82,
 tS 88 87,
 tY 88 86])
 (rg [7,8,9,18,19,45,57] [
 mv 89 8,
 mv 90 12,
 tBB 91 89 90,
 vn (.store 2 1 (.t 91) (ci ((-1))))])))))
 (rg [7,8,9,18,19,45,57] [
 mv 63 9,
 tBX 64 63,
 sg 9 64])))
def l71_1:VC:=.loop b71_1
def b71_0:VC:=
 (.seq
 (.seq
 (rg [0,5,6,7,8,9,10,15,18,19,24,45,57] [
 mv 21 10,
 mv 22 5,
 tM 23 22,
 tI 24 21 23])
 (.cond (.t 24)
 .skip
 (.exit 0)))
 (.seq
 (.block 1
 (.seq
 (rg [0,5,6,7,8,9,10,11,15,18,19,45,57] [
 mv 27 0,
 mv 28 5,
 mv 29 10,
 tH 30 28 29,
 tS 31 30,
 ld 32 2 31,
 tBN 33 27 32,
 mv 34 6,
 tCL 35 33 34,
 sg 11 35])
 (.seq
 (rg [0,5,6,7,8,9,10,11,15,18,19,45,57] [
 mv 36 7,
 mv 37 5,
 mv 38 10,
 tH 39 37 38,
 tAI 40 39,
 ld 41 9 40,
 mv 42 11,
 vo 43 (.build 63 [(.val (.string (⟨#[]⟩:ByteArray))),(.val (.int .i64 0))] [(0,0,1,(.t 41)),(1,1,1,(.t 42))]),
 vo 44 (.lit 24 63 2 1 [(.val (.string (⟨#[]⟩:ByteArray))),(.val (.int .i64 0))] [(0,(.t 43))]),
 tAH 45 36 44,
 sg 7 45])
 (.seq
 (rg [0,5,6,7,8,9,10,11,15,18,19,45,57] [
 mv 46 8,
 mv 47 0,
 mv 48 5,
 mv 49 10,
 tH 50 48 49,
 tS 51 50,
 ld 52 2 51,
 tBN 53 47 52,
 mv 54 6,
 tBY 55 53 54,
 vo 56 (.lit 78 2 1 1 [(.val (.int .i64 0))] [(0,(.t 55))]),
 vo 57 (.app 78 2 1 8 (.t 46) (.t 56)),
 sg 8 57])
 (rg [0,5,6,7,8,9,10,15,18,19,45,57] [
 mv 58 9,
 mv 59 11,
 tCA 60 58 59,
 sg 9 60])))))
 (rg [0,5,6,7,8,9,10,15,18,19,45,57] [
 mv 25 10,
 tJ 26 25,
 sg 10 26])))
def l71_0:VC:=.loop b71_0
def v71 : VFun := {
 code:=
 (.seq
 (rg [0,1] [
 tAJ 4])
 (.seq
 (rg [0,5,15] [
 mv 14 1,
 cl 15 83 [14],
 sg 5 15])
 (.seq
 (rg [0,5,6,15] [
 mv 16 5,
 cl 17 64 [16],
 sg 6 17])
 (.seq
 (rg [0,5,6,7,15,18,45] [
 tAS 18,
 sg 7 18])
 (.seq
 (rg [0,5,6,7,8,15,18,19,45,57] [
 vo 19 (.lit 78 2 1 0 [(.val (.int .i64 0))] []),
 sg 8 19])
 (.seq
 (rg [0,5,6,7,8,9,15,18,19,45,57] [
 mv 20 0,
 sg 9 20])
 (.seq
 (.seq
 (rg [0,5,6,7,8,9,10,15,18,19,45,57] [
 tB 10])
 (.block 0
 l71_0))
 (.seq
 (.block 2
 l71_1)
 (.seq
 (rg [4,7,18,45] [
 mv 92 7,
 sg 4 92])
 .ret)))))))))
 modes:=[.lend,.lend]
 rets:=[⟨4,none⟩]}

def v72 : VFun := {
 code:=
 (.seq
 (rg [0,1,2] [
 tK 6])
 (.seq
 (rg [6] [
 mv 7 0,
 mv 8 1,
 vo 9 (.bin false .geq 2 (.t 7) (.t 8)),
 mv 10 9,
 tCD 11 0,
 tCD 12 2,
 og 13 (.bin false .leq 2 (.t 11) (.t 12)) 10 true,
 tN 14 10 13,
 sg 6 14])
 .ret))
 modes:=[.lend,.lend,.lend]
 rets:=[⟨6,none⟩]}

def b73_1:VC:=
 (.seq
 (.seq
 (rg [6,9,11,48,55] [
 mv 52 9,
 mv 53 6,
 tM 54 53,
 tI 55 52 54])
 (.cond (.t 55)
 .skip
 (.exit 2)))
 (.seq
 (.block 3
 (.seq
 (rg [6,9,11,48,64] [
 mv 58 6,
 mv 59 9,
 tH 60 58 59,
 tS 61 60,
 ld 62 2 61,
 cl 63 66 [62],
 tO 64 63])
 (.cond (.t 64)
 (.seq
 (rg [4,5,6,11,48] [
 tAJ 4,
 tAY 5])
 .ret)
 .skip)))
 (rg [6,9,11,48] [
 mv 56 9,
 tJ 57 56,
 sg 9 57])))
def l73_1:VC:=.loop b73_1
def b73_0:VC:=
 (.seq
 (.seq
 (rg [1,6,7,11,15,48] [
 mv 12 7,
 mv 13 1,
 tM 14 13,
 tI 15 12 14])
 (.cond (.t 15)
 .skip
 (.exit 0)))
 (.seq
 (.block 1
 (.seq
 (rg [1,6,7,8,11,48] [
 mv 18 6,
 mv 19 1,
 mv 20 7,
 tH 21 19 20,
 tAI 22 21,
 ld 23 9 22,
 cl 24 80 [18,23],
 sg 8 24])
 (.seq
 (rg [1,6,7,8,11,26,48] [
 mv 25 8,
 tAN 26 25])
 (.cond (.t 26)
 (.region true [1,6,7,11,48] [
 mv 27 6,
 tA [0] 28 8,
 tA [0,1] 29 6,
 tA [0,1,2] 30 8,
 tBC [0,1] 31 29 30,
 tAQ [0,1] 32 31,
 tL [0,1] 33 32,
 tA [0,1,2,3,4,5,6] 34 1,
 tA [0,1,2,3,4,5,6,7] 35 7,
 tBC [0,1,2,3,4,5,6] 36 34 35,
 tAQ [0,1,2,3,4,5,6] 37 36,
 tL [0,1,2,3,4,5,6] 38 37,
 tBG [0,1] 39 33 38,
 tH 40 27 28,
 tS 41 40,
 tY 41 39])
 (rg [1,6,7,11,48] [
 mv 42 6,
 mv 43 1,
 mv 44 7,
 tH 45 43 44,
 tAE 46 45,
 vo 47 (.lit 24 63 2 1 [(.val (.string (⟨#[]⟩:ByteArray))),(.val (.int .i64 0))] [(0,(.t 46))]),
 tAH 48 42 47,
 sg 6 48])))))
 (rg [1,6,7,11,48] [
 mv 16 7,
 tJ 17 16,
 sg 7 17])))
def l73_0:VC:=.loop b73_0
def v73 : VFun := {
 code:=
 (.seq
 (rg [0,1] [
 tAJ 4,
 tB 5])
 (.seq
 (rg [1,6,11,48] [
 mv 10 0,
 cl 11 81 [10],
 sg 6 11])
 (.seq
 (.seq
 (rg [1,6,7,11,48] [
 tB 7])
 (.block 0
 l73_0))
 (.seq
 (.seq
 (rg [6,11,48,51] [
 mv 49 6,
 tM 50 49,
 vo 51 (.bin false .gtr 3 (.t 50) (ci 8))])
 (.cond (.t 51)
 (.seq
 (rg [4,5,6,11,48] [
 tAJ 4,
 vo 5 (.asg (ci 10))])
 .ret)
 .skip))
 (.seq
 (.seq
 (rg [6,9,11,48] [
 tB 9])
 (.block 2
 l73_1))
 (.seq
 (rg [4,5,6,11,48] [
 mv 65 6,
 sg 4 65,
 tB 5])
 .ret))))))
 modes:=[.lend,.lend]
 rets:=[⟨4,none⟩,⟨5,none⟩]}

def v74 : VFun := {
 code:=
 (.seq
 (rg [0,3,4] [
 tU 3 1,
 tR 4])
 (.seq
 (rg [0,3,4,5] [
 vo 6 (.build 31 [(.val (.int .i64 0)),(.val (.int .i64 0)),(.val (.int .i64 0)),(.val (.int .i64 0)),(.nl 2),(.nl 5),(.nl 2),(.val (.int .i64 0)),(.val (.int .i64 0)),(.val (.int .i64 0))] [(0,0,1,(ci 1))]),
 tT 5,
 tC 5 6])
 (.seq
 (.seq
 (rg [0,3,4,5,8] [
 mv 7 0,
 vo 8 (.call 23 [(.t 7),(ci 6)])])
 (.block 0
 (.seq
 (.seq
 (rg [0,3,4,5,8,16] [
 tAW 17 8,
 sg 16 17])
 (.cond (.t 16)
 .skip
 (rg [0,3,4,5,8,16] [
 tCK 18 8,
 sg 16 18])))
 (.cond (.t 16)
 (.region true [0,3,4,5] [
 tD 19 3,
 tA [0] 20 0,
 wo [0] 21 (.call 51 [(.t 20)]),
 tA [0,1,2] 22 0,
 wo [0,1,2,3] 23 (.lit 78 2 1 3 [(.val (.int .i64 0))] [(0,(ci 1)),(1,(ci 2)),(2,(ci 5))]),
 wo [0] 24 (.call 30 [(.t 22),(.t 23)]),
 wo [0] 25 (.build 63 [(.val (.string (⟨#[]⟩:ByteArray))),(.val (.int .i64 0))] [(0,0,1,(.t 21)),(1,1,1,(.t 24))]),
 cl 26 84 [19,25],
 tC 5 26])
 (.seq
 (rg [0,3,4,5,8,27] [
 tAT 28 8,
 sg 27 28])
 (.cond (.t 27)
 (.region true [0,3,4,5] [
 tD 29 3,
 tA [0] 30 0,
 wo [0] 31 (.call 23 [(.t 30),(ci 5)]),
 tA [0,1,2] 32 0,
 wo [0,1,2,3] 33 (.lit 78 2 1 4 [(.val (.int .i64 0))] [(0,(ci 50)),(1,(ci 49)),(2,(ci 7)),(3,(ci 300000))]),
 wo [0] 34 (.call 30 [(.t 32),(.t 33)]),
 cl 35 43 [29,31,34],
 tC 5 35])
 (.seq
 (rg [0,3,4,5,8,36] [
 tBU 37 8,
 sg 36 37])
 (.cond (.t 36)
 (.region true [0,3,4,5] [
 tD 38 3,
 tA [0] 39 0,
 wo [0] 40 (.call 23 [(.t 39),(ci 5)]),
 cl 41 45 [38,40],
 tC 5 41])
 (.seq
 (rg [0,3,4,5,42] [
 vo 43 (.bin false .eql 2 (.t 8) (ci 4)),
 sg 42 43])
 (.cond (.t 42)
 (.region true [0,3,4,5] [
 tD 44 3,
 tA [0] 45 0,
 wo [0] 46 (.call 23 [(.t 45),(ci 5)]),
 cl 47 38 [44,46],
 tC 5 47])
 (.region true [0,3,4,5] [
 tD 9 3,
 tA [0] 10 0,
 wo [0] 11 (.call 51 [(.t 10)]),
 tA [0,1,2] 12 0,
 wo [0] 13 (.call 23 [(.t 12),(ci 30)]),
 wo [0] 14 (.bin false .add 2 (ci 1) (.t 13)),
 cl 15 85 [9,11,14],
 tC 5 15])))))))))))
 (.seq
 (.seq
 (rg [0,3,4,5,50] [
 tCZ 48 31 0 0 1 5,
 ld 49 2 48,
 tAB 50 49])
 (.cond (.t 50)
 (.seq
 (rg [0,4] [
 tD 51 3,
 tQ 4 51])
 .ret)
 .skip))
 (.seq
 (rg [0,4] [
 tBD 52 5,
 tD 53 52,
 tQ 4 53])
 .ret)))))
 modes:=[.io,.eat]
 rets:=[⟨4,some (true,8)⟩]}

def b75_0:VC:=
 (.seq
 (.seq
 (rg [0,3,4,5,9,20] [
 mv 8 4,
 tCN 9 8])
 (.cond (.t 9)
 .skip
 (.exit 0)))
 (.seq
 (.block 1
 (rg [0,3,4,5,20] [
 mv 12 3,
 mv 13 0,
 cl 14 51 [13],
 mv 15 0,
 vo 16 (.lit 78 2 1 5 [(.val (.int .i64 0))] [(0,(ci 1)),(1,(ci 2)),(2,(ci 3)),(3,(ci 7)),(4,(ci 9999))]),
 cl 17 30 [15,16],
 vo 18 (.build 63 [(.val (.string (⟨#[]⟩:ByteArray))),(.val (.int .i64 0))] [(0,0,1,(.t 14)),(1,1,1,(.t 17))]),
 vo 19 (.lit 24 63 2 1 [(.val (.string (⟨#[]⟩:ByteArray))),(.val (.int .i64 0))] [(0,(.t 18))]),
 tAH 20 12 19,
 sg 3 20]))
 (rg [0,3,4,5,20] [
 mv 10 4,
 tBX 11 10,
 sg 4 11])))
def l75_0:VC:=.loop b75_0
def v75 : VFun := {
 code:=
 (.seq
 (rg [0] [
 tAJ 2])
 (.seq
 (rg [0,3,5,20] [
 tAS 5,
 sg 3 5])
 (.seq
 (.seq
 (rg [0,3,4,5,20] [
 mv 6 0,
 vo 7 (.call 23 [(.t 6),(ci 8)]),
 sg 4 7])
 (.block 0
 l75_0))
 (.seq
 (rg [0,2,3,5,20] [
 mv 21 3,
 sg 2 21])
 .ret))))
 modes:=[.io]
 rets:=[⟨2,none⟩]}

def b76_0:VC:=
 (.seq
 (rg [0,1,7,8,9] [
 tI 9 8 7])
 (.seq
 (.cond (.t 9)
 .skip
 (.exit 0))
 (.seq
 (.block 1
 (.seq
 (rg [0,1,5,7,8] [
 mv 10 8,
 sg 5 10])
 (.seq
 (rg [0,1,5,7,8,16] [
 mv 11 1,
 mv 12 0,
 mv 13 5,
 tH 14 12 13,
 tAE 15 14,
 vo 16 (.callv (.t 11) [(.t 15)])])
 (.cond (.t 16)
 (.seq
 (rg [4] [
 mv 17 5,
 sg 4 17])
 .ret)
 .skip))))
 (rg [0,1,7,8] [
 tJ 18 8,
 mv 8 18]))))
def l76_0:VC:=.loop b76_0
def v76 : VFun := {
 code:=
 (.seq
 (rg [0,1] [
 tB 4])
 (.seq
 (.seq
 (rg [0,1,7,8] [
 mv 6 0,
 tM 7 6,
 tZ 8])
 (.block 0
 l76_0))
 (.seq
 (rg [4] [
 tBO 4])
 .ret)))
 modes:=[.lend,.lend]
 rets:=[⟨4,none⟩]}

def v77 : VFun := {
 code:=
 (.seq
 (rg [1,2] [
 tDD 2 63 0,
 tK 3])
 (.seq
 (rg [3] [
 tAI 4 2,
 ld 5 9 4,
 ld 6 9 1,
 vo 7 (.bin false .eql 9 (.t 5) (.t 6)),
 sg 3 7])
 .ret))
 modes:=[.lend,.lend]
 rets:=[⟨3,none⟩]}

def v78 : VFun := {
 code:=
 (.seq
 (rg [0] [
 tB 2])
 (.seq
 (.seq
 (rg [0,15] [
 mv 3 0,
 tE 4 3,
 tAI 5 4,
 ld 6 9 5,
 tCS 7 6,
 mv 8 7,
 tCX 9 0 8,
 tDE 10 9 8,
 tCT 11 63 0 0 1 10 8,
 tCU 12 9 1 11 8,
 og 13 (.call 79 [(.t 12)]) 8 false,
 tCY 14 13 8,
 tF 15 8 14])
 (.cond (.t 15)
 (.seq
 (rg [2] [
 vo 2 (.asg (ci 5))])
 .ret)
 .skip))
 (.seq
 (.seq
 (rg [21] [
 mv 16 0,
 tE 17 16,
 tS 18 17,
 ld 19 2 18,
 vo 20 (.call 72 [(.t 19),(ci 1),(ci 9999)]),
 tO 21 20])
 (.cond (.t 21)
 (.seq
 (rg [2] [
 tAP 2])
 .ret)
 .skip))
 (.seq
 (rg [2] [
 tB 2])
 .ret))))
 modes:=[.lend]
 rets:=[⟨2,none⟩]}

def b79_0:VC:=
 (.seq
 (.seq
 (rg [0,3,7] [
 mv 4 3,
 mv 5 0,
 vo 6 (.len true 9 (.t 5)),
 tI 7 4 6])
 (.cond (.t 7)
 .skip
 (.exit 0)))
 (.seq
 (.block 1
 (.seq
 (rg [0,3,14] [
 mv 10 0,
 mv 11 3,
 vo 12 (.idx 9 (.t 10) (.t 11)),
 tDG 13 86,
 tO 14 13])
 (.cond (.t 14)
 (.seq
 (rg [2] [
 tK 2])
 .ret)
 .skip)))
 (rg [0,3] [
 mv 8 3,
 tJ 9 8,
 sg 3 9])))
def l79_0:VC:=.loop b79_0
def v79 : VFun := {
 code:=
 (.seq
 (rg [0] [
 tK 2])
 (.seq
 (.seq
 (rg [0,3] [
 tB 3])
 (.block 0
 l79_0))
 (.seq
 (rg [2] [
 mv 15 0,
 vo 16 (.len true 9 (.t 15)),
 vo 17 (.bin false .leq 3 (.t 16) (ci 12)),
 sg 2 17])
 .ret)))
 modes:=[.lend]
 rets:=[⟨2,none⟩]}

def b80_0:VC:=
 (.seq
 (.seq
 (rg [0,1,5,9] [
 mv 6 5,
 mv 7 0,
 tM 8 7,
 tI 9 6 8])
 (.cond (.t 9)
 .skip
 (.exit 0)))
 (.seq
 (.block 1
 (.seq
 (rg [0,1,5,18] [
 mv 12 0,
 mv 13 5,
 tH 14 12 13,
 tAI 15 14,
 ld 16 9 15,
 mv 17 1,
 vo 18 (.bin false .eql 9 (.t 16) (.t 17))])
 (.cond (.t 18)
 (.seq
 (rg [4] [
 mv 19 5,
 sg 4 19])
 .ret)
 .skip)))
 (rg [0,1,5] [
 mv 10 5,
 tJ 11 10,
 sg 5 11])))
def l80_0:VC:=.loop b80_0
def v80 : VFun := {
 code:=
 (.seq
 (rg [0,1] [
 tB 4])
 (.seq
 (.seq
 (rg [0,1,5] [
 tB 5])
 (.block 0
 l80_0))
 (.seq
 (rg [4] [
 tBO 4])
 .ret)))
 modes:=[.lend,.lend]
 rets:=[⟨4,none⟩]}

def v81 : VFun := {
 code:=
 (.seq
 (rg [0] [
 tAJ 2])
 (.seq
 (rg [2,5] [
 tAS 3,
 mv 4 0,
 tAH 5 3 4,
 sg 2 5])
 .ret))
 modes:=[.lend]
 rets:=[⟨2,none⟩]}

def v82 : VFun := {
 code:=
 (.seq
 (rg [0] [
 tK 2])
 (.seq
 (rg [2] [
 mv 3 0,
 vo 4 (.len true 9 (.t 3)),
 vo 5 (.bin false .leq 3 (.t 4) (ci 12)),
 mv 6 5,
 tDB 7 0 6,
 og 8 (.call 87 [(.t 7),(.c (.string (⟨#[97,98,99,100,101,102,103,104,105,106,107,108,109,110,111,112,113,114,115,116,117,118,119,120,121,122,65,66,67,68,69,70,71,72,73,74,75,76,77,78,79,80,81,82,83,84,85,86,87,88,89,90,48,49,50,51,52,53,54,55,56,57]⟩:ByteArray)))]) 6 true,
 og 9 (.bin false .eql 9 (.t 8) (.c (.string (⟨#[]⟩:ByteArray)))) 6 true,
 tN 10 6 9,
 sg 2 10])
 .ret))
 modes:=[.lend]
 rets:=[⟨2,none⟩]}

def b83_0:VC:=
 (.seq
 (.seq
 (rg [0,3,4,6,10,43] [
 mv 7 4,
 mv 8 0,
 tM 9 8,
 tI 10 7 9])
 (.cond (.t 10)
 .skip
 (.exit 0)))
 (.seq
 (.block 1
 (.seq
 (rg [0,3,4,5,6,43] [
 mv 13 3,
 mv 14 0,
 mv 15 4,
 tH 16 14 15,
 tAI 17 16,
 ld 18 9 17,
 cl 19 80 [13,18],
 sg 5 19])
 (.seq
 (rg [0,3,4,5,6,21,43] [
 mv 20 5,
 tAN 21 20])
 (.cond (.t 21)
 (.region true [0,3,4,6,43] [
 mv 22 3,
 tA [0] 23 5,
 tA [0,1] 24 3,
 tA [0,1,2] 25 5,
 tBC [0,1] 26 24 25,
 tAQ [0,1] 27 26,
 tL [0,1] 28 27,
 tA [0,1,2,3,4,5,6] 29 0,
 tA [0,1,2,3,4,5,6,7] 30 4,
 tBC [0,1,2,3,4,5,6] 31 29 30,
 tAQ [0,1,2,3,4,5,6] 32 31,
 tL [0,1,2,3,4,5,6] 33 32,
 tBG [0,1] 34 28 33,
 tH 35 22 23,
 tS 36 35,
 tY 36 34])
 (rg [0,3,4,6,43] [
 mv 37 3,
 mv 38 0,
 mv 39 4,
 tH 40 38 39,
 tAE 41 40,
 vo 42 (.lit 24 63 2 1 [(.val (.string (⟨#[]⟩:ByteArray))),(.val (.int .i64 0))] [(0,(.t 41))]),
 tAH 43 37 42,
 sg 3 43])))))
 (rg [0,3,4,6,43] [
 mv 11 4,
 tJ 12 11,
 sg 4 12])))
def l83_0:VC:=.loop b83_0
def v83 : VFun := {
 code:=
 (.seq
 (rg [0] [
 tAJ 2])
 (.seq
 (rg [0,3,6,43] [
 tAS 6,
 sg 3 6])
 (.seq
 (.seq
 (rg [0,3,4,6,43] [
 tB 4])
 (.block 0
 l83_0))
 (.seq
 (rg [2,3,6,43] [
 mv 44 3,
 sg 2 44])
 .ret))))
 modes:=[.lend]
 rets:=[⟨2,none⟩]}

def v84 : VFun := {
 code:=
 (.seq
 (rg [2,3,4] [
 tU 2 0,
 tDD 3 63 1,
 tT 4])
 (.seq
 (.seq
 (rg [2,3,4,5] [
 cl 7 78 [3],
 sg 5 7])
 (.seq
 (rg [2,3,4,5,9] [
 mv 8 5,
 tAB 9 8])
 (.cond (.t 9)
 (.seq
 (rg [4] [
 mv 10 5,
 cl 11 37 [10],
 tC 4 11])
 .ret)
 .skip)))
 (.seq
 (rg [2,3,4,6] [
 tD 12 2,
 tDG 13 68,
 tR 6,
 tQ 6 13])
 (.seq
 (rg [4,6] [
 tAD 14 2,
 ld 15 24 14,
 tAE 16 3,
 tAO 17 2,
 ld 18 2 17,
 cl 19 88 [15,16,18],
 tAD 20 6,
 tAG 20 19])
 (.seq
 (rg [4] [
 tD 21 6,
 vo 22 (.build 31 [(.val (.int .i64 0)),(.val (.int .i64 0)),(.val (.int .i64 0)),(.val (.int .i64 0)),(.nl 2),(.nl 5),(.nl 2),(.val (.int .i64 0)),(.val (.int .i64 0)),(.val (.int .i64 0))] [(2,2,8,(.t 21))]),
 tC 4 22])
 .ret)))))
 modes:=[.lend,.lend]
 rets:=[⟨4,some (true,10)⟩]}

def v85 : VFun := {
 code:=
 (.seq
 (rg [1,2,3,6] [
 tU 3 0,
 tT 6])
 (.seq
 (rg [2,3,6,7] [
 tX 9 3,
 ld 10 24 9,
 mv 11 1,
 cl 12 80 [10,11],
 sg 7 12])
 (.seq
 (.seq
 (rg [2,3,6,7,23] [
 mv 13 7,
 tBJ 14 13,
 mv 15 14,
 tCT 16 27 4 4 1 3 15,
 tCU 17 24 1 16 15,
 tCE 18 7,
 tDL 19 24 63 2 17 18 15,
 tCT 20 63 1 1 1 19 15,
 tCO 21 20,
 tDM 22 2 21 15,
 tF 23 15 22])
 (.cond (.t 23)
 (.seq
 (rg [6] [
 vo 24 (.call 37 [(ci 4)]),
 tC 6 24])
 .ret)
 .skip))
 (.seq
 (.seq
 (rg [2,3,6,7,33] [
 mv 25 2,
 tX 26 3,
 ld 27 24 26,
 mv 28 7,
 tH 29 27 28,
 tS 30 29,
 ld 31 2 30,
 vo 32 (.call 72 [(.t 25),(ci 1),(.t 31)]),
 tO 33 32])
 (.cond (.t 33)
 (.seq
 (rg [6] [
 vo 34 (.call 37 [(ci 3)]),
 tC 6 34])
 .ret)
 .skip))
 (.seq
 (.seq
 (rg [2,3,6,7,40] [
 tCZ 35 27 5 5 1 3,
 ld 36 2 35,
 mv 37 2,
 tP 38 36 37,
 cl 39 66 [38],
 tO 40 39])
 (.cond (.t 40)
 (.seq
 (rg [6] [
 tCC 41,
 tC 6 41])
 .ret)
 .skip))
 (.seq
 (rg [2,3,6,7,8] [
 tD 42 3,
 cl 43 68 [42],
 tR 8,
 tQ 8 43])
 (.seq
 (.region true [2,3,6,8] [
 tX 44 8,
 ld 45 24 44,
 tA [0,1] 46 7,
 tDA [0,1,2] 47 27 4 4 1 3,
 tCB [0,1,2] 48 47,
 tA [0,1,2,3,4] 49 7,
 tBC [0,1,2] 50 48 49,
 tAQ [0,1,2] 51 50,
 tL [0,1,2] 52 51,
 tA [0,1,2,3,4,5,6,7,8] 53 2,
 wo [0,1,2] 54 (.bin false .sub 2 (.t 52) (.t 53)),
 tH 55 45 46,
 tS 56 55,
 tY 56 54])
 (.seq
 (rg [6,8] [
 tCZ 57 27 5 5 1 3,
 ld 58 2 57,
 mv 59 2,
 tP 60 58 59,
 tCZ 61 27 5 5 1 8,
 tY 61 60])
 (.seq
 (rg [6] [
 tD 62 8,
 vo 63 (.build 31 [(.val (.int .i64 0)),(.val (.int .i64 0)),(.val (.int .i64 0)),(.val (.int .i64 0)),(.nl 2),(.nl 5),(.nl 2),(.val (.int .i64 0)),(.val (.int .i64 0)),(.val (.int .i64 0))] [(2,2,8,(.t 62))]),
 tC 6 63])
 .ret)))))))))
 modes:=[.lend,.lend,.lend]
 rets:=[⟨6,some (true,10)⟩]}

def v86 : VFun := {
 code:=
 (.seq
 (rg [0] [
 tK 2])
 (.seq
 (rg [2] [
 mv 3 0,
 vo 4 (.bin false .geq 5 (.t 3) (.c (.int .u8 97))),
 mv 5 4,
 tDB 6 0 5,
 og 7 (.bin false .leq 5 (.t 6) (.c (.int .u8 122))) 5 true,
 tN 8 5 7,
 mv 9 8,
 tCX 10 0 9,
 og 11 (.bin false .geq 5 (.t 10) (.c (.int .u8 65))) 9 false,
 tCX 12 11 9,
 tDB 13 0 12,
 og 14 (.bin false .leq 5 (.t 13) (.c (.int .u8 90))) 12 true,
 tDJ 15 12 14 9,
 tF 16 9 15,
 mv 17 16,
 tCX 18 0 17,
 og 19 (.bin false .geq 5 (.t 18) (.c (.int .u8 48))) 17 false,
 tCX 20 19 17,
 tDB 21 0 20,
 og 22 (.bin false .leq 5 (.t 21) (.c (.int .u8 57))) 20 true,
 tDJ 23 20 22 17,
 tF 24 17 23,
 sg 2 24])
 .ret))
 modes:=[.lend]
 rets:=[⟨2,none⟩]}

def b88_0:VC:=
 (.seq
 (.seq
 (rg [2,7,13,17] [
 mv 14 7,
 tM 15 14,
 mv 16 2,
 tBS 17 15 16])
 (.cond (.t 17)
 .skip
 (.exit 0)))
 (.block 1
 (rg [2,7,13] [
 mv 18 7,
 vo 19 (.cut 24 (some 63) 2 (.t 18) (some (ci 1)) none),
 sg 7 19])))
def l88_0:VC:=.loop b88_0
def v88 : VFun := {
 code:=
 (.seq
 (rg [0,2,4] [
 tDD 4 63 1,
 tAJ 6])
 (.seq
 (.region true [2,7,13] [
 tAS 8,
 tA [0] 9 0,
 tAH 10 8 9,
 wo [0,1,2] 11 (.load 63 true 2 (.t 4)),
 wo [0,1,2] 12 (.lit 24 63 2 1 [(.val (.string (⟨#[]⟩:ByteArray))),(.val (.int .i64 0))] [(0,(.t 11))]),
 tAH 13 10 12,
 sg 7 13])
 (.seq
 (.block 0
 l88_0)
 (.seq
 (rg [6,22] [
 tAS 20,
 mv 21 7,
 tAH 22 20 21,
 sg 6 22])
 .ret))))
 modes:=[.lend,.lend,.lend]
 rets:=[⟨6,none⟩]}

def tab:List (Nat × VFun):=[(3,v3),(4,v4),(5,v5),(6,v6),(7,v7),(8,v8),(9,v9),(10,v10),(11,v11),(12,v12),(13,v13),(14,v14),(15,v15),(16,v16),(17,v17),(18,v18),(19,v19),(20,v20),(21,v21),(22,v22),(23,v23),(24,v24),(25,v25),(26,v26),(27,v27),(28,v28),(29,v29),(30,v30),(31,v31),(32,v32),(33,v33),(34,v34),(35,v35),(36,v36),(37,v37),(38,v38),(39,v39),(40,v40),(41,v41),(42,v42),(43,v43),(44,v44),(45,v45),(46,v46),(47,v47),(48,v48),(49,v49),(50,v50),(51,v51),(52,v52),(53,v53),(54,v54),(56,v56),(57,v57),(58,v58),(59,v59),(60,v60),(61,v61),(62,v62),(63,v63),(64,v64),(65,v65),(66,v66),(67,v67),(68,v68),(69,v69),(70,v70),(71,v71),(72,v72),(73,v73),(74,v74),(75,v75),(76,v76),(77,v77),(78,v78),(79,v79),(80,v80),(81,v81),(82,v82),(83,v83),(84,v84),(85,v85),(86,v86),(88,v88)]
def F (f:FuncId):Option VFun:=getA none (tab.map fun x=>(x.1,some x.2)) f
theorem tab_ok:tab.all (fun x=>matchFun Tryz.prog x.1 x.2)=true:=by kernel_rfl
theorem F_mem {f:FuncId} {fn:VFun}:∀ {l:List (Nat × VFun)},getA none (l.map fun x=>(x.1,some x.2)) f=some fn→(f,fn)∈l
  |[],h=>by simp[getA] at h
  |(k,v)::l,h=>by
    simp only[List.map_cons,getA] at h
    split at h
    · rename_i e
      injection h with h
      subst e; subst h
      exact List.mem_cons_self ..
    · exact List.mem_cons_of_mem _ (F_mem h)
theorem F_ok (f:FuncId) (fn:VFun) (h:F f=some fn):matchFun Tryz.prog f fn=true:=List.all_eq_true.1 tab_ok _ (F_mem h)
end Go.Proofs.YtihjlmgakpgkeaaGreatDoor.Ledgers
