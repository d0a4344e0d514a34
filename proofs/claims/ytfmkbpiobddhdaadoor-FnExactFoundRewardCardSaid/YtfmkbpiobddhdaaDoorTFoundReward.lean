/- V's text of the functions that this law reaches. -/
import Derived.Test.YtfmkbpiobddhdaaDoorVCode
import Derived.Test.YtfmkbpiobddhdaaDoorRows
import Derived.KernelRfl
namespace Go.Proofs.YtfmkbpiobddhdaaDoor.FoundReward
open Go Go.Proofs.YtfmkbpiobddhdaaDoor.V
set_option maxRecDepth 20000
def vo (d : Nat) (x : VOp) : VO := ⟨some d, x, none, []⟩
def vn (x : VOp) : VO := ⟨none, x, none, []⟩
instance (n : Nat) : OfNat VX n := ⟨.t n⟩
def k64 (n : Int) : VX := .c (.int .i64 n)
def z64 : CV := .val (.int .i64 0)
def _root_.Go.Proofs.YtfmkbpiobddhdaaDoor.V.VC.r (k : List Nat) (o : List VO) : VC := .region false k o
def mv (d : Nat) (x : VX) : VO := vo d (.mov x)
def ld (d t : Nat) (x : VX) : VO := vo d (.load t false 1 x)
def sg (d : Nat) (x : VX) : VO := vo d (.asg x)

def v9 : VFun := {
code :=
(.seq
(.r [1, 2, 3] [
vo 3 (.box 25 0),
vo 6 (.asg (.c (.bool false)))])
(.seq
(.r [1, 2, 3, 7] [
vo 7 (.asg (k64 1048576))])
(.seq
(.r [1, 2, 3, 7] [
vo 15 (.load 25 true 8 3),
mv 16 7,
vo 17 (.call 14 [15, 16]),
sg 7 17])
(.seq
(.seq
(.r [1, 2, 3, 19] [
mv 18 7,
vo 19 (.bin false .lss 3 18 (k64 0))])
(.cond 19
(.seq
(.r [6] [
vo 6 (.asg (.c (.bool true)))])
.ret)
.skip))
(.seq
(.r [1, 2, 3, 8] [
vo 20 (.load 25 true 8 3),
vo 21 (.call 16 [20]),
mv 22 1,
mv 23 2,
vo 24 (.call 36 [21, 22, 23]),
vo 8 (.alloc 44 [z64, z64, z64, z64, (.nl 2), (.nl 5), (.nl 2), z64, z64, z64]),
vn (.store 44 10 8 24)])
(.seq
(.r [1, 2, 3, 8, 9] [
vo 25 (.load 25 true 8 3),
vo 26 (.call 16 [25]),
vo 9 (.alloc 31 [z64, z64, (.nl 2), (.nl 5), (.nl 2), z64, z64, z64]),
vn (.store 31 8 9 26)])
(.seq
(.r [1, 2, 3, 8, 9, 10] [
vo 27 (.load 31 true 8 9),
mv 28 1,
mv 29 2,
vo 30 (.call 37 [27, 28, 29]),
vo 10 (.alloc 44 [z64, z64, z64, z64, (.nl 2), (.nl 5), (.nl 2), z64, z64, z64]),
vn (.store 44 10 10 30)])
(.seq
(.seq
(.r [1, 2, 3, 8, 9, 10, 34] [
vo 31 (.load 44 true 10 10),
vo 32 (.load 44 true 10 8),
vo 33 (.call 26 [31, 32]),
vo 34 (.un .not 33)])
(.cond 34
(.seq
(.r [6] [
vo 6 (.asg (.c (.bool false)))])
.ret)
.skip))
(.seq
(.seq
(.region true [1, 2, 3, 8, 9, 10, 39] [
vo 35 (.load 31 true 8 9),
⟨some 36, .load 25 true 8 3, none, [0]⟩,
⟨some 37, .call 16 [36], none, [0]⟩,
vo 38 (.call 18 [35, 37]),
vo 39 (.un .not 38)])
(.cond 39
(.seq
(.r [6] [
vo 6 (.asg (.c (.bool false)))])
.ret)
.skip))
(.seq
(.r [1, 2, 3, 8, 9, 10, 11] [
vo 11 (.asg (k64 1))])
(.seq
(.r [1, 2, 3, 8, 10, 11] [
vo 40 (.load 31 true 8 9),
mv 41 11,
vo 42 (.call 27 [40, 41]),
sg 11 42])
(.seq
(.seq
(.r [1, 2, 3, 8, 10, 50] [
mv 43 11,
vo 44 (.bin false .lss 3 43 (k64 0)),
mv 45 44,
⟨some 46, .load 44 true 10 10, some (45, false), []⟩,
⟨some 47, .load 44 true 10 8, some (45, false), []⟩,
⟨some 48, .call 26 [46, 47], some (45, false), []⟩,
⟨some 49, .un .not 48, some (45, false), []⟩,
vo 50 (.pick 45 (.c (.bool true)) 49)])
(.cond 50
(.seq
(.r [6] [
vo 6 (.asg (.c (.bool false)))])
.ret)
.skip))
(.seq
(.r [1, 2, 3, 8, 10, 12] [
vo 12 (.asg (k64 1))])
(.seq
(.r [1, 2, 3, 8, 10, 12] [
vo 51 (.load 44 true 10 10),
mv 52 12,
vo 53 (.call 28 [51, 52]),
sg 12 53])
(.seq
(.r [1, 2, 3, 8, 10, 12, 13] [
vo 13 (.asg (k64 1))])
(.seq
(.r [1, 2, 3, 8, 10, 12, 13] [
vo 54 (.load 44 true 10 10),
mv 55 13,
vo 56 (.call 29 [54, 55]),
sg 13 56])
(.seq
(.seq
(.r [1, 2, 3, 8, 10, 12, 13, 58] [
mv 57 13,
vo 58 (.bin false .lss 3 57 (k64 0))])
(.cond 58
(.seq
(.r [6] [
vo 6 (.asg (.c (.bool false)))])
.ret)
.skip))
(.seq
(.seq
(.r [1, 2, 3, 8, 10, 12, 61] [
mv 59 13,
mv 60 12,
vo 61 (.bin false .neq 3 59 60)])
(.cond 61
(.seq
(.r [6] [
vo 6 (.asg (.c (.bool false)))])
.ret)
.skip))
(.seq
(.r [8, 10, 12, 14] [
vo 62 (.load 25 true 8 3),
vo 63 (.call 16 [62]),
mv 64 1,
mv 65 2,
vo 66 (.call 37 [63, 64, 65]),
vo 14 (.alloc 44 [z64, z64, z64, z64, (.nl 2), (.nl 5), (.nl 2), z64, z64, z64]),
vn (.store 44 10 14 66)])
(.seq
(.seq
(.r [10, 12, 70] [
vo 67 (.load 44 true 10 14),
vo 68 (.load 44 true 10 8),
vo 69 (.call 26 [67, 68]),
vo 70 (.un .not 69)])
(.cond 70
(.seq
(.r [6] [
vo 6 (.asg (.c (.bool false)))])
.ret)
.skip))
(.seq
(.r [10, 12, 13] [
vo 13 (.asg (k64 1))])
(.seq
(.r [12, 13] [
vo 71 (.load 44 true 10 10),
mv 72 13,
vo 73 (.call 29 [71, 72]),
sg 13 73])
(.seq
(.seq
(.r [12, 13, 75] [
mv 74 13,
vo 75 (.bin false .lss 3 74 (k64 0))])
(.cond 75
(.seq
(.r [6] [
vo 6 (.asg (.c (.bool false)))])
.ret)
.skip))
(.seq
(.seq
(.r [78] [
mv 76 13,
mv 77 12,
vo 78 (.bin false .neq 3 76 77)])
(.cond 78
(.seq
(.r [6] [
vo 6 (.asg (.c (.bool false)))])
.ret)
.skip))
(.seq
(.r [6] [
vo 6 (.asg (.c (.bool true)))])
.ret)))))))))))))))))))))))))
modes := [.lend, .lend, .lend]
rets := [⟨6, none⟩] }

def v14 : VFun := {
code :=
(.seq
(.r [1, 2] [
vo 2 (.box 25 0),
vo 4 (.asg (k64 0))])
(.seq
(.r [1, 2] [
vo 5 (.fa 25 2 2 1 2),
ld 6 22 5,
mv 7 1,
vo 8 (.call 66 [6, 7]),
sg 1 8])
(.seq
(.seq
(.r [1, 2, 10] [
mv 9 1,
vo 10 (.bin false .lss 3 9 (k64 0))])
(.cond 10
(.seq
(.r [4] [
vo 4 (.asg (k64 (-1)))])
.ret)
.skip))
(.seq
(.r [1, 2] [
vo 11 (.fa 25 3 3 1 2),
ld 12 23 11,
mv 13 1,
vo 14 (.call 67 [12, 13]),
sg 1 14])
(.seq
(.seq
(.r [1, 2, 16] [
mv 15 1,
vo 16 (.bin false .lss 3 15 (k64 0))])
(.cond 16
(.seq
(.r [4] [
vo 4 (.asg (k64 (-1)))])
.ret)
.skip))
(.seq
(.r [1] [
vo 17 (.fa 25 4 4 1 2),
ld 18 22 17,
mv 19 1,
vo 20 (.call 66 [18, 19]),
sg 1 20])
(.seq
(.seq
(.r [1, 22] [
mv 21 1,
vo 22 (.bin false .lss 3 21 (k64 0))])
(.cond 22
(.seq
(.r [4] [
vo 4 (.asg (k64 (-1)))])
.ret)
.skip))
(.seq
(.r [4] [
mv 23 1,
sg 4 23])
.ret))))))))
modes := [.lend, .lend]
rets := [⟨4, none⟩] }

def v16 : VFun := {
code :=
(.seq
(.r [1, 2] [
vo 1 (.box 25 0),
vo 2 (.alloc 31 [z64, z64, (.nl 2), (.nl 5), (.nl 2), z64, z64, z64])])
(.seq
(.r [1, 2, 3] [
vo 3 (.alloc 31 [z64, z64, (.nl 2), (.nl 5), (.nl 2), z64, z64, z64])])
(.seq
(.r [1, 2, 3] [
vo 4 (.fa 25 0 0 1 1),
ld 5 2 4,
vo 6 (.fa 31 0 0 1 3),
vn (.store 2 1 6 5)])
(.seq
(.r [1, 2, 3] [
vo 7 (.fa 25 1 1 1 1),
ld 8 2 7,
vo 9 (.fa 31 1 1 1 3),
vn (.store 2 1 9 8)])
(.seq
(.r [1, 2, 3] [
vo 10 (.fa 25 2 2 1 1),
ld 11 22 10,
vo 12 (.call 69 [11]),
vo 13 (.fa 31 2 2 1 3),
vn (.store 28 1 13 12)])
(.seq
(.r [1, 2, 3] [
vo 14 (.fa 25 3 3 1 1),
ld 15 23 14,
vo 16 (.call 70 [15]),
vo 17 (.fa 31 3 3 1 3),
vn (.store 29 1 17 16)])
(.seq
(.r [1, 2, 3] [
vo 18 (.fa 25 4 4 1 1),
ld 19 22 18,
vo 20 (.call 69 [19]),
vo 21 (.fa 31 4 4 1 3),
vn (.store 28 1 21 20)])
(.seq
(.r [1, 2, 3] [
vo 22 (.fa 25 5 5 1 1),
ld 23 2 22,
vo 24 (.fa 31 5 5 1 3),
vn (.store 2 1 24 23)])
(.seq
(.r [1, 2, 3] [
vo 25 (.fa 25 6 6 1 1),
ld 26 2 25,
vo 27 (.fa 31 6 6 1 3),
vn (.store 2 1 27 26)])
(.seq
(.r [2, 3] [
vo 28 (.fa 25 7 7 1 1),
ld 29 2 28,
vo 30 (.fa 31 7 7 1 3),
vn (.store 2 1 30 29)])
(.seq
(.r [2] [
vo 31 (.load 31 true 8 3),
vn (.store 31 8 2 31)])
.ret)))))))))))
modes := [.lend]
rets := [⟨2, some (true, 8)⟩] }

def b17_0 : VC :=
(.seq
(.r [1, 56, 57, 58, 59] [
vo 59 (.bin false .lss 3 58 57)])
(.seq
(.cond 59
.skip
(.exit 0))
(.seq
(.block 1
(.seq
(.r [1, 4, 5, 56, 57, 58] [
mv 60 58,
vo 61 (.ia 29 107 5 56 58),
vo 62 (.load 107 true 5 61),
vo 5 (.alloc 107 [z64, z64, z64, (.nl 2), z64]),
sg 4 60,
vn (.store 107 5 5 62)])
(.seq
(.region true [1, 6, 56, 57, 58] [
vo 63 (.load 107 true 5 5),
⟨some 64, .fa 31 3 3 1 1, none, [0]⟩,
⟨some 65, .load 29 false 1 64, none, [0]⟩,
⟨some 66, .mov 4, none, [0, 1, 2]⟩,
⟨some 67, .cut 29 (some 107) 5 65 none (some 66), none, [0]⟩,
vo 68 (.call 73 [63, 67]),
sg 6 68])
(.seq
(.r [1, 6, 56, 57, 58, 70] [
mv 69 6,
vo 70 (.bin false .neq 2 69 (k64 0))])
(.cond 70
(.seq
(.r [2] [
mv 71 6,
sg 2 71])
.ret)
.skip)))))
(.r [1, 56, 57, 58] [
vo 72 (.bin false .add 3 58 (k64 1)),
mv 58 72]))))
def l17_0 : VC := .loop b17_0
def v17 : VFun := {
code :=
(.seq
(.r [1] [
vo 1 (.box 31 0),
vo 2 (.asg (k64 0))])
(.seq
(.seq
(.r [1, 30] [
vo 7 (.fa 31 0 0 1 1),
ld 8 2 7,
vo 9 (.fa 31 1 1 1 1),
ld 10 2 9,
vo 11 (.call 71 [8, 10]),
vo 12 (.un .not 11),
mv 13 12,
⟨some 14, .fa 31 5 5 1 1, some (13, false), []⟩,
⟨some 15, .load 2 false 1 14, some (13, false), []⟩,
⟨some 16, .call 72 [15], some (13, false), []⟩,
⟨some 17, .un .not 16, some (13, false), []⟩,
vo 18 (.pick 13 (.c (.bool true)) 17),
mv 19 18,
⟨some 20, .fa 31 6 6 1 1, some (19, false), []⟩,
⟨some 21, .load 2 false 1 20, some (19, false), []⟩,
⟨some 22, .call 72 [21], some (19, false), []⟩,
⟨some 23, .un .not 22, some (19, false), []⟩,
vo 24 (.pick 19 (.c (.bool true)) 23),
mv 25 24,
⟨some 26, .fa 31 7 7 1 1, some (25, false), []⟩,
⟨some 27, .load 2 false 1 26, some (25, false), []⟩,
⟨some 28, .call 72 [27], some (25, false), []⟩,
⟨some 29, .un .not 28, some (25, false), []⟩,
vo 30 (.pick 25 (.c (.bool true)) 29)])
(.cond 30
(.seq
(.r [2] [
vo 2 (.asg (k64 3))])
.ret)
.skip))
(.seq
(.seq
(.r [1, 3] [
vo 31 (.fa 31 2 2 1 1),
ld 32 28 31,
vo 33 (.call 46 [32]),
sg 3 33])
(.seq
(.r [1, 3, 35] [
mv 34 3,
vo 35 (.bin false .neq 2 34 (k64 0))])
(.cond 35
(.seq
(.r [2] [
mv 36 3,
sg 2 36])
.ret)
.skip)))
(.seq
(.seq
(.r [1, 54] [
vo 37 (.fa 31 2 2 1 1),
ld 38 28 37,
vo 39 (.len false 28 38),
vo 40 (.fa 31 0 0 1 1),
ld 41 2 40,
vo 42 (.bin false .gtr 2 39 41),
mv 43 42,
⟨some 44, .fa 31 3 3 1 1, some (43, false), []⟩,
⟨some 45, .load 29 false 1 44, some (43, false), []⟩,
⟨some 46, .len false 29 45, some (43, false), []⟩,
⟨some 47, .bin false .gtr 3 46 (k64 6), some (43, false), []⟩,
vo 48 (.pick 43 (.c (.bool true)) 47),
mv 49 48,
⟨some 50, .fa 31 4 4 1 1, some (49, false), []⟩,
⟨some 51, .load 28 false 1 50, some (49, false), []⟩,
⟨some 52, .len false 28 51, some (49, false), []⟩,
⟨some 53, .bin false .gtr 3 52 (k64 8), some (49, false), []⟩,
vo 54 (.pick 49 (.c (.bool true)) 53)])
(.cond 54
(.seq
(.r [2] [
vo 2 (.asg (k64 2))])
.ret)
.skip))
(.seq
(.seq
(.r [1, 56, 57, 58] [
vo 55 (.fa 31 3 3 1 1),
ld 56 29 55,
vo 57 (.len false 29 56),
vo 58 (.mov (k64 0))])
(.block 0
l17_0))
(.seq
(.block 2
(.seq
(.r [1, 73] [
vo 74 (.fa 31 4 4 1 1),
ld 75 28 74,
vo 76 (.call 74 [75, (k64 8)]),
vo 77 (.un .not 76),
sg 73 77])
(.cond 73
(.seq
(.r [2] [
vo 2 (.asg (k64 1))])
.ret)
(.seq
(.region true [78] [
vo 79 (.fa 31 4 4 1 1),
ld 80 28 79,
vo 81 (.call 75 [80]),
⟨some 82, .fa 31 6 6 1 1, none, [0, 1, 2]⟩,
⟨some 83, .load 2 false 1 82, none, [0, 1, 2]⟩,
vo 84 (.bin false .add 2 81 83),
⟨some 85, .fa 31 5 5 1 1, none, [0, 1, 2, 3, 4, 5]⟩,
⟨some 86, .load 2 false 1 85, none, [0, 1, 2, 3, 4, 5]⟩,
vo 87 (.bin false .add 2 84 86),
⟨some 88, .fa 31 3 3 1 1, none, [0, 1, 2, 3, 4, 5, 6, 7, 8]⟩,
⟨some 89, .load 29 false 1 88, none, [0, 1, 2, 3, 4, 5, 6, 7, 8]⟩,
⟨some 90, .call 76 [89, (k64 2)], none, [3, 4, 5, 6, 7, 8]⟩,
⟨some 91, .fa 31 7 7 1 1, none, [0, 1, 2, 3, 4, 5, 6, 7, 8, 9, 10, 11]⟩,
⟨some 92, .load 2 false 1 91, none, [0, 1, 2, 3, 4, 5, 6, 7, 8, 9, 10, 11]⟩,
⟨some 93, .bin false .add 2 90 92, none, [3, 4, 5, 6, 7, 8]⟩,
vo 94 (.bin false .neq 2 87 93),
mv 95 94,
⟨some 96, .fa 31 3 3 1 1, some (95, false), []⟩,
⟨some 97, .load 29 false 1 96, some (95, false), []⟩,
⟨some 98, .call 76 [97, (k64 0)], some (95, false), []⟩,
⟨some 99, .call 72 [98], some (95, false), []⟩,
⟨some 100, .un .not 99, some (95, false), []⟩,
vo 101 (.pick 95 (.c (.bool true)) 100),
sg 78 101])
(.cond 78
(.seq
(.r [2] [
vo 2 (.asg (k64 7))])
.ret)
.skip)))))
(.seq
(.r [2] [
vo 2 (.asg (k64 0))])
.ret)))))))
modes := [.lend]
rets := [⟨2, none⟩] }

def v18 : VFun := {
code :=
(.seq
(.r [2, 3] [
vo 2 (.box 31 0),
vo 3 (.box 31 1),
vo 4 (.asg (.c (.bool false)))])
(.seq
(.seq
(.r [2, 3, 9] [
vo 5 (.fa 31 0 0 1 2),
ld 6 2 5,
vo 7 (.fa 31 0 0 1 3),
ld 8 2 7,
vo 9 (.bin false .neq 2 6 8)])
(.cond 9
(.seq
(.r [4] [
vo 4 (.asg (.c (.bool false)))])
.ret)
.skip))
(.seq
(.seq
(.r [2, 3, 14] [
vo 10 (.fa 31 1 1 1 2),
ld 11 2 10,
vo 12 (.fa 31 1 1 1 3),
ld 13 2 12,
vo 14 (.bin false .neq 2 11 13)])
(.cond 14
(.seq
(.r [4] [
vo 4 (.asg (.c (.bool false)))])
.ret)
.skip))
(.seq
(.seq
(.r [2, 3, 20] [
vo 15 (.fa 31 2 2 1 2),
ld 16 28 15,
vo 17 (.fa 31 2 2 1 3),
ld 18 28 17,
vo 19 (.call 77 [16, 18]),
vo 20 (.un .not 19)])
(.cond 20
(.seq
(.r [4] [
vo 4 (.asg (.c (.bool false)))])
.ret)
.skip))
(.seq
(.seq
(.r [2, 3, 26] [
vo 21 (.fa 31 3 3 1 2),
ld 22 29 21,
vo 23 (.fa 31 3 3 1 3),
ld 24 29 23,
vo 25 (.call 78 [22, 24]),
vo 26 (.un .not 25)])
(.cond 26
(.seq
(.r [4] [
vo 4 (.asg (.c (.bool false)))])
.ret)
.skip))
(.seq
(.seq
(.r [2, 3, 32] [
vo 27 (.fa 31 4 4 1 2),
ld 28 28 27,
vo 29 (.fa 31 4 4 1 3),
ld 30 28 29,
vo 31 (.call 77 [28, 30]),
vo 32 (.un .not 31)])
(.cond 32
(.seq
(.r [4] [
vo 4 (.asg (.c (.bool false)))])
.ret)
.skip))
(.seq
(.seq
(.r [2, 3, 37] [
vo 33 (.fa 31 5 5 1 2),
ld 34 2 33,
vo 35 (.fa 31 5 5 1 3),
ld 36 2 35,
vo 37 (.bin false .neq 2 34 36)])
(.cond 37
(.seq
(.r [4] [
vo 4 (.asg (.c (.bool false)))])
.ret)
.skip))
(.seq
(.seq
(.r [2, 3, 42] [
vo 38 (.fa 31 6 6 1 2),
ld 39 2 38,
vo 40 (.fa 31 6 6 1 3),
ld 41 2 40,
vo 42 (.bin false .neq 2 39 41)])
(.cond 42
(.seq
(.r [4] [
vo 4 (.asg (.c (.bool false)))])
.ret)
.skip))
(.seq
(.seq
(.r [47] [
vo 43 (.fa 31 7 7 1 2),
ld 44 2 43,
vo 45 (.fa 31 7 7 1 3),
ld 46 2 45,
vo 47 (.bin false .neq 2 44 46)])
(.cond 47
(.seq
(.r [4] [
vo 4 (.asg (.c (.bool false)))])
.ret)
.skip))
(.seq
(.r [4] [
vo 4 (.asg (.c (.bool true)))])
.ret))))))))))
modes := [.lend, .lend]
rets := [⟨4, none⟩] }

def v22 : VFun := {
code :=
(.seq
(.r [1, 2] [
vo 2 (.box 41 0),
vo 4 (.asg (k64 0))])
(.seq
(.r [1] [
mv 5 1,
vo 6 (.fa 41 0 0 1 2),
ld 7 9 6,
vo 8 (.len true 9 7),
vo 9 (.bin false .sub 3 5 8),
sg 1 9])
(.seq
(.seq
(.r [1, 11] [
mv 10 1,
vo 11 (.bin false .lss 3 10 (k64 0))])
(.cond 11
(.seq
(.r [4] [
vo 4 (.asg (k64 (-1)))])
.ret)
.skip))
(.seq
(.r [4] [
mv 12 1,
sg 4 12])
.ret))))
modes := [.lend, .lend]
rets := [⟨4, none⟩] }

def v24 : VFun := {
code :=
(.seq
(.r [1, 2] [
vo 1 (.box 41 0),
vo 2 (.alloc 46 [(.val (.string (⟨#[]⟩ : ByteArray))), z64])])
(.seq
(.r [1, 2, 3] [
vo 3 (.alloc 46 [(.val (.string (⟨#[]⟩ : ByteArray))), z64])])
(.seq
(.r [1, 2, 3] [
vo 4 (.fa 41 0 0 1 1),
ld 5 9 4,
vo 6 (.fa 46 0 0 1 3),
vn (.store 9 1 6 5)])
(.seq
(.r [2, 3] [
vo 7 (.fa 41 1 1 1 1),
ld 8 2 7,
vo 9 (.fa 46 1 1 1 3),
vn (.store 2 1 9 8)])
(.seq
(.r [2] [
vo 10 (.load 46 true 2 3),
vn (.store 46 2 2 10)])
.ret)))))
modes := [.lend]
rets := [⟨2, some (true, 2)⟩] }

def v26 : VFun := {
code :=
(.seq
(.r [2, 3] [
vo 2 (.box 44 0),
vo 3 (.box 44 1),
vo 4 (.asg (.c (.bool false)))])
(.seq
(.seq
(.r [2, 3, 9] [
vo 5 (.fa 44 0 0 1 2),
ld 6 2 5,
vo 7 (.fa 44 0 0 1 3),
ld 8 2 7,
vo 9 (.bin false .neq 2 6 8)])
(.cond 9
(.seq
(.r [4] [
vo 4 (.asg (.c (.bool false)))])
.ret)
.skip))
(.seq
(.seq
(.r [2, 3, 14] [
vo 10 (.fa 44 1 1 1 2),
ld 11 2 10,
vo 12 (.fa 44 1 1 1 3),
ld 13 2 12,
vo 14 (.bin false .neq 2 11 13)])
(.cond 14
(.seq
(.r [4] [
vo 4 (.asg (.c (.bool false)))])
.ret)
.skip))
(.seq
(.seq
(.r [20] [
vo 15 (.fa 44 2 2 8 2),
vo 16 (.load 31 true 8 15),
vo 17 (.fa 44 2 2 8 3),
vo 18 (.load 31 true 8 17),
vo 19 (.call 18 [16, 18]),
vo 20 (.un .not 19)])
(.cond 20
(.seq
(.r [4] [
vo 4 (.asg (.c (.bool false)))])
.ret)
.skip))
(.seq
(.r [4] [
vo 4 (.asg (.c (.bool true)))])
.ret)))))
modes := [.lend, .lend]
rets := [⟨4, none⟩] }

def v27 : VFun := {
code :=
(.seq
(.r [0, 1, 2] [
vo 2 (.box 31 0),
vo 4 (.asg (k64 0))])
(.seq
(.r [0, 1, 2] [
vo 5 (.fa 31 2 2 1 2),
ld 6 28 5,
mv 7 1,
vo 8 (.call 85 [6, 7]),
sg 1 8])
(.seq
(.r [0, 1, 2] [
vo 9 (.fa 31 3 3 1 2),
ld 10 29 9,
mv 11 1,
vo 12 (.call 86 [10, 11]),
sg 1 12])
(.seq
(.r [0, 1, 2] [
vo 13 (.fa 31 4 4 1 2),
ld 14 28 13,
mv 15 1,
vo 16 (.call 85 [14, 15]),
sg 1 16])
(.seq
(.r [0, 2, 4] [
mv 17 1,
sg 4 17])
.ret)))))
modes := [.io, .lend]
rets := [⟨4, none⟩] }

def v28 : VFun := {
code :=
(.seq
(.r [0, 1, 2] [
vo 2 (.box 44 0),
vo 4 (.asg (k64 0))])
(.seq
(.r [0, 1, 2] [
vo 5 (.fa 44 2 2 8 2),
vo 6 (.load 31 true 8 5),
mv 7 1,
vo 8 (.call 27 [6, 7]),
sg 1 8])
(.seq
(.r [0, 2, 4] [
mv 9 1,
sg 4 9])
.ret)))
modes := [.io, .lend]
rets := [⟨4, none⟩] }

def v29 : VFun := {
code :=
(.seq
(.r [1, 2] [
vo 2 (.box 44 0),
vo 4 (.asg (k64 0))])
(.seq
(.r [1] [
vo 5 (.fa 44 2 2 8 2),
vo 6 (.load 31 true 8 5),
mv 7 1,
vo 8 (.call 87 [6, 7]),
sg 1 8])
(.seq
(.seq
(.r [1, 10] [
mv 9 1,
vo 10 (.bin false .lss 3 9 (k64 0))])
(.cond 10
(.seq
(.r [4] [
vo 4 (.asg (k64 (-1)))])
.ret)
.skip))
(.seq
(.r [4] [
mv 11 1,
sg 4 11])
.ret))))
modes := [.lend, .lend]
rets := [⟨4, none⟩] }

def v36 : VFun := {
code :=
(.seq
(.r [1, 2, 3, 6] [
vo 3 (.box 31 0),
vo 6 (.alloc 44 [z64, z64, z64, z64, (.nl 2), (.nl 5), (.nl 2), z64, z64, z64])])
(.seq
(.seq
(.r [1, 2, 3, 6, 7] [
vo 9 (.call 68 [3]),
sg 7 9])
(.seq
(.r [1, 2, 3, 6, 7, 11] [
mv 10 7,
vo 11 (.bin false .neq 2 10 (k64 0))])
(.cond 11
(.seq
(.r [6] [
mv 12 7,
vo 13 (.call 81 [12]),
vn (.store 44 10 6 13)])
.ret)
.skip)))
(.seq
(.r [6, 8] [
vo 14 (.load 31 true 8 3),
mv 15 1,
mv 16 2,
vo 17 (.call 98 [14, 15, 16]),
vo 8 (.alloc 44 [z64, z64, z64, z64, (.nl 2), (.nl 5), (.nl 2), z64, z64, z64]),
vn (.store 44 10 8 17)])
(.seq
(.r [6, 8] [
vo 18 (.fa 44 1 1 1 8),
vn (.store 2 1 18 (k64 0))])
(.seq
(.r [6] [
vo 19 (.load 44 true 10 8),
vn (.store 44 10 6 19)])
.ret)))))
modes := [.lend, .lend, .lend]
rets := [⟨6, some (true, 10)⟩] }

def v37 : VFun := {
code :=
(.seq
(.r [3, 4, 5, 6] [
vo 3 (.box 31 0),
vo 4 (.box 2 1),
vo 5 (.box 2 2),
vo 6 (.alloc 44 [z64, z64, z64, z64, (.nl 2), (.nl 5), (.nl 2), z64, z64, z64])])
(.seq
(.r [6] [
vo 7 (.load 31 true 8 3),
vo 8 (.fn 99 [] [4, 5]),
vo 9 (.call 83 [7, 8]),
vn (.store 44 10 6 9)])
.ret))
modes := [.lend, .lend, .lend]
rets := [⟨6, some (true, 10)⟩] }

def b46_0 : VC :=
(.seq
(.r [8, 9, 10, 11] [
vo 11 (.bin false .lss 3 10 9)])
(.seq
(.cond 11
.skip
(.exit 0))
(.seq
(.block 1
(.seq
(.r [4, 8, 9, 10] [
vo 12 (.ia 28 46 2 8 10),
vo 13 (.load 46 true 2 12),
vo 4 (.alloc 46 [(.val (.string (⟨#[]⟩ : ByteArray))), z64]),
vn (.store 46 2 4 13)])
(.block 2
(.seq
(.r [4, 8, 9, 10, 14] [
vo 15 (.fa 46 0 0 1 4),
ld 16 9 15,
vo 17 (.call 113 [16]),
vo 18 (.un .not 17),
sg 14 18])
(.cond 14
(.seq
(.r [2] [
vo 2 (.asg (k64 5))])
.ret)
(.seq
(.r [8, 9, 10, 19] [
vo 20 (.fa 46 1 1 1 4),
ld 21 2 20,
vo 22 (.call 93 [21, (k64 1), (k64 9999)]),
vo 23 (.un .not 22),
sg 19 23])
(.cond 19
(.seq
(.r [2] [
vo 2 (.asg (k64 3))])
.ret)
.skip)))))))
(.r [8, 9, 10] [
vo 24 (.bin false .add 3 10 (k64 1)),
mv 10 24]))))
def l46_0 : VC := .loop b46_0
def v46 : VFun := {
code :=
(.seq
(.r [0] [
vo 2 (.asg (k64 0))])
(.seq
(.seq
(.r [0, 7] [
mv 5 0,
vo 6 (.len false 28 5),
vo 7 (.bin false .gtr 3 6 (k64 12))])
(.cond 7
(.seq
(.r [2] [
vo 2 (.asg (k64 2))])
.ret)
.skip))
(.seq
(.seq
(.r [8, 9, 10] [
mv 8 0,
vo 9 (.len false 28 8),
vo 10 (.mov (k64 0))])
(.block 0
l46_0))
(.seq
(.r [2] [
vo 2 (.asg (k64 0))])
.ret))))
modes := [.lend]
rets := [⟨2, none⟩] }

def b66_0 : VC :=
(.seq
(.seq
(.r [0, 1, 5, 15] [
mv 12 5,
mv 13 0,
vo 14 (.len false 22 13),
vo 15 (.bin false .lss 3 12 14)])
(.cond 15
.skip
(.exit 0)))
(.seq
(.block 1
(.seq
(.r [0, 1, 5] [
mv 18 0,
mv 19 5,
vo 20 (.ia 22 41 2 18 19),
vo 21 (.load 41 true 2 20),
mv 22 1,
vo 23 (.call 22 [21, 22]),
sg 1 23])
(.seq
(.r [0, 1, 5, 25] [
mv 24 1,
vo 25 (.bin false .lss 3 24 (k64 0))])
(.cond 25
(.seq
(.r [4] [
vo 4 (.asg (k64 (-1)))])
.ret)
.skip))))
(.r [0, 1, 5] [
mv 16 5,
vo 17 (.bin false .add 3 16 (k64 1)),
sg 5 17])))
def l66_0 : VC := .loop b66_0
def v66 : VFun := {
code :=
(.seq
(.r [0, 1] [
vo 4 (.asg (k64 0))])
(.seq
(.r [0, 1] [
mv 6 1,
mv 7 0,
vo 8 (.len false 22 7),
vo 9 (.bin false .sub 3 6 8),
sg 1 9])
(.seq
(.seq
(.r [0, 1, 11] [
mv 10 1,
vo 11 (.bin false .lss 3 10 (k64 0))])
(.cond 11
(.seq
(.r [4] [
vo 4 (.asg (k64 (-1)))])
.ret)
.skip))
(.seq
(.seq
(.r [0, 1, 5] [
vo 5 (.asg (k64 0))])
(.block 0
l66_0))
(.seq
(.r [4] [
mv 26 1,
sg 4 26])
.ret)))))
modes := [.lend, .lend]
rets := [⟨4, none⟩] }

def b67_0 : VC :=
(.seq
(.seq
(.r [0, 1, 5, 15] [
mv 12 5,
mv 13 0,
vo 14 (.len false 23 13),
vo 15 (.bin false .lss 3 12 14)])
(.cond 15
.skip
(.exit 0)))
(.seq
(.block 1
(.seq
(.r [0, 1, 5] [
mv 18 0,
mv 19 5,
vo 20 (.ia 23 156 5 18 19),
vo 21 (.load 156 true 5 20),
mv 22 1,
vo 23 (.call 130 [21, 22]),
sg 1 23])
(.seq
(.r [0, 1, 5, 25] [
mv 24 1,
vo 25 (.bin false .lss 3 24 (k64 0))])
(.cond 25
(.seq
(.r [4] [
vo 4 (.asg (k64 (-1)))])
.ret)
.skip))))
(.r [0, 1, 5] [
mv 16 5,
vo 17 (.bin false .add 3 16 (k64 1)),
sg 5 17])))
def l67_0 : VC := .loop b67_0
def v67 : VFun := {
code :=
(.seq
(.r [0, 1] [
vo 4 (.asg (k64 0))])
(.seq
(.r [0, 1] [
mv 6 1,
mv 7 0,
vo 8 (.len false 23 7),
vo 9 (.bin false .sub 3 6 8),
sg 1 9])
(.seq
(.seq
(.r [0, 1, 11] [
mv 10 1,
vo 11 (.bin false .lss 3 10 (k64 0))])
(.cond 11
(.seq
(.r [4] [
vo 4 (.asg (k64 (-1)))])
.ret)
.skip))
(.seq
(.seq
(.r [0, 1, 5] [
vo 5 (.asg (k64 0))])
(.block 0
l67_0))
(.seq
(.r [4] [
mv 26 1,
sg 4 26])
.ret)))))
modes := [.lend, .lend]
rets := [⟨4, none⟩] }

def b68_0 : VC :=
(.seq
(.seq
(.r [0, 4, 49] [
mv 43 4,
mv 44 0,
vo 45 (.nilc 44),
vo 46 (.fa 31 3 3 1 45),
ld 47 29 46,
vo 48 (.len false 29 47),
vo 49 (.bin false .lss 3 43 48)])
(.cond 49
.skip
(.exit 0)))
(.seq
(.block 1
(.seq
(.r [0, 4, 5] [
mv 52 0,
vo 53 (.nilc 52),
vo 54 (.fa 31 3 3 1 53),
ld 55 29 54,
mv 56 4,
vo 57 (.call 132 [55, 56]),
sg 5 57])
(.seq
(.r [0, 4, 5, 59] [
mv 58 5,
vo 59 (.bin false .neq 2 58 (k64 0))])
(.cond 59
(.seq
(.r [2] [
mv 60 5,
sg 2 60])
.ret)
.skip))))
(.r [0, 4] [
mv 50 4,
vo 51 (.bin false .add 3 50 (k64 1)),
sg 4 51])))
def l68_0 : VC := .loop b68_0
def v68 : VFun := {
code :=
(.seq
(.r [0] [
vo 2 (.asg (k64 0))])
(.seq
(.seq
(.r [0, 8] [
mv 6 0,
vo 7 (.call 131 [6]),
vo 8 (.un .not 7)])
(.cond 8
(.seq
(.r [2] [
vo 2 (.asg (k64 3))])
.ret)
.skip))
(.seq
(.seq
(.r [0, 3] [
mv 9 0,
vo 10 (.nilc 9),
vo 11 (.fa 31 2 2 1 10),
ld 12 28 11,
vo 13 (.call 107 [12]),
sg 3 13])
(.seq
(.r [0, 3, 15] [
mv 14 3,
vo 15 (.bin false .neq 2 14 (k64 0))])
(.cond 15
(.seq
(.r [2] [
mv 16 3,
sg 2 16])
.ret)
.skip)))
(.seq
(.seq
(.region true [0, 42] [
mv 17 0,
vo 18 (.nilc 17),
vo 19 (.fa 31 2 2 1 18),
ld 20 28 19,
vo 21 (.len false 28 20),
⟨some 22, .mov 0, none, [0, 1, 2, 3, 4]⟩,
⟨some 23, .nilc 22, none, [0, 1, 2, 3, 4]⟩,
⟨some 24, .fa 31 0 0 1 23, none, [0, 1, 2, 3, 4]⟩,
⟨some 25, .load 2 false 1 24, none, [0, 1, 2, 3, 4]⟩,
vo 26 (.bin false .gtr 2 21 25),
mv 27 26,
⟨some 28, .mov 0, some (27, false), []⟩,
⟨some 29, .nilc 28, some (27, false), []⟩,
⟨some 30, .fa 31 3 3 1 29, some (27, false), []⟩,
⟨some 31, .load 29 false 1 30, some (27, false), []⟩,
⟨some 32, .len false 29 31, some (27, false), []⟩,
⟨some 33, .bin false .gtr 3 32 (k64 6), some (27, false), []⟩,
vo 34 (.pick 27 (.c (.bool true)) 33),
mv 35 34,
⟨some 36, .mov 0, some (35, false), []⟩,
⟨some 37, .nilc 36, some (35, false), []⟩,
⟨some 38, .fa 31 4 4 1 37, some (35, false), []⟩,
⟨some 39, .load 28 false 1 38, some (35, false), []⟩,
⟨some 40, .len false 28 39, some (35, false), []⟩,
⟨some 41, .bin false .gtr 3 40 (k64 8), some (35, false), []⟩,
vo 42 (.pick 35 (.c (.bool true)) 41)])
(.cond 42
(.seq
(.r [2] [
vo 2 (.asg (k64 2))])
.ret)
.skip))
(.seq
(.seq
(.r [0, 4] [
vo 4 (.asg (k64 0))])
(.block 0
l68_0))
(.seq
(.seq
(.r [0, 66] [
mv 61 0,
vo 62 (.nilc 61),
vo 63 (.fa 31 4 4 1 62),
ld 64 28 63,
vo 65 (.call 133 [64]),
vo 66 (.un .not 65)])
(.cond 66
(.seq
(.r [2] [
vo 2 (.asg (k64 1))])
.ret)
.skip))
(.seq
(.seq
(.region true [101] [
mv 67 0,
vo 68 (.nilc 67),
vo 69 (.fa 31 4 4 1 68),
ld 70 28 69,
vo 71 (.call 134 [70]),
⟨some 72, .mov 0, none, [0, 1, 2, 3, 4]⟩,
⟨some 73, .nilc 72, none, [0, 1, 2, 3, 4]⟩,
⟨some 74, .fa 31 6 6 1 73, none, [0, 1, 2, 3, 4]⟩,
⟨some 75, .load 2 false 1 74, none, [0, 1, 2, 3, 4]⟩,
vo 76 (.bin false .add 2 71 75),
⟨some 77, .mov 0, none, [0, 1, 2, 3, 4, 5, 6, 7, 8, 9]⟩,
⟨some 78, .nilc 77, none, [0, 1, 2, 3, 4, 5, 6, 7, 8, 9]⟩,
⟨some 79, .fa 31 5 5 1 78, none, [0, 1, 2, 3, 4, 5, 6, 7, 8, 9]⟩,
⟨some 80, .load 2 false 1 79, none, [0, 1, 2, 3, 4, 5, 6, 7, 8, 9]⟩,
vo 81 (.bin false .add 2 76 80),
⟨some 82, .mov 0, none, [0, 1, 2, 3, 4, 5, 6, 7, 8, 9, 10, 11, 12, 13, 14]⟩,
⟨some 83, .nilc 82, none, [0, 1, 2, 3, 4, 5, 6, 7, 8, 9, 10, 11, 12, 13, 14]⟩,
⟨some 84, .fa 31 3 3 1 83, none, [0, 1, 2, 3, 4, 5, 6, 7, 8, 9, 10, 11, 12, 13, 14]⟩,
⟨some 85, .load 29 false 1 84, none, [0, 1, 2, 3, 4, 5, 6, 7, 8, 9, 10, 11, 12, 13, 14]⟩,
⟨some 86, .call 135 [85, (.c (.bool true))], none, [5, 6, 7, 8, 9, 10, 11, 12, 13, 14]⟩,
⟨some 87, .mov 0, none, [0, 1, 2, 3, 4, 5, 6, 7, 8, 9, 10, 11, 12, 13, 14, 15, 16, 17, 18, 19]⟩,
⟨some 88, .nilc 87, none, [0, 1, 2, 3, 4, 5, 6, 7, 8, 9, 10, 11, 12, 13, 14, 15, 16, 17, 18, 19]⟩,
⟨some 89, .fa 31 7 7 1 88, none, [0, 1, 2, 3, 4, 5, 6, 7, 8, 9, 10, 11, 12, 13, 14, 15, 16, 17, 18, 19]⟩,
⟨some 90, .load 2 false 1 89, none, [0, 1, 2, 3, 4, 5, 6, 7, 8, 9, 10, 11, 12, 13, 14, 15, 16, 17, 18, 19]⟩,
⟨some 91, .bin false .add 2 86 90, none, [5, 6, 7, 8, 9, 10, 11, 12, 13, 14]⟩,
vo 92 (.bin false .neq 2 81 91),
mv 93 92,
⟨some 94, .mov 0, some (93, false), []⟩,
⟨some 95, .nilc 94, some (93, false), []⟩,
⟨some 96, .fa 31 3 3 1 95, some (93, false), []⟩,
⟨some 97, .load 29 false 1 96, some (93, false), []⟩,
⟨some 98, .call 135 [97, (.c (.bool false))], some (93, false), []⟩,
⟨some 99, .call 115 [98], some (93, false), []⟩,
⟨some 100, .un .not 99, some (93, false), []⟩,
vo 101 (.pick 93 (.c (.bool true)) 100)])
(.cond 101
(.seq
(.r [2] [
vo 2 (.asg (k64 7))])
.ret)
.skip))
(.seq
(.r [2] [
vo 2 (.asg (k64 0))])
.ret))))))))
modes := [.lend]
rets := [⟨2, none⟩] }

def b69_0 : VC :=
(.seq
(.seq
(.r [0, 3, 4, 7, 11] [
mv 8 4,
mv 9 0,
vo 10 (.len false 22 9),
vo 11 (.bin false .lss 3 8 10)])
(.cond 11
.skip
(.exit 0)))
(.seq
(.block 1
(.r [0, 3, 4, 7] [
mv 14 3,
mv 15 4,
mv 16 0,
mv 17 4,
vo 18 (.ia 22 41 2 16 17),
vo 19 (.load 41 true 2 18),
vo 20 (.call 24 [19]),
vo 21 (.ia 28 46 2 14 15),
vn (.store 46 2 21 20)]))
(.r [0, 3, 4, 7] [
mv 12 4,
vo 13 (.bin false .add 3 12 (k64 1)),
sg 4 13])))
def l69_0 : VC := .loop b69_0
def v69 : VFun := {
code :=
(.seq
(.r [0] [
vo 2 (.asg (.n 2))])
(.seq
(.r [0, 3, 7] [
mv 5 0,
vo 6 (.len false 22 5),
vo 7 (.mk 28 46 2 24 [(.val (.string (⟨#[]⟩ : ByteArray))), z64] 6 6),
sg 3 7])
(.seq
(.seq
(.r [0, 3, 4, 7] [
vo 4 (.asg (k64 0))])
(.block 0
l69_0))
(.seq
(.r [2, 3, 7] [
mv 22 3,
sg 2 22])
.ret))))
modes := [.lend]
rets := [⟨2, none⟩] }

def b70_0 : VC :=
(.seq
(.seq
(.r [0, 3, 4, 7, 11] [
mv 8 4,
mv 9 0,
vo 10 (.len false 23 9),
vo 11 (.bin false .lss 3 8 10)])
(.cond 11
.skip
(.exit 0)))
(.seq
(.block 1
(.r [0, 3, 4, 7] [
mv 14 3,
mv 15 4,
mv 16 0,
mv 17 4,
vo 18 (.ia 23 156 5 16 17),
vo 19 (.load 156 true 5 18),
vo 20 (.call 136 [19]),
vo 21 (.ia 29 107 5 14 15),
vn (.store 107 5 21 20)]))
(.r [0, 3, 4, 7] [
mv 12 4,
vo 13 (.bin false .add 3 12 (k64 1)),
sg 4 13])))
def l70_0 : VC := .loop b70_0
def v70 : VFun := {
code :=
(.seq
(.r [0] [
vo 2 (.asg (.n 5))])
(.seq
(.r [0, 3, 7] [
mv 5 0,
vo 6 (.len false 23 5),
vo 7 (.mk 29 107 5 56 [z64, z64, z64, (.nl 2), z64] 6 6),
sg 3 7])
(.seq
(.seq
(.r [0, 3, 4, 7] [
vo 4 (.asg (k64 0))])
(.block 0
l70_0))
(.seq
(.r [2, 3, 7] [
mv 22 3,
sg 2 22])
.ret))))
modes := [.lend]
rets := [⟨2, none⟩] }

def v71 : VFun := {
code :=
(.seq
(.r [0, 1] [
vo 4 (.asg (.c (.bool false)))])
(.seq
(.r [4] [
mv 5 0,
vo 6 (.call 93 [5, (k64 1), (k64 12)]),
mv 7 6,
⟨some 8, .mov 1, some (7, true), []⟩,
⟨some 9, .call 93 [8, (k64 0), (k64 1000)], some (7, true), []⟩,
vo 10 (.pick 7 9 (.c (.bool false))),
sg 4 10])
.ret))
modes := [.lend, .lend]
rets := [⟨4, none⟩] }

def v72 : VFun := {
code :=
(.seq
(.r [0] [
vo 2 (.asg (.c (.bool false)))])
(.seq
(.r [2] [
mv 3 0,
vo 4 (.call 93 [3, (k64 0), (k64 1000000)]),
sg 2 4])
.ret))
modes := [.lend]
rets := [⟨2, none⟩] }

def v73 : VFun := {
code :=
(.seq
(.r [1, 2] [
vo 2 (.box 107 0),
vo 4 (.asg (k64 0))])
(.seq
(.block 0
(.seq
(.r [1, 2, 5] [
vo 6 (.fa 107 0 0 1 2),
ld 7 2 6,
vo 8 (.call 100 [7]),
vo 9 (.un .not 8),
mv 10 9,
⟨some 11, .fa 107 1 1 1 2, some (10, false), []⟩,
⟨some 12, .load 2 false 1 11, some (10, false), []⟩,
⟨some 13, .call 72 [12], some (10, false), []⟩,
⟨some 14, .un .not 13, some (10, false), []⟩,
vo 15 (.pick 10 (.c (.bool true)) 14),
mv 16 15,
⟨some 17, .fa 107 2 2 1 2, some (16, false), []⟩,
⟨some 18, .load 2 false 1 17, some (16, false), []⟩,
⟨some 19, .call 72 [18], some (16, false), []⟩,
⟨some 20, .un .not 19, some (16, false), []⟩,
vo 21 (.pick 16 (.c (.bool true)) 20),
mv 22 21,
⟨some 23, .fa 107 4 4 1 2, some (22, false), []⟩,
⟨some 24, .load 2 false 1 23, some (22, false), []⟩,
⟨some 25, .call 93 [24, (k64 1), (k64 3)], some (22, false), []⟩,
⟨some 26, .un .not 25, some (22, false), []⟩,
vo 27 (.pick 22 (.c (.bool true)) 26),
sg 5 27])
(.cond 5
(.seq
(.r [4] [
vo 4 (.asg (k64 3))])
.ret)
(.seq
(.region true [1, 2, 28] [
vo 29 (.fa 107 3 3 1 2),
ld 30 28 29,
vo 31 (.call 74 [30, (k64 12)]),
vo 32 (.un .not 31),
mv 33 32,
⟨some 34, .fa 107 3 3 1 2, some (33, false), []⟩,
⟨some 35, .load 28 false 1 34, some (33, false), []⟩,
⟨some 36, .call 75 [35], some (33, false), []⟩,
⟨some 37, .fa 107 2 2 1 2, some (33, false), [5, 6, 7]⟩,
⟨some 38, .load 2 false 1 37, some (33, false), [5, 6, 7]⟩,
⟨some 39, .bin false .add 2 36 38, some (33, false), []⟩,
⟨some 40, .fa 107 1 1 1 2, some (33, false), [5, 6, 7, 8, 9, 10]⟩,
⟨some 41, .load 2 false 1 40, some (33, false), [5, 6, 7, 8, 9, 10]⟩,
⟨some 42, .bin false .neq 2 39 41, some (33, false), []⟩,
vo 43 (.pick 33 (.c (.bool true)) 42),
sg 28 43])
(.cond 28
(.seq
(.r [4] [
vo 4 (.asg (k64 1))])
.ret)
(.seq
(.r [44] [
mv 45 1,
vo 46 (.fa 107 0 0 1 2),
ld 47 2 46,
vo 48 (.call 90 [45, 47]),
vo 49 (.bin false .geq 3 48 (k64 0)),
sg 44 49])
(.cond 44
(.seq
(.r [4] [
vo 4 (.asg (k64 6))])
.ret)
.skip)))))))
(.seq
(.r [4] [
vo 4 (.asg (k64 0))])
.ret)))
modes := [.lend, .lend]
rets := [⟨4, none⟩] }

def b74_0 : VC :=
(.seq
(.r [0, 1, 7, 8, 9, 10] [
vo 10 (.bin false .lss 3 9 8)])
(.seq
(.cond 10
.skip
(.exit 0))
(.seq
(.block 1
(.seq
(.r [0, 1, 5, 6, 7, 8, 9] [
mv 11 9,
vo 12 (.ia 28 46 2 7 9),
vo 13 (.load 46 true 2 12),
vo 6 (.alloc 46 [(.val (.string (⟨#[]⟩ : ByteArray))), z64]),
sg 5 11,
vn (.store 46 2 6 13)])
(.seq
(.region true [0, 1, 7, 8, 9, 32] [
vo 14 (.fa 46 0 0 1 6),
ld 15 9 14,
vo 16 (.call 113 [15]),
vo 17 (.un .not 16),
mv 18 17,
⟨some 19, .fa 46 1 1 1 6, some (18, false), []⟩,
⟨some 20, .load 2 false 1 19, some (18, false), []⟩,
⟨some 21, .call 72 [20], some (18, false), []⟩,
⟨some 22, .un .not 21, some (18, false), []⟩,
vo 23 (.pick 18 (.c (.bool true)) 22),
mv 24 23,
⟨some 25, .mov 0, some (24, false), []⟩,
⟨some 26, .mov 5, some (24, false), [11]⟩,
⟨some 27, .cut 28 (some 46) 2 25 none (some 26), some (24, false), []⟩,
⟨some 28, .fa 46 0 0 1 6, some (24, false), [11, 12, 13]⟩,
⟨some 29, .load 9 false 1 28, some (24, false), [11, 12, 13]⟩,
⟨some 30, .call 94 [27, 29], some (24, false), []⟩,
⟨some 31, .bin false .geq 3 30 (k64 0), some (24, false), []⟩,
vo 32 (.pick 24 (.c (.bool true)) 31)])
(.cond 32
(.seq
(.r [4] [
vo 4 (.asg (.c (.bool false)))])
.ret)
.skip))))
(.r [0, 1, 7, 8, 9] [
vo 33 (.bin false .add 3 9 (k64 1)),
mv 9 33]))))
def l74_0 : VC := .loop b74_0
def v74 : VFun := {
code :=
(.seq
(.r [0, 1] [
vo 4 (.asg (.c (.bool false)))])
(.seq
(.seq
(.r [0, 1, 7, 8, 9] [
mv 7 0,
vo 8 (.len false 28 7),
vo 9 (.mov (k64 0))])
(.block 0
l74_0))
(.seq
(.r [4] [
mv 34 0,
vo 35 (.len false 28 34),
mv 36 1,
vo 37 (.bin false .leq 3 35 36),
sg 4 37])
.ret)))
modes := [.lend, .lend]
rets := [⟨4, none⟩] }

def b75_0 : VC :=
(.seq
(.r [3, 6, 7, 8, 9] [
vo 9 (.bin false .lss 3 8 7)])
(.seq
(.cond 9
.skip
(.exit 0))
(.seq
(.block 1
(.seq
(.r [3, 5, 6, 7, 8] [
vo 10 (.ia 28 46 2 6 8),
vo 11 (.load 46 true 2 10),
vo 5 (.alloc 46 [(.val (.string (⟨#[]⟩ : ByteArray))), z64]),
vn (.store 46 2 5 11)])
(.r [3, 6, 7, 8] [
mv 12 3,
vo 13 (.fa 46 1 1 1 5),
ld 14 2 13,
vo 15 (.bin false .add 2 12 14),
sg 3 15])))
(.r [3, 6, 7, 8] [
vo 16 (.bin false .add 3 8 (k64 1)),
mv 8 16]))))
def l75_0 : VC := .loop b75_0
def v75 : VFun := {
code :=
(.seq
(.r [0] [
vo 2 (.asg (k64 0))])
(.seq
(.r [0, 3] [
vo 3 (.asg (k64 0))])
(.seq
(.seq
(.r [3, 6, 7, 8] [
mv 6 0,
vo 7 (.len false 28 6),
vo 8 (.mov (k64 0))])
(.block 0
l75_0))
(.seq
(.r [2] [
mv 17 3,
sg 2 17])
.ret))))
modes := [.lend]
rets := [⟨2, none⟩] }

def b76_0 : VC :=
(.seq
(.r [1, 5, 8, 9, 10, 11] [
vo 11 (.bin false .lss 3 10 9)])
(.seq
(.cond 11
.skip
(.exit 0))
(.seq
(.block 1
(.seq
(.r [1, 5, 7, 8, 9, 10] [
vo 12 (.ia 29 107 5 8 10),
vo 13 (.load 107 true 5 12),
vo 7 (.alloc 107 [z64, z64, z64, (.nl 2), z64]),
vn (.store 107 5 7 13)])
(.seq
(.r [1, 5, 7, 8, 9, 10, 21] [
mv 14 1,
vo 15 (.bin false .eql 2 14 (k64 0)),
mv 16 15,
⟨some 17, .fa 107 4 4 1 7, some (16, false), []⟩,
⟨some 18, .load 2 false 1 17, some (16, false), []⟩,
⟨some 19, .mov 1, some (16, false), []⟩,
⟨some 20, .bin false .eql 2 18 19, some (16, false), []⟩,
vo 21 (.pick 16 (.c (.bool true)) 20)])
(.cond 21
(.r [1, 5, 8, 9, 10] [
mv 22 5,
vo 23 (.fa 107 1 1 1 7),
ld 24 2 23,
vo 25 (.bin false .add 2 22 24),
sg 5 25])
.skip))))
(.r [1, 5, 8, 9, 10] [
vo 26 (.bin false .add 3 10 (k64 1)),
mv 10 26]))))
def l76_0 : VC := .loop b76_0
def v76 : VFun := {
code :=
(.seq
(.r [0, 1] [
vo 4 (.asg (k64 0))])
(.seq
(.r [0, 1, 5] [
vo 5 (.asg (k64 0))])
(.seq
(.seq
(.r [1, 5, 8, 9, 10] [
mv 8 0,
vo 9 (.len false 29 8),
vo 10 (.mov (k64 0))])
(.block 0
l76_0))
(.seq
(.r [4] [
mv 27 5,
sg 4 27])
.ret))))
modes := [.lend, .lend]
rets := [⟨4, none⟩] }

def b77_0 : VC :=
(.seq
(.seq
(.r [0, 1, 5, 14] [
mv 11 5,
mv 12 0,
vo 13 (.len false 28 12),
vo 14 (.bin false .lss 3 11 13)])
(.cond 14
.skip
(.exit 0)))
(.seq
(.block 1
(.seq
(.region true [0, 1, 5, 26] [
mv 17 0,
⟨some 18, .mov 5, none, [0]⟩,
vo 19 (.ia 28 46 2 17 18),
vo 20 (.load 46 true 2 19),
⟨some 21, .mov 1, none, [0, 1, 2, 3]⟩,
⟨some 22, .mov 5, none, [0, 1, 2, 3, 4]⟩,
⟨some 23, .ia 28 46 2 21 22, none, [0, 1, 2, 3]⟩,
⟨some 24, .load 46 true 2 23, none, [0, 1, 2, 3]⟩,
vo 25 (.call 137 [20, 24]),
vo 26 (.un .not 25)])
(.cond 26
(.seq
(.r [4] [
vo 4 (.asg (.c (.bool false)))])
.ret)
.skip)))
(.r [0, 1, 5] [
mv 15 5,
vo 16 (.bin false .add 3 15 (k64 1)),
sg 5 16])))
def l77_0 : VC := .loop b77_0
def v77 : VFun := {
code :=
(.seq
(.r [0, 1] [
vo 4 (.asg (.c (.bool false)))])
(.seq
(.seq
(.r [0, 1, 10] [
mv 6 0,
vo 7 (.len false 28 6),
mv 8 1,
vo 9 (.len false 28 8),
vo 10 (.bin false .neq 3 7 9)])
(.cond 10
(.seq
(.r [4] [
vo 4 (.asg (.c (.bool false)))])
.ret)
.skip))
(.seq
(.seq
(.r [0, 1, 5] [
vo 5 (.asg (k64 0))])
(.block 0
l77_0))
(.seq
(.r [4] [
vo 4 (.asg (.c (.bool true)))])
.ret))))
modes := [.lend, .lend]
rets := [⟨4, none⟩] }

def b78_0 : VC :=
(.seq
(.seq
(.r [0, 1, 5, 14] [
mv 11 5,
mv 12 0,
vo 13 (.len false 29 12),
vo 14 (.bin false .lss 3 11 13)])
(.cond 14
.skip
(.exit 0)))
(.seq
(.block 1
(.seq
(.region true [0, 1, 5, 26] [
mv 17 0,
⟨some 18, .mov 5, none, [0]⟩,
vo 19 (.ia 29 107 5 17 18),
vo 20 (.load 107 true 5 19),
⟨some 21, .mov 1, none, [0, 1, 2, 3]⟩,
⟨some 22, .mov 5, none, [0, 1, 2, 3, 4]⟩,
⟨some 23, .ia 29 107 5 21 22, none, [0, 1, 2, 3]⟩,
⟨some 24, .load 107 true 5 23, none, [0, 1, 2, 3]⟩,
vo 25 (.call 138 [20, 24]),
vo 26 (.un .not 25)])
(.cond 26
(.seq
(.r [4] [
vo 4 (.asg (.c (.bool false)))])
.ret)
.skip)))
(.r [0, 1, 5] [
mv 15 5,
vo 16 (.bin false .add 3 15 (k64 1)),
sg 5 16])))
def l78_0 : VC := .loop b78_0
def v78 : VFun := {
code :=
(.seq
(.r [0, 1] [
vo 4 (.asg (.c (.bool false)))])
(.seq
(.seq
(.r [0, 1, 10] [
mv 6 0,
vo 7 (.len false 29 6),
mv 8 1,
vo 9 (.len false 29 8),
vo 10 (.bin false .neq 3 7 9)])
(.cond 10
(.seq
(.r [4] [
vo 4 (.asg (.c (.bool false)))])
.ret)
.skip))
(.seq
(.seq
(.r [0, 1, 5] [
vo 5 (.asg (k64 0))])
(.block 0
l78_0))
(.seq
(.r [4] [
vo 4 (.asg (.c (.bool true)))])
.ret))))
modes := [.lend, .lend]
rets := [⟨4, none⟩] }

def b79_0 : VC :=
(.seq
(.seq
(.r [0, 1, 5, 9] [
mv 6 5,
mv 7 0,
vo 8 (.len false 28 7),
vo 9 (.bin false .lss 3 6 8)])
(.cond 9
.skip
(.exit 0)))
(.seq
(.block 1
(.seq
(.r [0, 1, 5, 18] [
mv 12 0,
mv 13 5,
vo 14 (.ia 28 46 2 12 13),
vo 15 (.fa 46 0 0 1 14),
ld 16 9 15,
mv 17 1,
vo 18 (.bin false .eql 9 16 17)])
(.cond 18
(.seq
(.r [4] [
mv 19 5,
sg 4 19])
.ret)
.skip)))
(.r [0, 1, 5] [
mv 10 5,
vo 11 (.bin false .add 3 10 (k64 1)),
sg 5 11])))
def l79_0 : VC := .loop b79_0
def v79 : VFun := {
code :=
(.seq
(.r [0, 1] [
vo 4 (.asg (k64 0))])
(.seq
(.seq
(.r [0, 1, 5] [
vo 5 (.asg (k64 0))])
(.block 0
l79_0))
(.seq
(.r [4] [
vo 4 (.asg (k64 (-1)))])
.ret)))
modes := [.lend, .lend]
rets := [⟨4, none⟩] }

def v81 : VFun := {
code :=
(.seq
(.r [0, 2] [
vo 2 (.alloc 44 [z64, z64, z64, z64, (.nl 2), (.nl 5), (.nl 2), z64, z64, z64])])
(.seq
(.r [2] [
mv 3 0,
vo 4 (.build 44 [z64, z64, z64, z64, (.nl 2), (.nl 5), (.nl 2), z64, z64, z64] [(0, 0, 1, 3)]),
vn (.store 44 10 2 4)])
.ret))
modes := [.lend]
rets := [⟨2, some (true, 10)⟩] }

def v83 : VFun := {
code :=
(.seq
(.r [1, 2, 4] [
vo 2 (.box 31 0),
vo 4 (.alloc 44 [z64, z64, z64, z64, (.nl 2), (.nl 5), (.nl 2), z64, z64, z64])])
(.seq
(.seq
(.r [1, 2, 4, 5] [
vo 8 (.load 31 true 8 2),
vo 9 (.call 17 [8]),
sg 5 9])
(.seq
(.r [1, 2, 4, 5, 11] [
mv 10 5,
vo 11 (.bin false .neq 2 10 (k64 0))])
(.cond 11
(.seq
(.r [4] [
mv 12 5,
vo 13 (.build 44 [z64, z64, z64, z64, (.nl 2), (.nl 5), (.nl 2), z64, z64, z64] [(0, 0, 1, 12)]),
vn (.store 44 10 4 13)])
.ret)
.skip)))
(.seq
(.r [1, 4, 6] [
vo 14 (.load 31 true 8 2),
vo 15 (.call 140 [14]),
vo 6 (.alloc 31 [z64, z64, (.nl 2), (.nl 5), (.nl 2), z64, z64, z64]),
vn (.store 31 8 6 15)])
(.seq
(.seq
(.r [4, 6, 7] [
mv 16 1,
vo 17 (.callv 16 [6]),
sg 7 17])
(.seq
(.r [4, 6, 7, 19] [
mv 18 7,
vo 19 (.bin false .neq 2 18 (k64 0))])
(.cond 19
(.seq
(.r [4] [
mv 20 7,
vo 21 (.build 44 [z64, z64, z64, z64, (.nl 2), (.nl 5), (.nl 2), z64, z64, z64] [(0, 0, 1, 20)]),
vn (.store 44 10 4 21)])
.ret)
.skip)))
(.seq
(.r [4] [
vo 22 (.load 31 true 8 6),
vo 23 (.build 44 [z64, z64, z64, z64, (.nl 2), (.nl 5), (.nl 2), z64, z64, z64] [(2, 2, 8, 22)]),
vn (.store 44 10 4 23)])
.ret)))))
modes := [.lend, .lend]
rets := [⟨4, some (true, 10)⟩] }

def b85_0 : VC :=
(.seq
(.seq
(.r [0, 1, 5, 9] [
mv 6 5,
mv 7 0,
vo 8 (.len false 28 7),
vo 9 (.bin false .lss 3 6 8)])
(.cond 9
.skip
(.exit 0)))
(.seq
(.block 1
(.seq
(.r [0, 1, 5] [
mv 12 0,
mv 13 5,
mv 14 1,
vo 15 (.call 141 [14]),
vo 16 (.ia 28 46 2 12 13),
vo 17 (.fa 46 0 0 1 16),
vn (.store 9 1 17 15)])
(.seq
(.r [0, 1, 5] [
mv 18 1,
vo 19 (.bin false .add 3 18 (k64 1)),
sg 1 19])
(.seq
(.r [0, 1, 5] [
mv 20 0,
mv 21 5,
mv 22 1,
vo 23 (.ia 28 46 2 20 21),
vo 24 (.fa 46 1 1 1 23),
vn (.store 2 1 24 22)])
(.r [0, 1, 5] [
mv 25 1,
vo 26 (.bin false .add 3 25 (k64 1)),
sg 1 26])))))
(.r [0, 1, 5] [
mv 10 5,
vo 11 (.bin false .add 3 10 (k64 1)),
sg 5 11])))
def l85_0 : VC := .loop b85_0
def v85 : VFun := {
code :=
(.seq
(.r [0, 1] [
vo 4 (.asg (k64 0))])
(.seq
(.seq
(.r [0, 1, 5] [
vo 5 (.asg (k64 0))])
(.block 0
l85_0))
(.seq
(.r [0, 4] [
mv 27 1,
sg 4 27])
.ret)))
modes := [.io, .lend]
rets := [⟨4, none⟩] }

def b86_0 : VC :=
(.seq
(.seq
(.r [0, 1, 5, 9] [
mv 6 5,
mv 7 0,
vo 8 (.len false 29 7),
vo 9 (.bin false .lss 3 6 8)])
(.cond 9
.skip
(.exit 0)))
(.seq
(.block 1
(.seq
(.r [0, 1, 5] [
mv 12 0,
mv 13 5,
mv 14 1,
vo 15 (.ia 29 107 5 12 13),
vo 16 (.fa 107 0 0 1 15),
vn (.store 2 1 16 14)])
(.seq
(.r [0, 1, 5] [
mv 17 1,
vo 18 (.bin false .add 3 17 (k64 1)),
sg 1 18])
(.seq
(.r [0, 1, 5] [
mv 19 0,
mv 20 5,
mv 21 1,
vo 22 (.ia 29 107 5 19 20),
vo 23 (.fa 107 1 1 1 22),
vn (.store 2 1 23 21)])
(.seq
(.r [0, 1, 5] [
mv 24 1,
vo 25 (.bin false .add 3 24 (k64 1)),
sg 1 25])
(.seq
(.r [0, 1, 5] [
mv 26 0,
mv 27 5,
mv 28 1,
vo 29 (.ia 29 107 5 26 27),
vo 30 (.fa 107 2 2 1 29),
vn (.store 2 1 30 28)])
(.seq
(.r [0, 1, 5] [
mv 31 1,
vo 32 (.bin false .add 3 31 (k64 1)),
sg 1 32])
(.seq
(.r [0, 1, 5] [
mv 33 0,
mv 34 5,
vo 35 (.ia 29 107 5 33 34),
vo 36 (.fa 107 3 3 1 35),
ld 37 28 36,
mv 38 1,
vo 39 (.call 85 [37, 38]),
sg 1 39])
(.seq
(.r [0, 1, 5] [
mv 40 0,
mv 41 5,
mv 42 1,
vo 43 (.ia 29 107 5 40 41),
vo 44 (.fa 107 4 4 1 43),
vn (.store 2 1 44 42)])
(.r [0, 1, 5] [
mv 45 1,
vo 46 (.bin false .add 3 45 (k64 1)),
sg 1 46]))))))))))
(.r [0, 1, 5] [
mv 10 5,
vo 11 (.bin false .add 3 10 (k64 1)),
sg 5 11])))
def l86_0 : VC := .loop b86_0
def v86 : VFun := {
code :=
(.seq
(.r [0, 1] [
vo 4 (.asg (k64 0))])
(.seq
(.seq
(.r [0, 1, 5] [
vo 5 (.asg (k64 0))])
(.block 0
l86_0))
(.seq
(.r [0, 4] [
mv 47 1,
sg 4 47])
.ret)))
modes := [.io, .lend]
rets := [⟨4, none⟩] }

def v87 : VFun := {
code :=
(.seq
(.r [1, 2] [
vo 2 (.box 31 0),
vo 4 (.asg (k64 0))])
(.seq
(.r [1, 2] [
vo 5 (.fa 31 2 2 1 2),
ld 6 28 5,
mv 7 1,
vo 8 (.call 142 [6, 7]),
sg 1 8])
(.seq
(.seq
(.r [1, 2, 10] [
mv 9 1,
vo 10 (.bin false .lss 3 9 (k64 0))])
(.cond 10
(.seq
(.r [4] [
vo 4 (.asg (k64 (-1)))])
.ret)
.skip))
(.seq
(.r [1, 2] [
vo 11 (.fa 31 3 3 1 2),
ld 12 29 11,
mv 13 1,
vo 14 (.call 143 [12, 13]),
sg 1 14])
(.seq
(.seq
(.r [1, 2, 16] [
mv 15 1,
vo 16 (.bin false .lss 3 15 (k64 0))])
(.cond 16
(.seq
(.r [4] [
vo 4 (.asg (k64 (-1)))])
.ret)
.skip))
(.seq
(.r [1] [
vo 17 (.fa 31 4 4 1 2),
ld 18 28 17,
mv 19 1,
vo 20 (.call 142 [18, 19]),
sg 1 20])
(.seq
(.seq
(.r [1, 22] [
mv 21 1,
vo 22 (.bin false .lss 3 21 (k64 0))])
(.cond 22
(.seq
(.r [4] [
vo 4 (.asg (k64 (-1)))])
.ret)
.skip))
(.seq
(.r [4] [
mv 23 1,
sg 4 23])
.ret))))))))
modes := [.lend, .lend]
rets := [⟨4, none⟩] }

def v90 : VFun := {
code :=
(.seq
(.r [0, 3] [
vo 3 (.box 2 1),
vo 4 (.asg (k64 0))])
(.seq
(.r [4] [
mv 5 0,
vo 6 (.fn 146 [] [3]),
vo 7 (.call 145 [5, 6]),
sg 4 7])
.ret))
modes := [.lend, .lend]
rets := [⟨4, none⟩] }

def v93 : VFun := {
code :=
(.seq
(.r [0, 1, 2] [
vo 6 (.asg (.c (.bool false)))])
(.seq
(.r [6] [
mv 7 0,
mv 8 1,
vo 9 (.bin false .geq 2 7 8),
mv 10 9,
⟨some 11, .mov 0, some (10, true), []⟩,
⟨some 12, .mov 2, some (10, true), []⟩,
⟨some 13, .bin false .leq 2 11 12, some (10, true), []⟩,
vo 14 (.pick 10 13 (.c (.bool false))),
sg 6 14])
.ret))
modes := [.lend, .lend, .lend]
rets := [⟨6, none⟩] }

def v94 : VFun := {
code :=
(.seq
(.r [0, 3] [
vo 3 (.box 9 1),
vo 4 (.asg (k64 0))])
(.seq
(.r [4] [
mv 5 0,
vo 6 (.fn 148 [] [3]),
vo 7 (.call 147 [5, 6]),
sg 4 7])
.ret))
modes := [.lend, .lend]
rets := [⟨4, none⟩] }

def v98 : VFun := {
code :=
(.seq
(.r [1, 2, 3, 6] [
vo 3 (.box 31 0),
vo 6 (.alloc 44 [z64, z64, z64, z64, (.nl 2), (.nl 5), (.nl 2), z64, z64, z64])])
(.seq
(.seq
(.r [1, 2, 3, 6, 16] [
mv 9 1,
vo 10 (.call 150 [9]),
vo 11 (.un .not 10),
mv 12 11,
⟨some 13, .mov 2, some (12, false), []⟩,
⟨some 14, .call 115 [13], some (12, false), []⟩,
⟨some 15, .un .not 14, some (12, false), []⟩,
vo 16 (.pick 12 (.c (.bool true)) 15)])
(.cond 16
(.seq
(.r [6] [
vo 17 (.call 81 [(k64 3)]),
vn (.store 44 10 6 17)])
.ret)
.skip))
(.seq
(.seq
(.r [1, 2, 3, 6, 22] [
vo 18 (.fa 31 3 3 1 3),
ld 19 29 18,
mv 20 1,
vo 21 (.call 144 [19, 20]),
vo 22 (.bin false .geq 3 21 (k64 0))])
(.cond 22
(.seq
(.r [6] [
vo 23 (.call 81 [(k64 6)]),
vn (.store 44 10 6 23)])
.ret)
.skip))
(.seq
(.seq
(.r [1, 2, 3, 6, 27] [
vo 24 (.fa 31 3 3 1 3),
ld 25 29 24,
vo 26 (.len false 29 25),
vo 27 (.bin false .geq 3 26 (k64 6))])
(.cond 27
(.seq
(.r [6] [
vo 28 (.call 81 [(k64 10)]),
vn (.store 44 10 6 28)])
.ret)
.skip))
(.seq
(.seq
(.r [1, 2, 3, 6, 35] [
vo 29 (.fa 31 3 3 1 3),
ld 30 29 29,
vo 31 (.call 135 [30, (.c (.bool false))]),
mv 32 2,
vo 33 (.bin false .add 2 31 32),
vo 34 (.call 115 [33]),
vo 35 (.un .not 34)])
(.cond 35
(.seq
(.r [6] [
vo 36 (.call 81 [(k64 7)]),
vn (.store 44 10 6 36)])
.ret)
.skip))
(.seq
(.r [2, 3, 6, 7] [
mv 37 1,
mv 38 2,
mv 39 2,
vo 40 (.build 107 [z64, z64, z64, (.nl 2), z64] [(0, 0, 1, 37), (1, 1, 1, 38), (2, 2, 1, 39), (4, 4, 1, (k64 1))]),
vo 7 (.alloc 107 [z64, z64, z64, (.nl 2), z64]),
vn (.store 107 5 7 40)])
(.seq
(.seq
(.r [2, 3, 6, 7, 44] [
vo 41 (.fa 31 2 2 1 3),
ld 42 28 41,
vo 43 (.len false 28 42),
vo 44 (.bin false .gtr 3 43 (k64 0))])
(.cond 44
(.seq
(.r [2, 3, 6, 7] [
mv 45 2,
vo 46 (.fa 31 1 1 1 3),
ld 47 2 46,
vo 48 (.bin false .mul 2 45 47),
vo 49 (.bin false .quo 2 48 (k64 1000)),
vo 50 (.fa 107 2 2 1 7),
vn (.store 2 1 50 49)])
(.r [3, 6, 7] [
mv 51 2,
vo 52 (.fa 107 2 2 1 7),
ld 53 2 52,
vo 54 (.bin false .sub 2 51 53),
vo 55 (.fa 31 2 2 1 3),
ld 56 28 55,
vo 57 (.call 116 [54, 56]),
vo 58 (.fa 107 3 3 1 7),
vn (.store 28 1 58 57)]))
.skip))
(.seq
(.r [6, 7, 8] [
vo 59 (.load 31 true 8 3),
vo 60 (.call 139 [59]),
vo 8 (.alloc 31 [z64, z64, (.nl 2), (.nl 5), (.nl 2), z64, z64, z64]),
vn (.store 31 8 8 60)])
(.seq
(.r [6, 7, 8] [
vo 61 (.fa 31 3 3 1 8),
ld 62 29 61,
vo 63 (.load 107 true 5 7),
vo 64 (.lit 29 107 5 1 [z64, z64, z64, (.nl 2), z64] [(0, 63)]),
vo 65 (.app 29 107 5 56 62 64),
vo 66 (.fa 31 3 3 1 8),
vn (.store 29 1 66 65)])
(.seq
(.r [6] [
vo 67 (.fa 107 2 2 1 7),
ld 68 2 67,
vo 69 (.load 31 true 8 8),
vo 70 (.build 44 [z64, z64, z64, z64, (.nl 2), (.nl 5), (.nl 2), z64, z64, z64] [(1, 1, 1, 68), (2, 2, 8, 69)]),
vn (.store 44 10 6 70)])
.ret))))))))))
modes := [.lend, .lend, .lend]
rets := [⟨6, some (true, 10)⟩] }

def v99 : VFun := {
code :=
(.seq
(.r [0, 1, 2] [
vo 4 (.asg (k64 0))])
(.seq
(.block 0
(.seq
(.r [0, 1, 2, 6] [
ld 7 2 1,
vo 8 (.call 100 [7]),
vo 9 (.un .not 8),
mv 10 9,
⟨some 11, .load 2 false 1 2, some (10, false), []⟩,
⟨some 12, .call 72 [11], some (10, false), []⟩,
⟨some 13, .un .not 12, some (10, false), []⟩,
vo 14 (.pick 10 (.c (.bool true)) 13),
sg 6 14])
(.cond 6
(.seq
(.r [0, 4] [
vo 4 (.asg (k64 3))])
.ret)
(.seq
(.region true [0, 1, 2, 15] [
mv 16 0,
vo 17 (.nilc 16),
vo 18 (.fa 31 3 3 1 17),
ld 19 29 18,
⟨some 20, .load 2 false 1 1, none, [0, 1, 2, 3]⟩,
vo 21 (.call 90 [19, 20]),
vo 22 (.bin false .geq 3 21 (k64 0)),
sg 15 22])
(.cond 15
(.seq
(.r [0, 4] [
vo 4 (.asg (k64 6))])
.ret)
(.seq
(.r [0, 1, 2, 23] [
mv 24 0,
vo 25 (.nilc 24),
vo 26 (.fa 31 3 3 1 25),
ld 27 29 26,
vo 28 (.len false 29 27),
vo 29 (.bin false .geq 3 28 (k64 6)),
sg 23 29])
(.cond 23
(.seq
(.r [0, 4] [
vo 4 (.asg (k64 10))])
.ret)
(.seq
(.region true [0, 1, 2, 30] [
mv 31 0,
vo 32 (.nilc 31),
vo 33 (.fa 31 3 3 1 32),
ld 34 29 33,
vo 35 (.call 76 [34, (k64 0)]),
⟨some 36, .load 2 false 1 2, none, [0, 1, 2, 3, 4]⟩,
vo 37 (.bin false .add 2 35 36),
vo 38 (.call 72 [37]),
vo 39 (.un .not 38),
sg 30 39])
(.cond 30
(.seq
(.r [0, 4] [
vo 4 (.asg (k64 7))])
.ret)
.skip)))))))))
(.seq
(.r [0, 2, 5] [
ld 40 2 1,
ld 41 2 2,
ld 42 2 2,
vo 43 (.build 107 [z64, z64, z64, (.nl 2), z64] [(0, 0, 1, 40), (1, 1, 1, 41), (2, 2, 1, 42), (4, 4, 1, (k64 1))]),
vo 5 (.alloc 107 [z64, z64, z64, (.nl 2), z64]),
vn (.store 107 5 5 43)])
(.seq
(.seq
(.r [0, 2, 5, 49] [
mv 44 0,
vo 45 (.nilc 44),
vo 46 (.fa 31 2 2 1 45),
ld 47 28 46,
vo 48 (.len false 28 47),
vo 49 (.bin false .gtr 3 48 (k64 0))])
(.cond 49
(.seq
(.region true [0, 2, 5] [
ld 50 2 2,
⟨some 51, .mov 0, none, [0]⟩,
⟨some 52, .nilc 51, none, [0]⟩,
⟨some 53, .fa 31 1 1 1 52, none, [0]⟩,
⟨some 54, .load 2 false 1 53, none, [0]⟩,
vo 55 (.bin false .mul 2 50 54),
vo 56 (.bin false .quo 2 55 (k64 1000)),
vo 57 (.fa 107 2 2 1 5),
vn (.store 2 1 57 56)])
(.region true [0, 5] [
ld 58 2 2,
⟨some 59, .fa 107 2 2 1 5, none, [0]⟩,
⟨some 60, .load 2 false 1 59, none, [0]⟩,
vo 61 (.bin false .sub 2 58 60),
⟨some 62, .mov 0, none, [0, 1, 2, 3]⟩,
⟨some 63, .nilc 62, none, [0, 1, 2, 3]⟩,
⟨some 64, .fa 31 2 2 1 63, none, [0, 1, 2, 3]⟩,
⟨some 65, .load 28 false 1 64, none, [0, 1, 2, 3]⟩,
vo 66 (.call 101 [61, 65]),
vo 67 (.fa 107 3 3 1 5),
vn (.store 28 1 67 66)]))
.skip))
(.seq
(.region true [0] [
mv 68 0,
⟨some 69, .mov 0, none, [0]⟩,
⟨some 70, .nilc 69, none, [0]⟩,
⟨some 71, .fa 31 3 3 1 70, none, [0]⟩,
⟨some 72, .load 29 false 1 71, none, [0]⟩,
⟨some 73, .load 107 true 5 5, none, [0, 1, 2, 3, 4]⟩,
⟨some 74, .lit 29 107 5 1 [z64, z64, z64, (.nl 2), z64] [(0, 73)], none, [0, 1, 2, 3, 4]⟩,
⟨some 75, .app 29 107 5 56 72 74, none, [0]⟩,
vo 76 (.nilc 68),
vo 77 (.fa 31 3 3 1 76),
vn (.store 29 1 77 75)])
(.seq
(.r [0, 4] [
vo 4 (.asg (k64 0))])
.ret))))))
modes := [.io, .lend, .lend]
rets := [⟨4, none⟩] }

def v100 : VFun := {
code :=
(.seq
(.r [0] [
vo 2 (.asg (.c (.bool false)))])
(.seq
(.r [2] [
mv 3 0,
vo 4 (.call 93 [3, (k64 0), (k64 2147483646)]),
sg 2 4])
.ret))
modes := [.lend]
rets := [⟨2, none⟩] }

def b101_1 : VC :=
(.seq
(.r [5, 7, 14, 17, 42, 49, 50, 51] [
vo 51 (.bin false .lss 2 50 49)])
(.seq
(.cond 51
.skip
(.exit 2))
(.seq
(.block 3
(.seq
(.r [5, 7, 12, 14, 17, 42, 49, 50] [
mv 52 7,
mv 53 7,
vo 54 (.call 152 [53]),
vo 55 (.call 151 [52, 54]),
sg 12 55])
(.seq
(.r [5, 7, 12, 14, 17, 42, 49, 50] [
mv 56 5,
mv 57 12,
vo 58 (.ia 28 46 2 56 57),
vo 59 (.fa 46 1 1 1 58),
ld 60 2 59,
vo 61 (.bin false .add 2 60 (k64 1)),
vo 62 (.ia 28 46 2 56 57),
vo 63 (.fa 46 1 1 1 62),
vn (.store 2 1 63 61)])
(.r [5, 7, 14, 17, 42, 49, 50] [
mv 64 7,
mv 65 12,
vo 66 (.ia 172 2 1 64 65),
vn (.store 2 1 66 (k64 (-1)))]))))
(.r [5, 7, 14, 17, 42, 49, 50] [
vo 67 (.bin false .add 2 50 (k64 1)),
mv 50 67]))))
def l101_1 : VC := .loop b101_1
def b101_0 : VC :=
(.seq
(.r [0, 5, 6, 7, 8, 14, 17, 19, 20, 21, 22, 42] [
vo 22 (.bin false .lss 3 21 20)])
(.seq
(.cond 22
.skip
(.exit 0))
(.seq
(.block 1
(.seq
(.r [0, 5, 6, 7, 8, 9, 10, 14, 17, 19, 20, 21, 42] [
mv 23 21,
vo 24 (.ia 28 46 2 19 21),
vo 25 (.load 46 true 2 24),
vo 10 (.alloc 46 [(.val (.string (⟨#[]⟩ : ByteArray))), z64]),
sg 9 23,
vn (.store 46 2 10 25)])
(.seq
(.r [0, 5, 6, 7, 8, 9, 11, 14, 17, 19, 20, 21, 42] [
mv 26 0,
vo 27 (.fa 46 1 1 1 10),
ld 28 2 27,
vo 29 (.bin false .mul 2 26 28),
sg 11 29])
(.seq
(.r [0, 5, 6, 7, 8, 11, 14, 17, 19, 20, 21, 42] [
mv 30 5,
mv 31 9,
mv 32 11,
mv 33 6,
vo 34 (.bin false .quo 2 32 33),
vo 35 (.ia 28 46 2 30 31),
vo 36 (.fa 46 1 1 1 35),
vn (.store 2 1 36 34)])
(.seq
(.r [0, 5, 6, 7, 8, 11, 14, 17, 19, 20, 21, 42] [
mv 37 7,
mv 38 11,
mv 39 6,
vo 40 (.bin false .rem 2 38 39),
vo 41 (.lit 172 2 1 1 [z64] [(0, 40)]),
vo 42 (.app 172 2 1 8 37 41),
sg 7 42])
(.r [0, 5, 6, 7, 8, 14, 17, 19, 20, 21, 42] [
mv 43 8,
mv 44 11,
mv 45 6,
vo 46 (.bin false .quo 2 44 45),
vo 47 (.bin false .sub 2 43 46),
sg 8 47]))))))
(.r [0, 5, 6, 7, 8, 14, 17, 19, 20, 21, 42] [
vo 48 (.bin false .add 3 21 (k64 1)),
mv 21 48]))))
def l101_0 : VC := .loop b101_0
def v101 : VFun := {
code :=
(.seq
(.r [0, 1] [
vo 4 (.asg (.n 2))])
(.seq
(.r [0, 5, 6, 7, 14, 17, 42] [
mv 13 1,
vo 14 (.call 112 [13]),
mv 15 1,
vo 16 (.call 75 [15]),
vo 17 (.lit 172 2 1 0 [z64] []),
sg 5 14,
sg 6 16,
sg 7 17])
(.seq
(.r [0, 5, 6, 7, 8, 14, 17, 42] [
mv 18 0,
sg 8 18])
(.seq
(.seq
(.r [0, 5, 6, 7, 8, 14, 17, 19, 20, 21, 42] [
mv 19 5,
vo 20 (.len false 28 19),
vo 21 (.mov (k64 0))])
(.block 0
l101_0))
(.seq
(.seq
(.r [5, 7, 14, 17, 42, 49, 50] [
mv 49 8,
vo 50 (.mov (k64 0))])
(.block 2
l101_1))
(.seq
(.r [4, 5, 14] [
mv 68 5,
sg 4 68])
.ret))))))
modes := [.lend, .lend]
rets := [⟨4, none⟩] }

def b107_0 : VC :=
(.seq
(.seq
(.r [0, 3, 11] [
mv 8 3,
mv 9 0,
vo 10 (.len false 28 9),
vo 11 (.bin false .lss 3 8 10)])
(.cond 11
.skip
(.exit 0)))
(.seq
(.block 1
(.seq
(.r [0, 3, 4] [
mv 14 0,
mv 15 3,
vo 16 (.ia 28 46 2 14 15),
vo 17 (.call 109 [16]),
sg 4 17])
(.seq
(.r [0, 3, 4, 19] [
mv 18 4,
vo 19 (.bin false .neq 2 18 (k64 0))])
(.cond 19
(.seq
(.r [2] [
mv 20 4,
sg 2 20])
.ret)
.skip))))
(.r [0, 3] [
mv 12 3,
vo 13 (.bin false .add 3 12 (k64 1)),
sg 3 13])))
def l107_0 : VC := .loop b107_0
def v107 : VFun := {
code :=
(.seq
(.r [0] [
vo 2 (.asg (k64 0))])
(.seq
(.seq
(.r [0, 7] [
mv 5 0,
vo 6 (.len false 28 5),
vo 7 (.bin false .gtr 3 6 (k64 12))])
(.cond 7
(.seq
(.r [2] [
vo 2 (.asg (k64 2))])
.ret)
.skip))
(.seq
(.seq
(.r [0, 3] [
vo 3 (.asg (k64 0))])
(.block 0
l107_0))
(.seq
(.r [2] [
vo 2 (.asg (k64 0))])
.ret))))
modes := [.lend]
rets := [⟨2, none⟩] }

def b108_0 : VC :=
(.seq
(.seq
(.r [0, 3, 4, 6, 10, 43] [
mv 7 4,
mv 8 0,
vo 9 (.len false 28 8),
vo 10 (.bin false .lss 3 7 9)])
(.cond 10
.skip
(.exit 0)))
(.seq
(.block 1
(.seq
(.r [0, 3, 4, 5, 6, 43] [
mv 13 3,
mv 14 0,
mv 15 4,
vo 16 (.ia 28 46 2 14 15),
vo 17 (.fa 46 0 0 1 16),
ld 18 9 17,
vo 19 (.call 79 [13, 18]),
sg 5 19])
(.seq
(.r [0, 3, 4, 5, 6, 21, 43] [
mv 20 5,
vo 21 (.bin false .geq 3 20 (k64 0))])
(.cond 21
(.region true [0, 3, 4, 6, 43] [
mv 22 3,
⟨some 23, .mov 5, none, [0]⟩,
⟨some 24, .mov 3, none, [0, 1]⟩,
⟨some 25, .mov 5, none, [0, 1, 2]⟩,
⟨some 26, .ia 28 46 2 24 25, none, [0, 1]⟩,
⟨some 27, .fa 46 1 1 1 26, none, [0, 1]⟩,
⟨some 28, .load 2 false 1 27, none, [0, 1]⟩,
⟨some 29, .mov 0, none, [0, 1, 2, 3, 4, 5, 6]⟩,
⟨some 30, .mov 4, none, [0, 1, 2, 3, 4, 5, 6, 7]⟩,
⟨some 31, .ia 28 46 2 29 30, none, [0, 1, 2, 3, 4, 5, 6]⟩,
⟨some 32, .fa 46 1 1 1 31, none, [0, 1, 2, 3, 4, 5, 6]⟩,
⟨some 33, .load 2 false 1 32, none, [0, 1, 2, 3, 4, 5, 6]⟩,
⟨some 34, .bin false .add 2 28 33, none, [0, 1]⟩,
vo 35 (.ia 28 46 2 22 23),
vo 36 (.fa 46 1 1 1 35),
vn (.store 2 1 36 34)])
(.r [0, 3, 4, 6, 43] [
mv 37 3,
mv 38 0,
mv 39 4,
vo 40 (.ia 28 46 2 38 39),
vo 41 (.load 46 true 2 40),
vo 42 (.lit 28 46 2 1 [(.val (.string (⟨#[]⟩ : ByteArray))), z64] [(0, 41)]),
vo 43 (.app 28 46 2 24 37 42),
sg 3 43])))))
(.r [0, 3, 4, 6, 43] [
mv 11 4,
vo 12 (.bin false .add 3 11 (k64 1)),
sg 4 12])))
def l108_0 : VC := .loop b108_0
def v108 : VFun := {
code :=
(.seq
(.r [0] [
vo 2 (.asg (.n 2))])
(.seq
(.r [0, 3, 6, 43] [
vo 6 (.lit 28 46 2 0 [(.val (.string (⟨#[]⟩ : ByteArray))), z64] []),
sg 3 6])
(.seq
(.seq
(.r [0, 3, 4, 6, 43] [
vo 4 (.asg (k64 0))])
(.block 0
l108_0))
(.seq
(.r [2, 3, 6, 43] [
mv 44 3,
sg 2 44])
.ret))))
modes := [.lend]
rets := [⟨2, none⟩] }

def v109 : VFun := {
code :=
(.seq
(.r [0] [
vo 2 (.asg (k64 0))])
(.seq
(.seq
(.r [0, 15] [
mv 3 0,
vo 4 (.nilc 3),
vo 5 (.fa 46 0 0 1 4),
ld 6 9 5,
vo 7 (.bin false .eql 9 6 (.c (.string (⟨#[]⟩ : ByteArray)))),
mv 8 7,
⟨some 9, .mov 0, some (8, false), []⟩,
⟨some 10, .nilc 9, some (8, false), []⟩,
⟨some 11, .fa 46 0 0 1 10, some (8, false), []⟩,
⟨some 12, .load 9 false 1 11, some (8, false), []⟩,
⟨some 13, .call 154 [12], some (8, false), []⟩,
⟨some 14, .un .not 13, some (8, false), []⟩,
vo 15 (.pick 8 (.c (.bool true)) 14)])
(.cond 15
(.seq
(.r [2] [
vo 2 (.asg (k64 5))])
.ret)
.skip))
(.seq
(.seq
(.r [21] [
mv 16 0,
vo 17 (.nilc 16),
vo 18 (.fa 46 1 1 1 17),
ld 19 2 18,
vo 20 (.call 110 [19, (k64 1), (k64 9999)]),
vo 21 (.un .not 20)])
(.cond 21
(.seq
(.r [2] [
vo 2 (.asg (k64 3))])
.ret)
.skip))
(.seq
(.r [2] [
vo 2 (.asg (k64 0))])
.ret))))
modes := [.lend]
rets := [⟨2, none⟩] }

def v110 : VFun := {
code :=
(.seq
(.r [0, 1, 2] [
vo 6 (.asg (.c (.bool false)))])
(.seq
(.r [6] [
mv 7 0,
mv 8 1,
vo 9 (.bin false .geq 2 7 8),
mv 10 9,
⟨some 11, .mov 0, some (10, true), []⟩,
⟨some 12, .mov 2, some (10, true), []⟩,
⟨some 13, .bin false .leq 2 11 12, some (10, true), []⟩,
vo 14 (.pick 10 13 (.c (.bool false))),
sg 6 14])
.ret))
modes := [.lend, .lend, .lend]
rets := [⟨6, none⟩] }

def b112_0 : VC :=
(.seq
(.r [3, 7, 8, 9, 10, 11, 33] [
vo 11 (.bin false .lss 3 10 9)])
(.seq
(.cond 11
.skip
(.exit 0))
(.seq
(.block 1
(.seq
(.r [3, 5, 7, 8, 9, 10, 33] [
vo 12 (.ia 28 46 2 8 10),
vo 13 (.load 46 true 2 12),
vo 5 (.alloc 46 [(.val (.string (⟨#[]⟩ : ByteArray))), z64]),
vn (.store 46 2 5 13)])
(.seq
(.r [3, 5, 6, 7, 8, 9, 10, 33] [
mv 14 3,
vo 15 (.fa 46 0 0 1 5),
ld 16 9 15,
vo 17 (.call 94 [14, 16]),
sg 6 17])
(.seq
(.r [3, 5, 6, 7, 8, 9, 10, 19, 33] [
mv 18 6,
vo 19 (.bin false .geq 3 18 (k64 0))])
(.cond 19
(.region true [3, 7, 8, 9, 10, 33] [
mv 20 3,
⟨some 21, .mov 6, none, [0]⟩,
vo 22 (.ia 28 46 2 20 21),
vo 23 (.fa 46 1 1 1 22),
ld 24 2 23,
⟨some 25, .fa 46 1 1 1 5, none, [0, 1, 2, 3, 4]⟩,
⟨some 26, .load 2 false 1 25, none, [0, 1, 2, 3, 4]⟩,
vo 27 (.bin false .add 2 24 26),
vo 28 (.ia 28 46 2 20 21),
vo 29 (.fa 46 1 1 1 28),
vn (.store 2 1 29 27)])
(.r [3, 7, 8, 9, 10, 33] [
mv 30 3,
vo 31 (.load 46 true 2 5),
vo 32 (.lit 28 46 2 1 [(.val (.string (⟨#[]⟩ : ByteArray))), z64] [(0, 31)]),
vo 33 (.app 28 46 2 24 30 32),
sg 3 33]))))))
(.r [3, 7, 8, 9, 10, 33] [
vo 34 (.bin false .add 3 10 (k64 1)),
mv 10 34]))))
def l112_0 : VC := .loop b112_0
def v112 : VFun := {
code :=
(.seq
(.r [0] [
vo 2 (.asg (.n 2))])
(.seq
(.r [0, 3, 7, 33] [
vo 7 (.lit 28 46 2 0 [(.val (.string (⟨#[]⟩ : ByteArray))), z64] []),
sg 3 7])
(.seq
(.seq
(.r [3, 7, 8, 9, 10, 33] [
mv 8 0,
vo 9 (.len false 28 8),
vo 10 (.mov (k64 0))])
(.block 0
l112_0))
(.seq
(.r [2, 3, 7, 33] [
mv 35 3,
sg 2 35])
.ret))))
modes := [.lend]
rets := [⟨2, none⟩] }

def v113 : VFun := {
code :=
(.seq
(.r [0] [
vo 2 (.asg (.c (.bool false)))])
(.seq
(.r [2] [
mv 3 0,
vo 4 (.bin false .neq 9 3 (.c (.string (⟨#[]⟩ : ByteArray)))),
mv 5 4,
⟨some 6, .mov 0, some (5, true), []⟩,
⟨some 7, .call 155 [6], some (5, true), []⟩,
vo 8 (.pick 5 7 (.c (.bool false))),
sg 2 8])
.ret))
modes := [.lend]
rets := [⟨2, none⟩] }

def v115 : VFun := {
code :=
(.seq
(.r [0] [
vo 2 (.asg (.c (.bool false)))])
(.seq
(.r [2] [
mv 3 0,
vo 4 (.call 110 [3, (k64 0), (k64 1000000)]),
sg 2 4])
.ret))
modes := [.lend]
rets := [⟨2, none⟩] }

def b116_2 : VC :=
(.seq
(.seq
(.r [7, 8, 9, 12, 13, 18, 19, 45, 57, 68] [
mv 65 13,
mv 66 8,
vo 67 (.len false 172 66),
vo 68 (.bin false .lss 3 65 67)])
(.cond 68
.skip
(.exit 4)))
(.seq
(.block 5
(.seq
(.region true [7, 8, 9, 12, 13, 18, 19, 45, 57, 79] [
mv 71 8,
⟨some 72, .mov 13, none, [0]⟩,
vo 73 (.ia 172 2 1 71 72),
ld 74 2 73,
⟨some 75, .mov 8, none, [0, 1, 2, 3]⟩,
⟨some 76, .mov 12, none, [0, 1, 2, 3, 4]⟩,
⟨some 77, .ia 172 2 1 75 76, none, [0, 1, 2, 3]⟩,
⟨some 78, .load 2 false 1 77, none, [0, 1, 2, 3]⟩,
vo 79 (.bin false .gtr 2 74 78)])
(.cond 79
(.r [7, 8, 9, 12, 13, 18, 19, 45, 57] [
mv 80 13,
sg 12 80])
.skip)))
(.r [7, 8, 9, 12, 13, 18, 19, 45, 57] [
mv 69 13,
vo 70 (.bin false .add 3 69 (k64 1)),
sg 13 70])))
def l116_2 : VC := .loop b116_2
def b116_1 : VC :=
(.seq
(.seq
(.r [7, 8, 9, 18, 19, 45, 57, 62] [
mv 61 9,
vo 62 (.bin false .gtr 2 61 (k64 0))])
(.cond 62
.skip
(.exit 2)))
(.seq
(.block 3
(.seq
(.r [7, 8, 9, 12, 18, 19, 45, 57] [
vo 12 (.asg (k64 0))])
(.seq
(.seq
(.r [7, 8, 9, 12, 13, 18, 19, 45, 57] [
vo 13 (.asg (k64 1))])
(.block 4
l116_2))
(.seq
(.r [7, 8, 9, 12, 18, 19, 45, 57] [
mv 81 7,
mv 82 12,
vo 83 (.ia 28 46 2 81 82),
vo 84 (.fa 46 1 1 1 83),
ld 85 2 84,
vo 86 (.bin false .add 2 85 (k64 1)),
vo 87 (.ia 28 46 2 81 82),
vo 88 (.fa 46 1 1 1 87),
vn (.store 2 1 88 86)])
(.r [7, 8, 9, 18, 19, 45, 57] [
mv 89 8,
mv 90 12,
vo 91 (.ia 172 2 1 89 90),
vn (.store 2 1 91 (k64 (-1)))])))))
(.r [7, 8, 9, 18, 19, 45, 57] [
mv 63 9,
vo 64 (.bin false .sub 2 63 (k64 1)),
sg 9 64])))
def l116_1 : VC := .loop b116_1
def b116_0 : VC :=
(.seq
(.seq
(.r [0, 5, 6, 7, 8, 9, 10, 15, 18, 19, 24, 45, 57] [
mv 21 10,
mv 22 5,
vo 23 (.len false 28 22),
vo 24 (.bin false .lss 3 21 23)])
(.cond 24
.skip
(.exit 0)))
(.seq
(.block 1
(.seq
(.r [0, 5, 6, 7, 8, 9, 10, 11, 15, 18, 19, 45, 57] [
mv 27 0,
mv 28 5,
mv 29 10,
vo 30 (.ia 28 46 2 28 29),
vo 31 (.fa 46 1 1 1 30),
ld 32 2 31,
vo 33 (.bin false .mul 2 27 32),
mv 34 6,
vo 35 (.bin false .quo 2 33 34),
sg 11 35])
(.seq
(.r [0, 5, 6, 7, 8, 9, 10, 11, 15, 18, 19, 45, 57] [
mv 36 7,
mv 37 5,
mv 38 10,
vo 39 (.ia 28 46 2 37 38),
vo 40 (.fa 46 0 0 1 39),
ld 41 9 40,
mv 42 11,
vo 43 (.build 46 [(.val (.string (⟨#[]⟩ : ByteArray))), z64] [(0, 0, 1, 41), (1, 1, 1, 42)]),
vo 44 (.lit 28 46 2 1 [(.val (.string (⟨#[]⟩ : ByteArray))), z64] [(0, 43)]),
vo 45 (.app 28 46 2 24 36 44),
sg 7 45])
(.seq
(.r [0, 5, 6, 7, 8, 9, 10, 11, 15, 18, 19, 45, 57] [
mv 46 8,
mv 47 0,
mv 48 5,
mv 49 10,
vo 50 (.ia 28 46 2 48 49),
vo 51 (.fa 46 1 1 1 50),
ld 52 2 51,
vo 53 (.bin false .mul 2 47 52),
mv 54 6,
vo 55 (.bin false .rem 2 53 54),
vo 56 (.lit 172 2 1 1 [z64] [(0, 55)]),
vo 57 (.app 172 2 1 8 46 56),
sg 8 57])
(.r [0, 5, 6, 7, 8, 9, 10, 15, 18, 19, 45, 57] [
mv 58 9,
mv 59 11,
vo 60 (.bin false .sub 2 58 59),
sg 9 60])))))
(.r [0, 5, 6, 7, 8, 9, 10, 15, 18, 19, 45, 57] [
mv 25 10,
vo 26 (.bin false .add 3 25 (k64 1)),
sg 10 26])))
def l116_0 : VC := .loop b116_0
def v116 : VFun := {
code :=
(.seq
(.r [0, 1] [
vo 4 (.asg (.n 2))])
(.seq
(.r [0, 5, 15] [
mv 14 1,
vo 15 (.call 108 [14]),
sg 5 15])
(.seq
(.r [0, 5, 6, 15] [
mv 16 5,
vo 17 (.call 134 [16]),
sg 6 17])
(.seq
(.r [0, 5, 6, 7, 15, 18, 45] [
vo 18 (.lit 28 46 2 0 [(.val (.string (⟨#[]⟩ : ByteArray))), z64] []),
sg 7 18])
(.seq
(.r [0, 5, 6, 7, 8, 15, 18, 19, 45, 57] [
vo 19 (.lit 172 2 1 0 [z64] []),
sg 8 19])
(.seq
(.r [0, 5, 6, 7, 8, 9, 15, 18, 19, 45, 57] [
mv 20 0,
sg 9 20])
(.seq
(.seq
(.r [0, 5, 6, 7, 8, 9, 10, 15, 18, 19, 45, 57] [
vo 10 (.asg (k64 0))])
(.block 0
l116_0))
(.seq
(.block 2
l116_1)
(.seq
(.r [4, 7, 18, 45] [
mv 92 7,
sg 4 92])
.ret)))))))))
modes := [.lend, .lend]
rets := [⟨4, none⟩] }

def v130 : VFun := {
code :=
(.seq
(.r [1, 2] [
vo 2 (.box 156 0),
vo 4 (.asg (k64 0))])
(.seq
(.r [1] [
vo 5 (.fa 156 3 3 1 2),
ld 6 22 5,
mv 7 1,
vo 8 (.call 66 [6, 7]),
sg 1 8])
(.seq
(.seq
(.r [1, 10] [
mv 9 1,
vo 10 (.bin false .lss 3 9 (k64 0))])
(.cond 10
(.seq
(.r [4] [
vo 4 (.asg (k64 (-1)))])
.ret)
.skip))
(.seq
(.r [4] [
mv 11 1,
sg 4 11])
.ret))))
modes := [.lend, .lend]
rets := [⟨4, none⟩] }

def v131 : VFun := {
code :=
(.seq
(.r [0] [
vo 2 (.asg (.c (.bool false)))])
(.seq
(.r [2] [
mv 3 0,
vo 4 (.nilc 3),
vo 5 (.fa 31 0 0 1 4),
ld 6 2 5,
vo 7 (.call 110 [6, (k64 1), (k64 12)]),
mv 8 7,
⟨some 9, .mov 0, some (8, true), []⟩,
⟨some 10, .nilc 9, some (8, true), []⟩,
⟨some 11, .fa 31 1 1 1 10, some (8, true), []⟩,
⟨some 12, .load 2 false 1 11, some (8, true), []⟩,
⟨some 13, .call 110 [12, (k64 0), (k64 1000)], some (8, true), []⟩,
vo 14 (.pick 8 13 (.c (.bool false))),
mv 15 14,
⟨some 16, .mov 0, some (15, true), []⟩,
⟨some 17, .nilc 16, some (15, true), []⟩,
⟨some 18, .fa 31 5 5 1 17, some (15, true), []⟩,
⟨some 19, .load 2 false 1 18, some (15, true), []⟩,
⟨some 20, .call 115 [19], some (15, true), []⟩,
vo 21 (.pick 15 20 (.c (.bool false))),
mv 22 21,
⟨some 23, .mov 0, some (22, true), []⟩,
⟨some 24, .nilc 23, some (22, true), []⟩,
⟨some 25, .fa 31 6 6 1 24, some (22, true), []⟩,
⟨some 26, .load 2 false 1 25, some (22, true), []⟩,
⟨some 27, .call 115 [26], some (22, true), []⟩,
vo 28 (.pick 22 27 (.c (.bool false))),
mv 29 28,
⟨some 30, .mov 0, some (29, true), []⟩,
⟨some 31, .nilc 30, some (29, true), []⟩,
⟨some 32, .fa 31 7 7 1 31, some (29, true), []⟩,
⟨some 33, .load 2 false 1 32, some (29, true), []⟩,
⟨some 34, .call 115 [33], some (29, true), []⟩,
vo 35 (.pick 29 34 (.c (.bool false))),
sg 2 35])
.ret))
modes := [.lend]
rets := [⟨2, none⟩] }

def v132 : VFun := {
code :=
(.seq
(.r [0, 1] [
vo 4 (.asg (k64 0))])
(.seq
(.r [0, 1, 5] [
mv 6 0,
mv 7 1,
vo 8 (.ia 29 107 5 6 7),
sg 5 8])
(.seq
(.seq
(.r [0, 1, 5, 38] [
mv 9 5,
vo 10 (.nilc 9),
vo 11 (.fa 107 0 0 1 10),
ld 12 2 11,
vo 13 (.call 150 [12]),
vo 14 (.un .not 13),
mv 15 14,
⟨some 16, .mov 5, some (15, false), []⟩,
⟨some 17, .nilc 16, some (15, false), []⟩,
⟨some 18, .fa 107 1 1 1 17, some (15, false), []⟩,
⟨some 19, .load 2 false 1 18, some (15, false), []⟩,
⟨some 20, .call 115 [19], some (15, false), []⟩,
⟨some 21, .un .not 20, some (15, false), []⟩,
vo 22 (.pick 15 (.c (.bool true)) 21),
mv 23 22,
⟨some 24, .mov 5, some (23, false), []⟩,
⟨some 25, .nilc 24, some (23, false), []⟩,
⟨some 26, .fa 107 2 2 1 25, some (23, false), []⟩,
⟨some 27, .load 2 false 1 26, some (23, false), []⟩,
⟨some 28, .call 115 [27], some (23, false), []⟩,
⟨some 29, .un .not 28, some (23, false), []⟩,
vo 30 (.pick 23 (.c (.bool true)) 29),
mv 31 30,
⟨some 32, .mov 5, some (31, false), []⟩,
⟨some 33, .nilc 32, some (31, false), []⟩,
⟨some 34, .fa 107 4 4 1 33, some (31, false), []⟩,
⟨some 35, .load 2 false 1 34, some (31, false), []⟩,
⟨some 36, .call 110 [35, (k64 1), (k64 3)], some (31, false), []⟩,
⟨some 37, .un .not 36, some (31, false), []⟩,
vo 38 (.pick 31 (.c (.bool true)) 37)])
(.cond 38
(.seq
(.r [4] [
vo 4 (.asg (k64 3))])
.ret)
.skip))
(.seq
(.seq
(.region true [0, 1, 5, 69] [
mv 39 5,
vo 40 (.nilc 39),
vo 41 (.fa 107 3 3 1 40),
ld 42 28 41,
vo 43 (.len false 28 42),
vo 44 (.bin false .gtr 3 43 (k64 12)),
mv 45 44,
⟨some 46, .mov 5, some (45, false), []⟩,
⟨some 47, .nilc 46, some (45, false), []⟩,
⟨some 48, .fa 107 3 3 1 47, some (45, false), []⟩,
⟨some 49, .load 28 false 1 48, some (45, false), []⟩,
⟨some 50, .call 133 [49], some (45, false), []⟩,
⟨some 51, .un .not 50, some (45, false), []⟩,
vo 52 (.pick 45 (.c (.bool true)) 51),
mv 53 52,
⟨some 54, .mov 5, some (53, false), []⟩,
⟨some 55, .nilc 54, some (53, false), []⟩,
⟨some 56, .fa 107 3 3 1 55, some (53, false), []⟩,
⟨some 57, .load 28 false 1 56, some (53, false), []⟩,
⟨some 58, .call 134 [57], some (53, false), []⟩,
⟨some 59, .mov 5, some (53, false), [15, 16, 17, 18, 19]⟩,
⟨some 60, .nilc 59, some (53, false), [15, 16, 17, 18, 19]⟩,
⟨some 61, .fa 107 2 2 1 60, some (53, false), [15, 16, 17, 18, 19]⟩,
⟨some 62, .load 2 false 1 61, some (53, false), [15, 16, 17, 18, 19]⟩,
⟨some 63, .bin false .add 2 58 62, some (53, false), []⟩,
⟨some 64, .mov 5, some (53, false), [15, 16, 17, 18, 19, 20, 21, 22, 23, 24]⟩,
⟨some 65, .nilc 64, some (53, false), [15, 16, 17, 18, 19, 20, 21, 22, 23, 24]⟩,
⟨some 66, .fa 107 1 1 1 65, some (53, false), [15, 16, 17, 18, 19, 20, 21, 22, 23, 24]⟩,
⟨some 67, .load 2 false 1 66, some (53, false), [15, 16, 17, 18, 19, 20, 21, 22, 23, 24]⟩,
⟨some 68, .bin false .neq 2 63 67, some (53, false), []⟩,
vo 69 (.pick 53 (.c (.bool true)) 68)])
(.cond 69
(.seq
(.r [4] [
vo 4 (.asg (k64 1))])
.ret)
.skip))
(.seq
(.seq
(.region true [78] [
mv 70 0,
⟨some 71, .mov 1, none, [0]⟩,
vo 72 (.cut 29 (some 107) 5 70 none (some 71)),
⟨some 73, .mov 5, none, [0, 1, 2]⟩,
⟨some 74, .nilc 73, none, [0, 1, 2]⟩,
⟨some 75, .fa 107 0 0 1 74, none, [0, 1, 2]⟩,
⟨some 76, .load 2 false 1 75, none, [0, 1, 2]⟩,
vo 77 (.call 144 [72, 76]),
vo 78 (.bin false .geq 3 77 (k64 0))])
(.cond 78
(.seq
(.r [4] [
vo 4 (.asg (k64 6))])
.ret)
.skip))
(.seq
(.r [4] [
vo 4 (.asg (k64 0))])
.ret))))))
modes := [.lend, .lend]
rets := [⟨4, none⟩] }

def b133_0 : VC :=
(.seq
(.seq
(.r [0, 3, 7] [
mv 4 3,
mv 5 0,
vo 6 (.len false 28 5),
vo 7 (.bin false .lss 3 4 6)])
(.cond 7
.skip
(.exit 0)))
(.seq
(.block 1
(.seq
(.r [0, 3, 44] [
mv 10 0,
mv 11 3,
vo 12 (.ia 28 46 2 10 11),
vo 13 (.fa 46 0 0 1 12),
ld 14 9 13,
vo 15 (.bin false .eql 9 14 (.c (.string (⟨#[]⟩ : ByteArray)))),
mv 16 15,
⟨some 17, .mov 0, some (16, false), []⟩,
⟨some 18, .mov 3, some (16, false), []⟩,
⟨some 19, .ia 28 46 2 17 18, some (16, false), []⟩,
⟨some 20, .fa 46 0 0 1 19, some (16, false), []⟩,
⟨some 21, .load 9 false 1 20, some (16, false), []⟩,
⟨some 22, .call 154 [21], some (16, false), []⟩,
⟨some 23, .un .not 22, some (16, false), []⟩,
vo 24 (.pick 16 (.c (.bool true)) 23),
mv 25 24,
⟨some 26, .mov 0, some (25, false), []⟩,
⟨some 27, .mov 3, some (25, false), []⟩,
⟨some 28, .ia 28 46 2 26 27, some (25, false), []⟩,
⟨some 29, .fa 46 1 1 1 28, some (25, false), []⟩,
⟨some 30, .load 2 false 1 29, some (25, false), []⟩,
⟨some 31, .call 115 [30], some (25, false), []⟩,
⟨some 32, .un .not 31, some (25, false), []⟩,
vo 33 (.pick 25 (.c (.bool true)) 32),
mv 34 33,
⟨some 35, .mov 0, some (34, false), []⟩,
⟨some 36, .mov 0, some (34, false), []⟩,
⟨some 37, .mov 3, some (34, false), []⟩,
⟨some 38, .ia 28 46 2 36 37, some (34, false), []⟩,
⟨some 39, .fa 46 0 0 1 38, some (34, false), []⟩,
⟨some 40, .load 9 false 1 39, some (34, false), []⟩,
⟨some 41, .call 79 [35, 40], some (34, false), []⟩,
⟨some 42, .mov 3, some (34, false), []⟩,
⟨some 43, .bin false .neq 3 41 42, some (34, false), []⟩,
vo 44 (.pick 34 (.c (.bool true)) 43)])
(.cond 44
(.seq
(.r [2] [
vo 2 (.asg (.c (.bool false)))])
.ret)
.skip)))
(.r [0, 3] [
mv 8 3,
vo 9 (.bin false .add 3 8 (k64 1)),
sg 3 9])))
def l133_0 : VC := .loop b133_0
def v133 : VFun := {
code :=
(.seq
(.r [0] [
vo 2 (.asg (.c (.bool false)))])
(.seq
(.seq
(.r [0, 3] [
vo 3 (.asg (k64 0))])
(.block 0
l133_0))
(.seq
(.r [2] [
vo 2 (.asg (.c (.bool true)))])
.ret)))
modes := [.lend]
rets := [⟨2, none⟩] }

def b134_0 : VC :=
(.seq
(.seq
(.r [0, 3, 4, 8] [
mv 5 4,
mv 6 0,
vo 7 (.len false 28 6),
vo 8 (.bin false .lss 3 5 7)])
(.cond 8
.skip
(.exit 0)))
(.seq
(.block 1
(.r [0, 3, 4] [
mv 11 3,
mv 12 0,
mv 13 4,
vo 14 (.ia 28 46 2 12 13),
vo 15 (.fa 46 1 1 1 14),
ld 16 2 15,
vo 17 (.bin false .add 2 11 16),
sg 3 17]))
(.r [0, 3, 4] [
mv 9 4,
vo 10 (.bin false .add 3 9 (k64 1)),
sg 4 10])))
def l134_0 : VC := .loop b134_0
def v134 : VFun := {
code :=
(.seq
(.r [0] [
vo 2 (.asg (k64 0))])
(.seq
(.r [0, 3] [
vo 3 (.asg (k64 0))])
(.seq
(.seq
(.r [0, 3, 4] [
vo 4 (.asg (k64 0))])
(.block 0
l134_0))
(.seq
(.r [2] [
mv 18 3,
sg 2 18])
.ret))))
modes := [.lend]
rets := [⟨2, none⟩] }

def b135_0 : VC :=
(.seq
(.seq
(.r [0, 1, 5, 6, 10] [
mv 7 6,
mv 8 0,
vo 9 (.len false 29 8),
vo 10 (.bin false .lss 3 7 9)])
(.cond 10
.skip
(.exit 0)))
(.seq
(.block 1
(.seq
(.r [0, 1, 5, 6, 22] [
mv 13 1,
vo 14 (.un .not 13),
mv 15 14,
⟨some 16, .mov 0, some (15, false), []⟩,
⟨some 17, .mov 6, some (15, false), []⟩,
⟨some 18, .ia 29 107 5 16 17, some (15, false), []⟩,
⟨some 19, .fa 107 4 4 1 18, some (15, false), []⟩,
⟨some 20, .load 2 false 1 19, some (15, false), []⟩,
⟨some 21, .bin false .eql 2 20 (k64 2), some (15, false), []⟩,
vo 22 (.pick 15 (.c (.bool true)) 21)])
(.cond 22
(.r [0, 1, 5, 6] [
mv 23 5,
mv 24 0,
mv 25 6,
vo 26 (.ia 29 107 5 24 25),
vo 27 (.fa 107 1 1 1 26),
ld 28 2 27,
vo 29 (.bin false .add 2 23 28),
sg 5 29])
.skip)))
(.r [0, 1, 5, 6] [
mv 11 6,
vo 12 (.bin false .add 3 11 (k64 1)),
sg 6 12])))
def l135_0 : VC := .loop b135_0
def v135 : VFun := {
code :=
(.seq
(.r [0, 1] [
vo 4 (.asg (k64 0))])
(.seq
(.r [0, 1, 5] [
vo 5 (.asg (k64 0))])
(.seq
(.seq
(.r [0, 1, 5, 6] [
vo 6 (.asg (k64 0))])
(.block 0
l135_0))
(.seq
(.r [4] [
mv 30 5,
sg 4 30])
.ret))))
modes := [.lend, .lend]
rets := [⟨4, none⟩] }

def v136 : VFun := {
code :=
(.seq
(.r [1, 2] [
vo 1 (.box 156 0),
vo 2 (.alloc 107 [z64, z64, z64, (.nl 2), z64])])
(.seq
(.r [1, 2, 3] [
vo 3 (.alloc 107 [z64, z64, z64, (.nl 2), z64])])
(.seq
(.r [1, 2, 3] [
vo 4 (.fa 156 0 0 1 1),
ld 5 2 4,
vo 6 (.fa 107 0 0 1 3),
vn (.store 2 1 6 5)])
(.seq
(.r [1, 2, 3] [
vo 7 (.fa 156 1 1 1 1),
ld 8 2 7,
vo 9 (.fa 107 1 1 1 3),
vn (.store 2 1 9 8)])
(.seq
(.r [1, 2, 3] [
vo 10 (.fa 156 2 2 1 1),
ld 11 2 10,
vo 12 (.fa 107 2 2 1 3),
vn (.store 2 1 12 11)])
(.seq
(.r [1, 2, 3] [
vo 13 (.fa 156 3 3 1 1),
ld 14 22 13,
vo 15 (.call 69 [14]),
vo 16 (.fa 107 3 3 1 3),
vn (.store 28 1 16 15)])
(.seq
(.r [2, 3] [
vo 17 (.fa 156 4 4 1 1),
ld 18 2 17,
vo 19 (.fa 107 4 4 1 3),
vn (.store 2 1 19 18)])
(.seq
(.r [2] [
vo 20 (.load 107 true 5 3),
vn (.store 107 5 2 20)])
.ret))))))))
modes := [.lend]
rets := [⟨2, some (true, 5)⟩] }

def v137 : VFun := {
code :=
(.seq
(.r [2, 3] [
vo 2 (.box 46 0),
vo 3 (.box 46 1),
vo 4 (.asg (.c (.bool false)))])
(.seq
(.seq
(.r [2, 3, 9] [
vo 5 (.fa 46 0 0 1 2),
ld 6 9 5,
vo 7 (.fa 46 0 0 1 3),
ld 8 9 7,
vo 9 (.bin false .neq 9 6 8)])
(.cond 9
(.seq
(.r [4] [
vo 4 (.asg (.c (.bool false)))])
.ret)
.skip))
(.seq
(.seq
(.r [14] [
vo 10 (.fa 46 1 1 1 2),
ld 11 2 10,
vo 12 (.fa 46 1 1 1 3),
ld 13 2 12,
vo 14 (.bin false .neq 2 11 13)])
(.cond 14
(.seq
(.r [4] [
vo 4 (.asg (.c (.bool false)))])
.ret)
.skip))
(.seq
(.r [4] [
vo 4 (.asg (.c (.bool true)))])
.ret))))
modes := [.lend, .lend]
rets := [⟨4, none⟩] }

def v138 : VFun := {
code :=
(.seq
(.r [2, 3] [
vo 2 (.box 107 0),
vo 3 (.box 107 1),
vo 4 (.asg (.c (.bool false)))])
(.seq
(.seq
(.r [2, 3, 9] [
vo 5 (.fa 107 0 0 1 2),
ld 6 2 5,
vo 7 (.fa 107 0 0 1 3),
ld 8 2 7,
vo 9 (.bin false .neq 2 6 8)])
(.cond 9
(.seq
(.r [4] [
vo 4 (.asg (.c (.bool false)))])
.ret)
.skip))
(.seq
(.seq
(.r [2, 3, 14] [
vo 10 (.fa 107 1 1 1 2),
ld 11 2 10,
vo 12 (.fa 107 1 1 1 3),
ld 13 2 12,
vo 14 (.bin false .neq 2 11 13)])
(.cond 14
(.seq
(.r [4] [
vo 4 (.asg (.c (.bool false)))])
.ret)
.skip))
(.seq
(.seq
(.r [2, 3, 19] [
vo 15 (.fa 107 2 2 1 2),
ld 16 2 15,
vo 17 (.fa 107 2 2 1 3),
ld 18 2 17,
vo 19 (.bin false .neq 2 16 18)])
(.cond 19
(.seq
(.r [4] [
vo 4 (.asg (.c (.bool false)))])
.ret)
.skip))
(.seq
(.seq
(.r [2, 3, 25] [
vo 20 (.fa 107 3 3 1 2),
ld 21 28 20,
vo 22 (.fa 107 3 3 1 3),
ld 23 28 22,
vo 24 (.call 77 [21, 23]),
vo 25 (.un .not 24)])
(.cond 25
(.seq
(.r [4] [
vo 4 (.asg (.c (.bool false)))])
.ret)
.skip))
(.seq
(.seq
(.r [30] [
vo 26 (.fa 107 4 4 1 2),
ld 27 2 26,
vo 28 (.fa 107 4 4 1 3),
ld 29 2 28,
vo 30 (.bin false .neq 2 27 29)])
(.cond 30
(.seq
(.r [4] [
vo 4 (.asg (.c (.bool false)))])
.ret)
.skip))
(.seq
(.r [4] [
vo 4 (.asg (.c (.bool true)))])
.ret)))))))
modes := [.lend, .lend]
rets := [⟨4, none⟩] }

def b139_0 : VC :=
(.seq
(.seq
(.r [1, 2, 3, 4, 20] [
mv 16 4,
vo 17 (.fa 31 3 3 1 1),
ld 18 29 17,
vo 19 (.len false 29 18),
vo 20 (.bin false .lss 3 16 19)])
(.cond 20
.skip
(.exit 0)))
(.seq
(.block 1
(.seq
(.r [1, 2, 3, 4, 5] [
vo 23 (.fa 31 3 3 1 1),
ld 24 29 23,
mv 25 4,
vo 26 (.ia 29 107 5 24 25),
vo 27 (.load 107 true 5 26),
vo 5 (.alloc 107 [z64, z64, z64, (.nl 2), z64]),
vn (.store 107 5 5 27)])
(.seq
(.r [1, 2, 3, 4, 5] [
vo 28 (.fa 107 3 3 1 5),
ld 29 28 28,
vo 30 (.call 170 [29]),
vo 31 (.fa 107 3 3 1 5),
vn (.store 28 1 31 30)])
(.r [1, 2, 3, 4] [
vo 32 (.fa 31 3 3 1 3),
ld 33 29 32,
vo 34 (.load 107 true 5 5),
vo 35 (.lit 29 107 5 1 [z64, z64, z64, (.nl 2), z64] [(0, 34)]),
vo 36 (.app 29 107 5 56 33 35),
vo 37 (.fa 31 3 3 1 3),
vn (.store 29 1 37 36)]))))
(.r [1, 2, 3, 4] [
mv 21 4,
vo 22 (.bin false .add 3 21 (k64 1)),
sg 4 22])))
def l139_0 : VC := .loop b139_0
def v139 : VFun := {
code :=
(.seq
(.r [1, 2] [
vo 1 (.box 31 0),
vo 2 (.alloc 31 [z64, z64, (.nl 2), (.nl 5), (.nl 2), z64, z64, z64])])
(.seq
(.r [1, 2, 3] [
vo 6 (.load 31 true 8 1),
vo 3 (.alloc 31 [z64, z64, (.nl 2), (.nl 5), (.nl 2), z64, z64, z64]),
vn (.store 31 8 3 6)])
(.seq
(.r [1, 2, 3] [
vo 7 (.fa 31 2 2 1 1),
ld 8 28 7,
vo 9 (.call 170 [8]),
vo 10 (.fa 31 2 2 1 3),
vn (.store 28 1 10 9)])
(.seq
(.r [1, 2, 3] [
vo 11 (.fa 31 4 4 1 1),
ld 12 28 11,
vo 13 (.call 170 [12]),
vo 14 (.fa 31 4 4 1 3),
vn (.store 28 1 14 13)])
(.seq
(.r [1, 2, 3] [
vo 15 (.fa 31 3 3 1 3),
vn (.store 29 1 15 (.n 5))])
(.seq
(.seq
(.r [1, 2, 3, 4] [
vo 4 (.asg (k64 0))])
(.block 0
l139_0))
(.seq
(.r [2] [
vo 38 (.load 31 true 8 3),
vn (.store 31 8 2 38)])
.ret)))))))
modes := [.lend]
rets := [⟨2, some (true, 8)⟩] }

def b140_0 : VC :=
(.seq
(.r [1, 2, 3, 14, 16, 17, 18, 19, 29] [
vo 19 (.bin false .lss 3 18 17)])
(.seq
(.cond 19
.skip
(.exit 0))
(.seq
(.block 1
(.seq
(.r [1, 2, 3, 5, 14, 16, 17, 18, 29] [
vo 20 (.ia 29 107 5 16 18),
vo 21 (.load 107 true 5 20),
vo 5 (.alloc 107 [z64, z64, z64, (.nl 2), z64]),
vn (.store 107 5 5 21)])
(.seq
(.r [1, 2, 3, 5, 14, 16, 17, 18, 29] [
vo 22 (.fa 107 3 3 1 5),
ld 23 28 22,
vo 24 (.call 106 [23]),
vo 25 (.fa 107 3 3 1 5),
vn (.store 28 1 25 24)])
(.r [1, 2, 3, 14, 16, 17, 18, 29] [
mv 26 3,
vo 27 (.load 107 true 5 5),
vo 28 (.lit 29 107 5 1 [z64, z64, z64, (.nl 2), z64] [(0, 27)]),
vo 29 (.app 29 107 5 56 26 28),
sg 3 29]))))
(.r [1, 2, 3, 14, 16, 17, 18, 29] [
vo 30 (.bin false .add 3 18 (k64 1)),
mv 18 30]))))
def l140_0 : VC := .loop b140_0
def v140 : VFun := {
code :=
(.seq
(.r [1, 2] [
vo 1 (.box 31 0),
vo 2 (.alloc 31 [z64, z64, (.nl 2), (.nl 5), (.nl 2), z64, z64, z64])])
(.seq
(.region true [1, 2] [
vo 6 (.fa 31 2 2 1 1),
ld 7 28 6,
vo 8 (.call 106 [7]),
⟨some 9, .fa 31 4 4 1 1, none, [0, 1, 2]⟩,
⟨some 10, .load 28 false 1 9, none, [0, 1, 2]⟩,
vo 11 (.call 106 [10]),
⟨some 12, .fa 31 2 2 1 1, none, [5]⟩,
vn (.store 28 1 12 8),
vo 13 (.fa 31 4 4 1 1),
vn (.store 28 1 13 11)])
(.seq
(.r [1, 2, 3, 14, 29] [
vo 14 (.lit 29 107 5 0 [z64, z64, z64, (.nl 2), z64] []),
sg 3 14])
(.seq
(.seq
(.r [1, 2, 3, 14, 16, 17, 18, 29] [
vo 15 (.fa 31 3 3 1 1),
ld 16 29 15,
vo 17 (.len false 29 16),
vo 18 (.mov (k64 0))])
(.block 0
l140_0))
(.seq
(.r [1, 2] [
mv 31 3,
vo 32 (.fa 31 3 3 1 1),
vn (.store 29 1 32 31)])
(.seq
(.r [2] [
vo 33 (.load 31 true 8 1),
vn (.store 31 8 2 33)])
.ret))))))
modes := [.lend]
rets := [⟨2, some (true, 8)⟩] }

def b141_0 : VC :=
(.seq
(.seq
(.r [0, 3, 7] [
mv 6 0,
vo 7 (.bin false .gtr 3 6 (k64 0))])
(.cond 7
.skip
(.exit 0)))
(.block 1
(.seq
(.r [0, 3] [
mv 8 0,
vo 9 (.bin false .rem 3 8 (k64 10)),
vo 10 (.bin false .add 3 (k64 48) 9),
vo 11 (.conv 3 5 .u8 10),
vo 12 (.lit 58 5 1 1 [(.val (.int .u8 0))] [(0, 11)]),
vo 13 (.b2s 58 9 12),
mv 14 3,
vo 15 (.bin false .add 9 13 14),
sg 3 15])
(.r [0, 3] [
mv 16 0,
vo 17 (.bin false .quo 3 16 (k64 10)),
sg 0 17]))))
def l141_0 : VC := .loop b141_0
def v141 : VFun := {
code :=
(.seq
(.r [0] [
vo 2 (.asg (.c (.string (⟨#[]⟩ : ByteArray))))])
(.seq
(.seq
(.r [0, 5] [
mv 4 0,
vo 5 (.bin false .leq 3 4 (k64 0))])
(.cond 5
(.seq
(.r [2] [
vo 2 (.asg (.c (.string (⟨#[109, 48]⟩ : ByteArray))))])
.ret)
.skip))
(.seq
(.r [0, 3] [
vo 3 (.asg (.c (.string (⟨#[]⟩ : ByteArray))))])
(.seq
(.block 0
l141_0)
(.seq
(.r [2] [
mv 18 3,
vo 19 (.bin false .add 9 (.c (.string (⟨#[109]⟩ : ByteArray))) 18),
sg 2 19])
.ret)))))
modes := [.lend]
rets := [⟨2, none⟩] }

def b142_0 : VC :=
(.seq
(.seq
(.r [0, 1, 5, 9] [
mv 6 5,
mv 7 0,
vo 8 (.len false 28 7),
vo 9 (.bin false .lss 3 6 8)])
(.cond 9
.skip
(.exit 0)))
(.seq
(.block 1
(.seq
(.seq
(.region true [0, 1, 5, 19] [
mv 12 0,
⟨some 13, .mov 5, none, [0]⟩,
vo 14 (.ia 28 46 2 12 13),
vo 15 (.fa 46 0 0 1 14),
ld 16 9 15,
⟨some 17, .mov 1, none, [0, 1, 2, 3, 4]⟩,
⟨some 18, .call 141 [17], none, [0, 1, 2, 3, 4]⟩,
vo 19 (.bin false .neq 9 16 18)])
(.cond 19
(.seq
(.r [4] [
vo 4 (.asg (k64 (-1)))])
.ret)
.skip))
(.seq
(.r [0, 1, 5] [
mv 20 1,
vo 21 (.bin false .add 3 20 (k64 1)),
sg 1 21])
(.seq
(.seq
(.r [0, 1, 5, 28] [
mv 22 0,
mv 23 5,
vo 24 (.ia 28 46 2 22 23),
vo 25 (.fa 46 1 1 1 24),
ld 26 2 25,
mv 27 1,
vo 28 (.bin false .neq 2 26 27)])
(.cond 28
(.seq
(.r [4] [
vo 4 (.asg (k64 (-1)))])
.ret)
.skip))
(.r [0, 1, 5] [
mv 29 1,
vo 30 (.bin false .add 3 29 (k64 1)),
sg 1 30])))))
(.r [0, 1, 5] [
mv 10 5,
vo 11 (.bin false .add 3 10 (k64 1)),
sg 5 11])))
def l142_0 : VC := .loop b142_0
def v142 : VFun := {
code :=
(.seq
(.r [0, 1] [
vo 4 (.asg (k64 0))])
(.seq
(.seq
(.r [0, 1, 5] [
vo 5 (.asg (k64 0))])
(.block 0
l142_0))
(.seq
(.r [4] [
mv 31 1,
sg 4 31])
.ret)))
modes := [.lend, .lend]
rets := [⟨4, none⟩] }

def b143_0 : VC :=
(.seq
(.seq
(.r [0, 1, 5, 9] [
mv 6 5,
mv 7 0,
vo 8 (.len false 29 7),
vo 9 (.bin false .lss 3 6 8)])
(.cond 9
.skip
(.exit 0)))
(.seq
(.block 1
(.seq
(.seq
(.r [0, 1, 5, 18] [
mv 12 0,
mv 13 5,
vo 14 (.ia 29 107 5 12 13),
vo 15 (.fa 107 0 0 1 14),
ld 16 2 15,
mv 17 1,
vo 18 (.bin false .neq 2 16 17)])
(.cond 18
(.seq
(.r [4] [
vo 4 (.asg (k64 (-1)))])
.ret)
.skip))
(.seq
(.r [0, 1, 5] [
mv 19 1,
vo 20 (.bin false .add 3 19 (k64 1)),
sg 1 20])
(.seq
(.seq
(.r [0, 1, 5, 27] [
mv 21 0,
mv 22 5,
vo 23 (.ia 29 107 5 21 22),
vo 24 (.fa 107 1 1 1 23),
ld 25 2 24,
mv 26 1,
vo 27 (.bin false .neq 2 25 26)])
(.cond 27
(.seq
(.r [4] [
vo 4 (.asg (k64 (-1)))])
.ret)
.skip))
(.seq
(.r [0, 1, 5] [
mv 28 1,
vo 29 (.bin false .add 3 28 (k64 1)),
sg 1 29])
(.seq
(.seq
(.r [0, 1, 5, 36] [
mv 30 0,
mv 31 5,
vo 32 (.ia 29 107 5 30 31),
vo 33 (.fa 107 2 2 1 32),
ld 34 2 33,
mv 35 1,
vo 36 (.bin false .neq 2 34 35)])
(.cond 36
(.seq
(.r [4] [
vo 4 (.asg (k64 (-1)))])
.ret)
.skip))
(.seq
(.r [0, 1, 5] [
mv 37 1,
vo 38 (.bin false .add 3 37 (k64 1)),
sg 1 38])
(.seq
(.r [0, 1, 5] [
mv 39 0,
mv 40 5,
vo 41 (.ia 29 107 5 39 40),
vo 42 (.fa 107 3 3 1 41),
ld 43 28 42,
mv 44 1,
vo 45 (.call 142 [43, 44]),
sg 1 45])
(.seq
(.seq
(.r [0, 1, 5, 47] [
mv 46 1,
vo 47 (.bin false .lss 3 46 (k64 0))])
(.cond 47
(.seq
(.r [4] [
vo 4 (.asg (k64 (-1)))])
.ret)
.skip))
(.seq
(.seq
(.r [0, 1, 5, 54] [
mv 48 0,
mv 49 5,
vo 50 (.ia 29 107 5 48 49),
vo 51 (.fa 107 4 4 1 50),
ld 52 2 51,
mv 53 1,
vo 54 (.bin false .neq 2 52 53)])
(.cond 54
(.seq
(.r [4] [
vo 4 (.asg (k64 (-1)))])
.ret)
.skip))
(.r [0, 1, 5] [
mv 55 1,
vo 56 (.bin false .add 3 55 (k64 1)),
sg 1 56])))))))))))
(.r [0, 1, 5] [
mv 10 5,
vo 11 (.bin false .add 3 10 (k64 1)),
sg 5 11])))
def l143_0 : VC := .loop b143_0
def v143 : VFun := {
code :=
(.seq
(.r [0, 1] [
vo 4 (.asg (k64 0))])
(.seq
(.seq
(.r [0, 1, 5] [
vo 5 (.asg (k64 0))])
(.block 0
l143_0))
(.seq
(.r [4] [
mv 57 1,
sg 4 57])
.ret)))
modes := [.lend, .lend]
rets := [⟨4, none⟩] }

def b144_0 : VC :=
(.seq
(.seq
(.r [0, 1, 5, 9] [
mv 6 5,
mv 7 0,
vo 8 (.len false 29 7),
vo 9 (.bin false .lss 3 6 8)])
(.cond 9
.skip
(.exit 0)))
(.seq
(.block 1
(.seq
(.r [0, 1, 5, 18] [
mv 12 0,
mv 13 5,
vo 14 (.ia 29 107 5 12 13),
vo 15 (.fa 107 0 0 1 14),
ld 16 2 15,
mv 17 1,
vo 18 (.bin false .eql 2 16 17)])
(.cond 18
(.seq
(.r [4] [
mv 19 5,
sg 4 19])
.ret)
.skip)))
(.r [0, 1, 5] [
mv 10 5,
vo 11 (.bin false .add 3 10 (k64 1)),
sg 5 11])))
def l144_0 : VC := .loop b144_0
def v144 : VFun := {
code :=
(.seq
(.r [0, 1] [
vo 4 (.asg (k64 0))])
(.seq
(.seq
(.r [0, 1, 5] [
vo 5 (.asg (k64 0))])
(.block 0
l144_0))
(.seq
(.r [4] [
vo 4 (.asg (k64 (-1)))])
.ret)))
modes := [.lend, .lend]
rets := [⟨4, none⟩] }

def b145_0 : VC :=
(.seq
(.r [0, 1, 7, 8, 9] [
vo 9 (.bin false .lss 3 8 7)])
(.seq
(.cond 9
.skip
(.exit 0))
(.seq
(.block 1
(.seq
(.r [0, 1, 5, 7, 8] [
mv 10 8,
sg 5 10])
(.seq
(.r [0, 1, 5, 7, 8, 16] [
mv 11 1,
mv 12 0,
mv 13 5,
vo 14 (.ia 29 107 5 12 13),
vo 15 (.load 107 true 5 14),
vo 16 (.callv 11 [15])])
(.cond 16
(.seq
(.r [4] [
mv 17 5,
sg 4 17])
.ret)
.skip))))
(.r [0, 1, 7, 8] [
vo 18 (.bin false .add 3 8 (k64 1)),
mv 8 18]))))
def l145_0 : VC := .loop b145_0
def v145 : VFun := {
code :=
(.seq
(.r [0, 1] [
vo 4 (.asg (k64 0))])
(.seq
(.seq
(.r [0, 1, 7, 8] [
mv 6 0,
vo 7 (.len false 29 6),
vo 8 (.mov (k64 0))])
(.block 0
l145_0))
(.seq
(.r [4] [
vo 4 (.asg (k64 (-1)))])
.ret)))
modes := [.lend, .lend]
rets := [⟨4, none⟩] }

def v146 : VFun := {
code :=
(.seq
(.r [1, 2] [
vo 2 (.box 107 0),
vo 3 (.asg (.c (.bool false)))])
(.seq
(.r [3] [
vo 4 (.fa 107 0 0 1 2),
ld 5 2 4,
ld 6 2 1,
vo 7 (.bin false .eql 2 5 6),
sg 3 7])
.ret))
modes := [.lend, .lend]
rets := [⟨3, none⟩] }

def b147_0 : VC :=
(.seq
(.r [0, 1, 7, 8, 9] [
vo 9 (.bin false .lss 3 8 7)])
(.seq
(.cond 9
.skip
(.exit 0))
(.seq
(.block 1
(.seq
(.r [0, 1, 5, 7, 8] [
mv 10 8,
sg 5 10])
(.seq
(.r [0, 1, 5, 7, 8, 16] [
mv 11 1,
mv 12 0,
mv 13 5,
vo 14 (.ia 28 46 2 12 13),
vo 15 (.load 46 true 2 14),
vo 16 (.callv 11 [15])])
(.cond 16
(.seq
(.r [4] [
mv 17 5,
sg 4 17])
.ret)
.skip))))
(.r [0, 1, 7, 8] [
vo 18 (.bin false .add 3 8 (k64 1)),
mv 8 18]))))
def l147_0 : VC := .loop b147_0
def v147 : VFun := {
code :=
(.seq
(.r [0, 1] [
vo 4 (.asg (k64 0))])
(.seq
(.seq
(.r [0, 1, 7, 8] [
mv 6 0,
vo 7 (.len false 28 6),
vo 8 (.mov (k64 0))])
(.block 0
l147_0))
(.seq
(.r [4] [
vo 4 (.asg (k64 (-1)))])
.ret)))
modes := [.lend, .lend]
rets := [⟨4, none⟩] }

def v148 : VFun := {
code :=
(.seq
(.r [1, 2] [
vo 2 (.box 46 0),
vo 3 (.asg (.c (.bool false)))])
(.seq
(.r [3] [
vo 4 (.fa 46 0 0 1 2),
ld 5 9 4,
ld 6 9 1,
vo 7 (.bin false .eql 9 5 6),
sg 3 7])
.ret))
modes := [.lend, .lend]
rets := [⟨3, none⟩] }

def v150 : VFun := {
code :=
(.seq
(.r [0] [
vo 2 (.asg (.c (.bool false)))])
(.seq
(.r [2] [
mv 3 0,
vo 4 (.call 110 [3, (k64 0), (k64 2147483646)]),
sg 2 4])
.ret))
modes := [.lend]
rets := [⟨2, none⟩] }

def b151_0 : VC :=
(.seq
(.r [0, 1, 7, 8, 9] [
vo 9 (.bin false .lss 3 8 7)])
(.seq
(.cond 9
.skip
(.exit 0))
(.seq
(.block 1
(.seq
(.r [0, 1, 5, 7, 8] [
mv 10 8,
sg 5 10])
(.seq
(.r [0, 1, 5, 7, 8, 16] [
mv 11 1,
mv 12 0,
mv 13 5,
vo 14 (.ia 172 2 1 12 13),
ld 15 2 14,
vo 16 (.bin false .eql 2 11 15)])
(.cond 16
(.seq
(.r [4] [
mv 17 5,
sg 4 17])
.ret)
.skip))))
(.r [0, 1, 7, 8] [
vo 18 (.bin false .add 3 8 (k64 1)),
mv 8 18]))))
def l151_0 : VC := .loop b151_0
def v151 : VFun := {
code :=
(.seq
(.r [0, 1] [
vo 4 (.asg (k64 0))])
(.seq
(.seq
(.r [0, 1, 7, 8] [
mv 6 0,
vo 7 (.len false 172 6),
vo 8 (.mov (k64 0))])
(.block 0
l151_0))
(.seq
(.r [4] [
vo 4 (.asg (k64 (-1)))])
.ret)))
modes := [.lend, .lend]
rets := [⟨4, none⟩] }

def b152_0 : VC :=
(.seq
(.seq
(.r [0, 3, 4, 15] [
mv 12 4,
mv 13 0,
vo 14 (.len false 172 13),
vo 15 (.bin false .lss 3 12 14)])
(.cond 15
.skip
(.exit 0)))
(.seq
(.block 1
(.r [0, 3, 4] [
mv 18 3,
mv 19 0,
mv 20 4,
vo 21 (.ia 172 2 1 19 20),
ld 22 2 21,
vo 23 (.mm true 18 22),
sg 3 23]))
(.r [0, 3, 4] [
mv 16 4,
vo 17 (.bin false .add 3 16 (k64 1)),
sg 4 17])))
def l152_0 : VC := .loop b152_0
def v152 : VFun := {
code :=
(.seq
(.r [0] [
vo 2 (.asg (k64 0))])
(.seq
(.seq
(.r [0, 7] [
mv 5 0,
vo 6 (.len false 172 5),
vo 7 (.bin false .lss 3 6 (k64 1))])
(.cond 7
.any
.skip))
(.seq
(.r [0, 3] [
mv 9 0,
vo 10 (.ia 172 2 1 9 (k64 0)),
ld 11 2 10,
sg 3 11])
(.seq
(.seq
(.r [0, 3, 4] [
vo 4 (.asg (k64 1))])
(.block 0
l152_0))
(.seq
(.r [2] [
mv 24 3,
sg 2 24])
.ret)))))
modes := [.lend]
rets := [⟨2, none⟩] }

def b154_0 : VC :=
(.seq
(.seq
(.r [0, 3, 7] [
mv 4 3,
mv 5 0,
vo 6 (.len true 9 5),
vo 7 (.bin false .lss 3 4 6)])
(.cond 7
.skip
(.exit 0)))
(.seq
(.block 1
(.seq
(.r [0, 3, 14] [
mv 10 0,
mv 11 3,
vo 12 (.idx 9 10 11),
vo 13 (.call 171 [12]),
vo 14 (.un .not 13)])
(.cond 14
(.seq
(.r [2] [
vo 2 (.asg (.c (.bool false)))])
.ret)
.skip)))
(.r [0, 3] [
mv 8 3,
vo 9 (.bin false .add 3 8 (k64 1)),
sg 3 9])))
def l154_0 : VC := .loop b154_0
def v154 : VFun := {
code :=
(.seq
(.r [0] [
vo 2 (.asg (.c (.bool false)))])
(.seq
(.seq
(.r [0, 3] [
vo 3 (.asg (k64 0))])
(.block 0
l154_0))
(.seq
(.r [2] [
mv 15 0,
vo 16 (.len true 9 15),
vo 17 (.bin false .leq 3 16 (k64 12)),
sg 2 17])
.ret)))
modes := [.lend]
rets := [⟨2, none⟩] }

def v155 : VFun := {
code :=
(.seq
(.r [0] [
vo 2 (.asg (.c (.bool false)))])
(.seq
(.r [2] [
mv 3 0,
vo 4 (.len true 9 3),
vo 5 (.bin false .leq 3 4 (k64 12)),
mv 6 5,
⟨some 7, .mov 0, some (6, true), []⟩,
⟨some 8, .call 172 [7, (.c (.string (⟨#[97, 98, 99, 100, 101, 102, 103, 104, 105, 106, 107, 108, 109, 110, 111, 112, 113, 114, 115, 116, 117, 118, 119, 120, 121, 122, 65, 66, 67, 68, 69, 70, 71, 72, 73, 74, 75, 76, 77, 78, 79, 80, 81, 82, 83, 84, 85, 86, 87, 88, 89, 90, 48, 49, 50, 51, 52, 53, 54, 55, 56, 57]⟩ : ByteArray)))], some (6, true), []⟩,
⟨some 9, .bin false .eql 9 8 (.c (.string (⟨#[]⟩ : ByteArray))), some (6, true), []⟩,
vo 10 (.pick 6 9 (.c (.bool false))),
sg 2 10])
.ret))
modes := [.lend]
rets := [⟨2, none⟩] }

def v170 : VFun := {
code :=
(.seq
(.r [0] [
vo 2 (.asg (.n 2))])
(.seq
(.r [2, 5] [
vo 3 (.lit 28 46 2 0 [(.val (.string (⟨#[]⟩ : ByteArray))), z64] []),
mv 4 0,
vo 5 (.app 28 46 2 24 3 4),
sg 2 5])
.ret))
modes := [.lend]
rets := [⟨2, none⟩] }

def v171 : VFun := {
code :=
(.seq
(.r [0] [
vo 2 (.asg (.c (.bool false)))])
(.seq
(.r [2] [
mv 3 0,
vo 4 (.bin false .geq 5 3 (.c (.int .u8 97))),
mv 5 4,
⟨some 6, .mov 0, some (5, true), []⟩,
⟨some 7, .bin false .leq 5 6 (.c (.int .u8 122)), some (5, true), []⟩,
vo 8 (.pick 5 7 (.c (.bool false))),
mv 9 8,
⟨some 10, .mov 0, some (9, false), []⟩,
⟨some 11, .bin false .geq 5 10 (.c (.int .u8 65)), some (9, false), []⟩,
⟨some 12, .mov 11, some (9, false), []⟩,
⟨some 13, .mov 0, some (12, true), []⟩,
⟨some 14, .bin false .leq 5 13 (.c (.int .u8 90)), some (12, true), []⟩,
⟨some 15, .pick 12 14 (.c (.bool false)), some (9, false), []⟩,
vo 16 (.pick 9 (.c (.bool true)) 15),
mv 17 16,
⟨some 18, .mov 0, some (17, false), []⟩,
⟨some 19, .bin false .geq 5 18 (.c (.int .u8 48)), some (17, false), []⟩,
⟨some 20, .mov 19, some (17, false), []⟩,
⟨some 21, .mov 0, some (20, true), []⟩,
⟨some 22, .bin false .leq 5 21 (.c (.int .u8 57)), some (20, true), []⟩,
⟨some 23, .pick 20 22 (.c (.bool false)), some (17, false), []⟩,
vo 24 (.pick 17 (.c (.bool true)) 23),
sg 2 24])
.ret))
modes := [.lend]
rets := [⟨2, none⟩] }

def tab : List (Nat × VFun) := [(9, v9), (14, v14), (16, v16), (17, v17), (18, v18), (22, v22), (24, v24), (26, v26), (27, v27), (28, v28), (29, v29), (36, v36), (37, v37), (46, v46), (66, v66), (67, v67), (68, v68), (69, v69), (70, v70), (71, v71), (72, v72), (73, v73), (74, v74), (75, v75), (76, v76), (77, v77), (78, v78), (79, v79), (81, v81), (83, v83), (85, v85), (86, v86), (87, v87), (90, v90), (93, v93), (94, v94), (98, v98), (99, v99), (100, v100), (101, v101), (107, v107), (108, v108), (109, v109), (110, v110), (112, v112), (113, v113), (115, v115), (116, v116), (130, v130), (131, v131), (132, v132), (133, v133), (134, v134), (135, v135), (136, v136), (137, v137), (138, v138), (139, v139), (140, v140), (141, v141), (142, v142), (143, v143), (144, v144), (145, v145), (146, v146), (147, v147), (148, v148), (150, v150), (151, v151), (152, v152), (154, v154), (155, v155), (170, v170), (171, v171)]
def F (f : FuncId) : Option VFun := getA none (tab.map fun x => (x.1, some x.2)) f
theorem tab_ok : tab.all (fun x => matchFun Tryd.prog x.1 x.2) = true := by kernel_rfl
theorem F_mem {f : FuncId} {fn : VFun} : ∀ {l : List (Nat × VFun)}, getA none (l.map fun x => (x.1, some x.2)) f = some fn → (f, fn) ∈ l
  | [], h => by simp [getA] at h
  | (k, v) :: l, h => by
    simp only [List.map_cons, getA] at h
    split at h
    · rename_i e
      injection h with h
      subst e; subst h
      exact List.mem_cons_self ..
    · exact List.mem_cons_of_mem _ (F_mem h)
theorem F_ok (f : FuncId) (fn : VFun) (h : F f = some fn) : matchFun Tryd.prog f fn = true := List.all_eq_true.1 tab_ok _ (F_mem h)
end Go.Proofs.YtfmkbpiobddhdaaDoor.FoundReward
