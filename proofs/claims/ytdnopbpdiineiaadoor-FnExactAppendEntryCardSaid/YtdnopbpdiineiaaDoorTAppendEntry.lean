/- V's text of the functions that this law reaches. -/
import Derived.Test.YtdnopbpdiineiaaDoorVCode
import Derived.Test.YtdnopbpdiineiaaDoorRows
import Derived.KernelRfl
namespace Go.Proofs.YtdnopbpdiineiaaDoor.AppendEntry
open Go Go.Proofs.YtdnopbpdiineiaaDoor.V
set_option maxRecDepth 20000
def vo (d : Nat) (x : VOp) : VO := ⟨some d, x, none, []⟩
def vn (x : VOp) : VO := ⟨none, x, none, []⟩
instance (n : Nat) : OfNat VX n := ⟨.t n⟩
def k64 (n : Int) : VX := .c (.int .i64 n)
def z64 : CV := .val (.int .i64 0)
def _root_.Go.Proofs.YtdnopbpdiineiaaDoor.V.VC.r (k : List Nat) (o : List VO) : VC := .region false k o
def mv (d : Nat) (x : VX) : VO := vo d (.mov x)
def ld (d t : Nat) (x : VX) : VO := vo d (.load t false 1 x)
def sg (d : Nat) (x : VX) : VO := vo d (.asg x)

def v4 : VFun := {
code :=
(.seq
(.r [2, 3] [
vo 2 (.box 35 0),
vo 3 (.box 23 1),
vo 4 (.asg (.c (.bool false)))])
(.seq
(.r [2, 3, 5] [
vo 5 (.asg (k64 1048576))])
(.seq
(.r [2, 3, 5] [
vo 13 (.load 35 true 2 2),
mv 14 5,
vo 15 (.call 18 [13, 14]),
sg 5 15])
(.seq
(.seq
(.r [2, 3, 5, 17] [
mv 16 5,
vo 17 (.bin false .lss 3 16 (k64 0))])
(.cond 17
(.seq
(.r [4] [
vo 4 (.asg (.c (.bool true)))])
.ret)
.skip))
(.seq
(.r [2, 3, 5] [
vo 18 (.load 23 true 4 3),
mv 19 5,
vo 20 (.call 11 [18, 19]),
sg 5 20])
(.seq
(.seq
(.r [2, 3, 22] [
mv 21 5,
vo 22 (.bin false .lss 3 21 (k64 0))])
(.cond 22
(.seq
(.r [4] [
vo 4 (.asg (.c (.bool true)))])
.ret)
.skip))
(.seq
(.region true [2, 3, 6] [
vo 23 (.load 35 true 2 2),
vo 24 (.call 20 [23]),
⟨some 25, .load 23 true 4 3, none, [0, 1]⟩,
vo 26 (.call 13 [25]),
vo 27 (.call 19 [24, 26]),
⟨some 6, .alloc 39 [z64, (.nl 1), z64], none, [0, 1, 2, 3, 4]⟩,
vn (.store 39 3 6 27)])
(.seq
(.r [2, 3, 6, 7] [
vo 28 (.load 35 true 2 2),
vo 29 (.call 20 [28]),
vo 7 (.alloc 37 [(.nl 1), z64]),
vn (.store 37 2 7 29)])
(.seq
(.region true [2, 3, 6, 7, 8] [
vo 30 (.load 37 true 2 7),
⟨some 31, .load 23 true 4 3, none, [0]⟩,
⟨some 32, .call 13 [31], none, [0]⟩,
vo 33 (.call 21 [30, 32]),
⟨some 8, .alloc 39 [z64, (.nl 1), z64], none, [0, 1, 2, 3]⟩,
vn (.store 39 3 8 33)])
(.seq
(.seq
(.r [2, 3, 6, 7, 8, 37] [
vo 34 (.load 39 true 3 8),
vo 35 (.load 39 true 3 6),
vo 36 (.call 22 [34, 35]),
vo 37 (.un .not 36)])
(.cond 37
(.seq
(.r [4] [
vo 4 (.asg (.c (.bool false)))])
.ret)
.skip))
(.seq
(.seq
(.region true [2, 3, 6, 7, 8, 42] [
vo 38 (.load 37 true 2 7),
⟨some 39, .load 35 true 2 2, none, [0]⟩,
⟨some 40, .call 20 [39], none, [0]⟩,
vo 41 (.call 23 [38, 40]),
vo 42 (.un .not 41)])
(.cond 42
(.seq
(.r [4] [
vo 4 (.asg (.c (.bool false)))])
.ret)
.skip))
(.seq
(.r [2, 3, 6, 7, 8, 9] [
vo 9 (.asg (k64 1))])
(.seq
(.r [2, 3, 6, 8, 9] [
vo 43 (.load 37 true 2 7),
mv 44 9,
vo 45 (.call 24 [43, 44]),
sg 9 45])
(.seq
(.seq
(.r [2, 3, 6, 8, 53] [
mv 46 9,
vo 47 (.bin false .lss 3 46 (k64 0)),
mv 48 47,
⟨some 49, .load 39 true 3 8, some (48, false), []⟩,
⟨some 50, .load 39 true 3 6, some (48, false), []⟩,
⟨some 51, .call 22 [49, 50], some (48, false), []⟩,
⟨some 52, .un .not 51, some (48, false), []⟩,
vo 53 (.pick 48 (.c (.bool true)) 52)])
(.cond 53
(.seq
(.r [4] [
vo 4 (.asg (.c (.bool false)))])
.ret)
.skip))
(.seq
(.r [2, 3, 6, 8, 10] [
vo 10 (.asg (k64 1))])
(.seq
(.r [2, 3, 6, 8, 10] [
vo 54 (.load 39 true 3 8),
mv 55 10,
vo 56 (.call 25 [54, 55]),
sg 10 56])
(.seq
(.r [2, 3, 6, 8, 10, 11] [
vo 11 (.asg (k64 1))])
(.seq
(.r [2, 3, 6, 8, 10, 11] [
vo 57 (.load 39 true 3 8),
mv 58 11,
vo 59 (.call 26 [57, 58]),
sg 11 59])
(.seq
(.seq
(.r [2, 3, 6, 8, 10, 11, 61] [
mv 60 11,
vo 61 (.bin false .lss 3 60 (k64 0))])
(.cond 61
(.seq
(.r [4] [
vo 4 (.asg (.c (.bool false)))])
.ret)
.skip))
(.seq
(.seq
(.r [2, 3, 6, 8, 10, 64] [
mv 62 11,
mv 63 10,
vo 64 (.bin false .neq 3 62 63)])
(.cond 64
(.seq
(.r [4] [
vo 4 (.asg (.c (.bool false)))])
.ret)
.skip))
(.seq
(.region true [6, 8, 10, 12] [
vo 65 (.load 35 true 2 2),
vo 66 (.call 20 [65]),
⟨some 67, .load 23 true 4 3, none, [0, 1]⟩,
vo 68 (.call 13 [67]),
vo 69 (.call 21 [66, 68]),
⟨some 12, .alloc 39 [z64, (.nl 1), z64], none, [0, 1, 2, 3, 4]⟩,
vn (.store 39 3 12 69)])
(.seq
(.seq
(.r [8, 10, 73] [
vo 70 (.load 39 true 3 12),
vo 71 (.load 39 true 3 6),
vo 72 (.call 22 [70, 71]),
vo 73 (.un .not 72)])
(.cond 73
(.seq
(.r [4] [
vo 4 (.asg (.c (.bool false)))])
.ret)
.skip))
(.seq
(.r [8, 10, 11] [
vo 11 (.asg (k64 1))])
(.seq
(.r [10, 11] [
vo 74 (.load 39 true 3 8),
mv 75 11,
vo 76 (.call 26 [74, 75]),
sg 11 76])
(.seq
(.seq
(.r [10, 11, 78] [
mv 77 11,
vo 78 (.bin false .lss 3 77 (k64 0))])
(.cond 78
(.seq
(.r [4] [
vo 4 (.asg (.c (.bool false)))])
.ret)
.skip))
(.seq
(.seq
(.r [81] [
mv 79 11,
mv 80 10,
vo 81 (.bin false .neq 3 79 80)])
(.cond 81
(.seq
(.r [4] [
vo 4 (.asg (.c (.bool false)))])
.ret)
.skip))
(.seq
(.r [4] [
vo 4 (.asg (.c (.bool true)))])
.ret)))))))))))))))))))))))))))
modes := [.lend, .lend]
rets := [⟨4, none⟩] }

def v11 : VFun := {
code :=
(.seq
(.r [1, 2] [
vo 2 (.box 23 0),
vo 4 (.asg (k64 0))])
(.seq
(.r [1] [
mv 5 1,
vo 6 (.fa 23 1 1 1 2),
ld 7 9 6,
vo 8 (.len true 9 7),
vo 9 (.bin false .sub 3 5 8),
sg 1 9])
(.seq
(.seq
(.r [1, 11] [
mv 10 1,
vo 11 (.bin false .lss 3 10 (k64 0))])
(.cond 11
(.seq
(.r [4] [
vo 4 (.asg (k64 (-1)))])
.ret)
.skip))
(.seq
(.r [4] [
mv 12 1,
sg 4 12])
.ret))))
modes := [.lend, .lend]
rets := [⟨4, none⟩] }

def v13 : VFun := {
code :=
(.seq
(.r [1, 2] [
vo 1 (.box 23 0),
vo 2 (.alloc 29 [z64, (.val (.string (⟨#[]⟩ : ByteArray))), z64, z64])])
(.seq
(.r [1, 2, 3] [
vo 3 (.alloc 29 [z64, (.val (.string (⟨#[]⟩ : ByteArray))), z64, z64])])
(.seq
(.r [1, 2, 3] [
vo 4 (.fa 23 0 0 1 1),
ld 5 2 4,
vo 6 (.fa 29 0 0 1 3),
vn (.store 2 1 6 5)])
(.seq
(.r [1, 2, 3] [
vo 7 (.fa 23 1 1 1 1),
ld 8 9 7,
vo 9 (.fa 29 1 1 1 3),
vn (.store 9 1 9 8)])
(.seq
(.r [1, 2, 3] [
vo 10 (.fa 23 2 2 1 1),
ld 11 2 10,
vo 12 (.fa 29 2 2 1 3),
vn (.store 2 1 12 11)])
(.seq
(.r [2, 3] [
vo 13 (.fa 23 3 3 1 1),
ld 14 2 13,
vo 15 (.fa 29 3 3 1 3),
vn (.store 2 1 15 14)])
(.seq
(.r [2] [
vo 16 (.load 29 true 4 3),
vn (.store 29 4 2 16)])
.ret)))))))
modes := [.lend]
rets := [⟨2, some (true, 4)⟩] }

def v14 : VFun := {
code :=
(.seq
(.r [1, 2] [
vo 1 (.box 29 0),
vo 2 (.alloc 27 [z64, (.nl 1)])])
(.seq
(.seq
(.r [1, 2, 3] [
vo 4 (.load 29 true 4 1),
vo 5 (.call 64 [4]),
sg 3 5])
(.seq
(.r [1, 2, 3, 7] [
mv 6 3,
vo 7 (.bin false .neq 2 6 (k64 0))])
(.cond 7
(.seq
(.r [2] [
mv 8 3,
vo 9 (.build 27 [z64, (.nl 1)] [(0, 0, 1, 8)]),
vn (.store 27 2 2 9)])
.ret)
.skip)))
(.seq
(.r [2] [
vo 10 (.load 29 true 4 1),
vo 11 (.call 65 [10]),
vo 12 (.build 27 [z64, (.nl 1)] [(0, 0, 1, (k64 0)), (1, 1, 1, 11)]),
vn (.store 27 2 2 12)])
.ret)))
modes := [.lend]
rets := [⟨2, some (true, 2)⟩] }

def v18 : VFun := {
code :=
(.seq
(.r [1, 2] [
vo 2 (.box 35 0),
vo 4 (.asg (k64 0))])
(.seq
(.r [1] [
vo 5 (.fa 35 0 0 1 2),
ld 6 25 5,
mv 7 1,
vo 8 (.call 67 [6, 7]),
sg 1 8])
(.seq
(.seq
(.r [1, 10] [
mv 9 1,
vo 10 (.bin false .lss 3 9 (k64 0))])
(.cond 10
(.seq
(.r [4] [
vo 4 (.asg (k64 (-1)))])
.ret)
.skip))
(.seq
(.r [4] [
mv 11 1,
sg 4 11])
.ret))))
modes := [.lend, .lend]
rets := [⟨4, none⟩] }

def v19 : VFun := {
code :=
(.seq
(.r [2, 3, 4] [
vo 2 (.box 37 0),
vo 3 (.box 29 1),
vo 4 (.alloc 39 [z64, (.nl 1), z64])])
(.seq
(.seq
(.r [2, 3, 4, 5] [
vo 9 (.call 68 [2]),
sg 5 9])
(.seq
(.r [2, 3, 4, 5, 11] [
mv 10 5,
vo 11 (.bin false .neq 2 10 (k64 0))])
(.cond 11
(.seq
(.r [4] [
mv 12 5,
vo 13 (.build 39 [z64, (.nl 1), z64] [(0, 0, 1, 12)]),
vn (.store 39 3 4 13)])
.ret)
.skip)))
(.seq
(.seq
(.r [2, 3, 4, 6] [
vo 14 (.call 62 [3]),
sg 6 14])
(.seq
(.r [2, 3, 4, 6, 16] [
mv 15 6,
vo 16 (.bin false .neq 2 15 (k64 0))])
(.cond 16
(.seq
(.r [4] [
mv 17 6,
vo 18 (.build 39 [z64, (.nl 1), z64] [(0, 0, 1, 17)]),
vn (.store 39 3 4 18)])
.ret)
.skip)))
(.seq
(.r [4, 7, 8] [
vo 20 (.load 37 true 2 2),
vo 21 (.call 69 [20, 3]),
mv 19 21,
vo 22 (.ext 19 0),
vo 23 (.ext 19 1),
vo 7 (.alloc 37 [(.nl 1), z64]),
vn (.store 37 2 7 22),
sg 8 23])
(.seq
(.seq
(.r [4, 7, 25] [
mv 24 8,
vo 25 (.un .not 24)])
(.cond 25
(.seq
(.r [4] [
vo 26 (.build 39 [z64, (.nl 1), z64] [(0, 0, 1, (k64 10))]),
vn (.store 39 3 4 26)])
.ret)
.skip))
(.seq
(.r [4] [
vo 27 (.load 37 true 2 7),
vo 28 (.build 39 [z64, (.nl 1), z64] [(1, 1, 2, 27)]),
vn (.store 39 3 4 28)])
.ret))))))
modes := [.lend, .lend]
rets := [⟨4, some (true, 3)⟩] }

def v20 : VFun := {
code :=
(.seq
(.r [1, 2] [
vo 1 (.box 35 0),
vo 2 (.alloc 37 [(.nl 1), z64])])
(.seq
(.r [1, 2, 3] [
vo 3 (.alloc 37 [(.nl 1), z64])])
(.seq
(.r [1, 2, 3] [
vo 4 (.fa 35 0 0 1 1),
ld 5 25 4,
vo 6 (.call 37 [5]),
vo 7 (.fa 37 0 0 1 3),
vn (.store 25 1 7 6)])
(.seq
(.r [2, 3] [
vo 8 (.fa 35 1 1 1 1),
ld 9 2 8,
vo 10 (.fa 37 1 1 1 3),
vn (.store 2 1 10 9)])
(.seq
(.r [2] [
vo 11 (.load 37 true 2 3),
vn (.store 37 2 2 11)])
.ret)))))
modes := [.lend]
rets := [⟨2, some (true, 2)⟩] }

def v21 : VFun := {
code :=
(.seq
(.r [2, 3, 4] [
vo 2 (.box 37 0),
vo 3 (.box 29 1),
vo 4 (.alloc 39 [z64, (.nl 1), z64])])
(.seq
(.seq
(.r [2, 3, 4, 5] [
vo 7 (.load 37 true 2 2),
vo 8 (.call 70 [7]),
sg 5 8])
(.seq
(.r [2, 3, 4, 5, 10] [
mv 9 5,
vo 10 (.bin false .neq 2 9 (k64 0))])
(.cond 10
(.seq
(.r [4] [
mv 11 5,
vo 12 (.build 39 [z64, (.nl 1), z64] [(0, 0, 1, 11)]),
vn (.store 39 3 4 12)])
.ret)
.skip)))
(.seq
(.r [2, 4, 6] [
vo 13 (.load 29 true 4 3),
vo 14 (.call 14 [13]),
vo 6 (.alloc 27 [z64, (.nl 1)]),
vn (.store 27 2 6 14)])
(.seq
(.block 0
(.seq
(.r [2, 4, 6, 15] [
vo 16 (.fa 27 0 0 1 6),
ld 17 2 16,
vo 18 (.bin false .neq 2 17 (k64 0)),
sg 15 18])
(.cond 15
(.seq
(.r [4] [
vo 19 (.fa 27 0 0 1 6),
ld 20 2 19,
vo 21 (.build 39 [z64, (.nl 1), z64] [(0, 0, 1, 20)]),
vn (.store 39 3 4 21)])
.ret)
(.seq
(.r [2, 4, 6, 22] [
vo 23 (.fa 37 0 0 1 2),
ld 24 25 23,
vo 25 (.len false 25 24),
vo 26 (.fa 27 1 1 1 6),
ld 27 25 26,
vo 28 (.len false 25 27),
vo 29 (.bin false .add 3 25 28),
vo 30 (.bin false .gtr 3 29 (k64 1200)),
sg 22 30])
(.cond 22
(.seq
(.r [4] [
vo 31 (.build 39 [z64, (.nl 1), z64] [(0, 0, 1, (k64 10))]),
vn (.store 39 3 4 31)])
.ret)
.skip)))))
(.seq
(.region true [4] [
vo 32 (.fa 37 0 0 1 2),
ld 33 25 32,
⟨some 34, .fa 27 1 1 1 6, none, [0, 1]⟩,
⟨some 35, .load 25 false 1 34, none, [0, 1]⟩,
vo 36 (.lit 151 25 1 2 [(.nl 1)] [(0, 33), (1, 35)]),
vo 37 (.call 71 [36]),
⟨some 38, .fa 37 1 1 1 2, none, [0, 1, 2, 3, 4, 5]⟩,
⟨some 39, .load 2 false 1 38, none, [0, 1, 2, 3, 4, 5]⟩,
vo 40 (.build 37 [(.nl 1), z64] [(0, 0, 1, 37), (1, 1, 1, 39)]),
vo 41 (.build 39 [z64, (.nl 1), z64] [(0, 0, 1, (k64 0)), (1, 1, 2, 40)]),
vn (.store 39 3 4 41)])
.ret)))))
modes := [.lend, .lend]
rets := [⟨4, some (true, 3)⟩] }

def v22 : VFun := {
code :=
(.seq
(.r [2, 3] [
vo 2 (.box 39 0),
vo 3 (.box 39 1),
vo 4 (.asg (.c (.bool false)))])
(.seq
(.seq
(.r [2, 3, 9] [
vo 5 (.fa 39 0 0 1 2),
ld 6 2 5,
vo 7 (.fa 39 0 0 1 3),
ld 8 2 7,
vo 9 (.bin false .neq 2 6 8)])
(.cond 9
(.seq
(.r [4] [
vo 4 (.asg (.c (.bool false)))])
.ret)
.skip))
(.seq
(.seq
(.r [15] [
vo 10 (.fa 39 1 1 2 2),
vo 11 (.load 37 true 2 10),
vo 12 (.fa 39 1 1 2 3),
vo 13 (.load 37 true 2 12),
vo 14 (.call 23 [11, 13]),
vo 15 (.un .not 14)])
(.cond 15
(.seq
(.r [4] [
vo 4 (.asg (.c (.bool false)))])
.ret)
.skip))
(.seq
(.r [4] [
vo 4 (.asg (.c (.bool true)))])
.ret))))
modes := [.lend, .lend]
rets := [⟨4, none⟩] }

def v23 : VFun := {
code :=
(.seq
(.r [2, 3] [
vo 2 (.box 37 0),
vo 3 (.box 37 1),
vo 4 (.asg (.c (.bool false)))])
(.seq
(.seq
(.r [2, 3, 10] [
vo 5 (.fa 37 0 0 1 2),
ld 6 25 5,
vo 7 (.fa 37 0 0 1 3),
ld 8 25 7,
vo 9 (.call 40 [6, 8]),
vo 10 (.un .not 9)])
(.cond 10
(.seq
(.r [4] [
vo 4 (.asg (.c (.bool false)))])
.ret)
.skip))
(.seq
(.seq
(.r [15] [
vo 11 (.fa 37 1 1 1 2),
ld 12 2 11,
vo 13 (.fa 37 1 1 1 3),
ld 14 2 13,
vo 15 (.bin false .neq 2 12 14)])
(.cond 15
(.seq
(.r [4] [
vo 4 (.asg (.c (.bool false)))])
.ret)
.skip))
(.seq
(.r [4] [
vo 4 (.asg (.c (.bool true)))])
.ret))))
modes := [.lend, .lend]
rets := [⟨4, none⟩] }

def v24 : VFun := {
code :=
(.seq
(.r [0, 1, 2] [
vo 2 (.box 37 0),
vo 4 (.asg (k64 0))])
(.seq
(.r [0, 1, 2] [
vo 5 (.fa 37 0 0 1 2),
ld 6 25 5,
mv 7 1,
vo 8 (.call 41 [6, 7]),
sg 1 8])
(.seq
(.r [0, 2, 4] [
mv 9 1,
sg 4 9])
.ret)))
modes := [.io, .lend]
rets := [⟨4, none⟩] }

def v25 : VFun := {
code :=
(.seq
(.r [0, 1, 2] [
vo 2 (.box 39 0),
vo 4 (.asg (k64 0))])
(.seq
(.r [0, 1, 2] [
vo 5 (.fa 39 1 1 2 2),
vo 6 (.load 37 true 2 5),
mv 7 1,
vo 8 (.call 24 [6, 7]),
sg 1 8])
(.seq
(.r [0, 2, 4] [
mv 9 1,
sg 4 9])
.ret)))
modes := [.io, .lend]
rets := [⟨4, none⟩] }

def v26 : VFun := {
code :=
(.seq
(.r [1, 2] [
vo 2 (.box 39 0),
vo 4 (.asg (k64 0))])
(.seq
(.r [1] [
vo 5 (.fa 39 1 1 2 2),
vo 6 (.load 37 true 2 5),
mv 7 1,
vo 8 (.call 72 [6, 7]),
sg 1 8])
(.seq
(.seq
(.r [1, 10] [
mv 9 1,
vo 10 (.bin false .lss 3 9 (k64 0))])
(.cond 10
(.seq
(.r [4] [
vo 4 (.asg (k64 (-1)))])
.ret)
.skip))
(.seq
(.r [4] [
mv 11 1,
sg 4 11])
.ret))))
modes := [.lend, .lend]
rets := [⟨4, none⟩] }

def b37_0 : VC :=
(.seq
(.seq
(.r [0, 3, 4, 7, 11] [
mv 8 4,
mv 9 0,
vo 10 (.len false 25 9),
vo 11 (.bin false .lss 3 8 10)])
(.cond 11
.skip
(.exit 0)))
(.seq
(.block 1
(.r [0, 3, 4, 7] [
mv 14 3,
mv 15 4,
mv 16 0,
mv 17 4,
vo 18 (.ia 25 5 1 16 17),
ld 19 5 18,
vo 20 (.ia 25 5 1 14 15),
vn (.store 5 1 20 19)]))
(.r [0, 3, 4, 7] [
mv 12 4,
vo 13 (.bin false .add 3 12 (k64 1)),
sg 4 13])))
def l37_0 : VC := .loop b37_0
def v37 : VFun := {
code :=
(.seq
(.r [0] [
vo 2 (.asg (.n 1))])
(.seq
(.r [0, 3, 7] [
mv 5 0,
vo 6 (.len false 25 5),
vo 7 (.mk 25 5 1 1 [(.val (.int .u8 0))] 6 6),
sg 3 7])
(.seq
(.seq
(.r [0, 3, 4, 7] [
vo 4 (.asg (k64 0))])
(.block 0
l37_0))
(.seq
(.r [2, 3, 7] [
mv 21 3,
sg 2 21])
.ret))))
modes := [.lend]
rets := [⟨2, none⟩] }

def b40_0 : VC :=
(.seq
(.seq
(.r [0, 1, 5, 14] [
mv 11 5,
mv 12 0,
vo 13 (.len false 25 12),
vo 14 (.bin false .lss 3 11 13)])
(.cond 14
.skip
(.exit 0)))
(.seq
(.block 1
(.seq
(.region true [0, 1, 5, 25] [
mv 17 0,
⟨some 18, .mov 5, none, [0]⟩,
vo 19 (.ia 25 5 1 17 18),
ld 20 5 19,
⟨some 21, .mov 1, none, [0, 1, 2, 3]⟩,
⟨some 22, .mov 5, none, [0, 1, 2, 3, 4]⟩,
⟨some 23, .ia 25 5 1 21 22, none, [0, 1, 2, 3]⟩,
⟨some 24, .load 5 false 1 23, none, [0, 1, 2, 3]⟩,
vo 25 (.bin false .neq 5 20 24)])
(.cond 25
(.seq
(.r [4] [
vo 4 (.asg (.c (.bool false)))])
.ret)
.skip)))
(.r [0, 1, 5] [
mv 15 5,
vo 16 (.bin false .add 3 15 (k64 1)),
sg 5 16])))
def l40_0 : VC := .loop b40_0
def v40 : VFun := {
code :=
(.seq
(.r [0, 1] [
vo 4 (.asg (.c (.bool false)))])
(.seq
(.seq
(.r [0, 1, 10] [
mv 6 0,
vo 7 (.len false 25 6),
mv 8 1,
vo 9 (.len false 25 8),
vo 10 (.bin false .neq 3 7 9)])
(.cond 10
(.seq
(.r [4] [
vo 4 (.asg (.c (.bool false)))])
.ret)
.skip))
(.seq
(.seq
(.r [0, 1, 5] [
vo 5 (.asg (k64 0))])
(.block 0
l40_0))
(.seq
(.r [4] [
vo 4 (.asg (.c (.bool true)))])
.ret))))
modes := [.lend, .lend]
rets := [⟨4, none⟩] }

def b41_0 : VC :=
(.seq
(.seq
(.r [0, 1, 5, 9] [
mv 6 5,
mv 7 0,
vo 8 (.len false 25 7),
vo 9 (.bin false .lss 3 6 8)])
(.cond 9
.skip
(.exit 0)))
(.seq
(.block 1
(.seq
(.r [0, 1, 5] [
mv 12 0,
mv 13 5,
mv 14 1,
vo 15 (.conv 3 5 .u8 14),
vo 16 (.ia 25 5 1 12 13),
vn (.store 5 1 16 15)])
(.r [0, 1, 5] [
mv 17 1,
vo 18 (.bin false .add 3 17 (k64 1)),
sg 1 18])))
(.r [0, 1, 5] [
mv 10 5,
vo 11 (.bin false .add 3 10 (k64 1)),
sg 5 11])))
def l41_0 : VC := .loop b41_0
def v41 : VFun := {
code :=
(.seq
(.r [0, 1] [
vo 4 (.asg (k64 0))])
(.seq
(.seq
(.r [0, 1, 5] [
vo 5 (.asg (k64 0))])
(.block 0
l41_0))
(.seq
(.r [0, 4] [
mv 19 1,
sg 4 19])
.ret)))
modes := [.io, .lend]
rets := [⟨4, none⟩] }

def v62 : VFun := {
code :=
(.seq
(.r [0] [
vo 2 (.asg (k64 0))])
(.seq
(.r [0, 3, 4, 5] [
mv 7 0,
vo 8 (.nilc 7),
vo 9 (.fa 29 0 0 1 8),
ld 10 2 9,
vo 11 (.call 112 [10]),
mv 6 11,
vo 12 (.ext 6 0),
vo 13 (.ext 6 1),
vo 14 (.ext 6 2),
sg 3 12,
sg 4 13,
sg 5 14])
(.seq
(.seq
(.r [0, 3, 53] [
mv 15 0,
vo 16 (.nilc 15),
vo 17 (.fa 29 0 0 1 16),
ld 18 2 17,
vo 19 (.call 113 [18, (k64 1), (k64 5)]),
vo 20 (.un .not 19),
mv 21 20,
⟨some 22, .mov 3, some (21, false), []⟩,
⟨some 23, .un .not 22, some (21, false), []⟩,
⟨some 24, .mov 23, some (21, false), []⟩,
⟨some 25, .mov 0, some (24, true), []⟩,
⟨some 26, .nilc 25, some (24, true), []⟩,
⟨some 27, .fa 29 1 1 1 26, some (24, true), []⟩,
⟨some 28, .load 9 false 1 27, some (24, true), []⟩,
⟨some 29, .bin false .neq 9 28 (.c (.string (⟨#[]⟩ : ByteArray))), some (24, true), []⟩,
⟨some 30, .pick 24 29 (.c (.bool false)), some (21, false), []⟩,
vo 31 (.pick 21 (.c (.bool true)) 30),
mv 32 31,
⟨some 33, .mov 4, some (32, false), []⟩,
⟨some 34, .un .not 33, some (32, false), []⟩,
⟨some 35, .mov 34, some (32, false), []⟩,
⟨some 36, .mov 0, some (35, true), []⟩,
⟨some 37, .nilc 36, some (35, true), []⟩,
⟨some 38, .fa 29 2 2 1 37, some (35, true), []⟩,
⟨some 39, .load 2 false 1 38, some (35, true), []⟩,
⟨some 40, .bin false .neq 2 39 (k64 0), some (35, true), []⟩,
⟨some 41, .pick 35 40 (.c (.bool false)), some (32, false), []⟩,
vo 42 (.pick 32 (.c (.bool true)) 41),
mv 43 42,
⟨some 44, .mov 5, some (43, false), []⟩,
⟨some 45, .un .not 44, some (43, false), []⟩,
⟨some 46, .mov 45, some (43, false), []⟩,
⟨some 47, .mov 0, some (46, true), []⟩,
⟨some 48, .nilc 47, some (46, true), []⟩,
⟨some 49, .fa 29 3 3 1 48, some (46, true), []⟩,
⟨some 50, .load 2 false 1 49, some (46, true), []⟩,
⟨some 51, .bin false .neq 2 50 (k64 0), some (46, true), []⟩,
⟨some 52, .pick 46 51 (.c (.bool false)), some (43, false), []⟩,
vo 53 (.pick 43 (.c (.bool true)) 52)])
(.cond 53
(.seq
(.r [2] [
vo 2 (.asg (k64 1))])
.ret)
.skip))
(.seq
(.seq
(.r [0, 3, 69] [
mv 54 3,
mv 55 54,
⟨some 56, .mov 0, some (55, true), []⟩,
⟨some 57, .nilc 56, some (55, true), []⟩,
⟨some 58, .fa 29 1 1 1 57, some (55, true), []⟩,
⟨some 59, .load 9 false 1 58, some (55, true), []⟩,
⟨some 60, .bin false .eql 9 59 (.c (.string (⟨#[]⟩ : ByteArray))), some (55, true), []⟩,
⟨some 61, .mov 60, some (55, true), []⟩,
⟨some 62, .mov 0, some (61, false), []⟩,
⟨some 63, .nilc 62, some (61, false), []⟩,
⟨some 64, .fa 29 1 1 1 63, some (61, false), []⟩,
⟨some 65, .load 9 false 1 64, some (61, false), []⟩,
⟨some 66, .call 114 [65], some (61, false), []⟩,
⟨some 67, .un .not 66, some (61, false), []⟩,
⟨some 68, .pick 61 (.c (.bool true)) 67, some (55, true), []⟩,
vo 69 (.pick 55 68 (.c (.bool false)))])
(.cond 69
(.seq
(.r [2] [
vo 2 (.asg (k64 5))])
.ret)
.skip))
(.seq
(.seq
(.r [107] [
mv 70 0,
vo 71 (.nilc 70),
vo 72 (.fa 29 2 2 1 71),
ld 73 2 72,
vo 74 (.call 115 [73]),
vo 75 (.un .not 74),
mv 76 75,
⟨some 77, .mov 0, some (76, false), []⟩,
⟨some 78, .nilc 77, some (76, false), []⟩,
⟨some 79, .fa 29 3 3 1 78, some (76, false), []⟩,
⟨some 80, .load 2 false 1 79, some (76, false), []⟩,
⟨some 81, .call 75 [80], some (76, false), []⟩,
⟨some 82, .un .not 81, some (76, false), []⟩,
vo 83 (.pick 76 (.c (.bool true)) 82),
mv 84 83,
⟨some 85, .mov 3, some (84, false), []⟩,
⟨some 86, .mov 85, some (84, false), []⟩,
⟨some 87, .mov 0, some (86, true), []⟩,
⟨some 88, .nilc 87, some (86, true), []⟩,
⟨some 89, .fa 29 3 3 1 88, some (86, true), []⟩,
⟨some 90, .load 2 false 1 89, some (86, true), []⟩,
⟨some 91, .bin false .lss 2 90 (k64 1), some (86, true), []⟩,
⟨some 92, .pick 86 91 (.c (.bool false)), some (84, false), []⟩,
vo 93 (.pick 84 (.c (.bool true)) 92),
mv 94 93,
⟨some 95, .mov 0, some (94, false), []⟩,
⟨some 96, .nilc 95, some (94, false), []⟩,
⟨some 97, .fa 29 0 0 1 96, some (94, false), []⟩,
⟨some 98, .load 2 false 1 97, some (94, false), []⟩,
⟨some 99, .bin false .eql 2 98 (k64 1), some (94, false), []⟩,
⟨some 100, .mov 99, some (94, false), []⟩,
⟨some 101, .mov 0, some (100, true), []⟩,
⟨some 102, .nilc 101, some (100, true), []⟩,
⟨some 103, .fa 29 3 3 1 102, some (100, true), []⟩,
⟨some 104, .load 2 false 1 103, some (100, true), []⟩,
⟨some 105, .bin false .gtr 2 104 (k64 9999), some (100, true), []⟩,
⟨some 106, .pick 100 105 (.c (.bool false)), some (94, false), []⟩,
vo 107 (.pick 94 (.c (.bool true)) 106)])
(.cond 107
(.seq
(.r [2] [
vo 2 (.asg (k64 3))])
.ret)
.skip))
(.seq
(.r [2] [
vo 2 (.asg (k64 0))])
.ret))))))
modes := [.lend]
rets := [⟨2, none⟩] }

def v63 : VFun := {
code :=
(.seq
(.r [0] [
vo 2 (.asg (.n 1))])
(.seq
(.region true [0, 3, 22, 35] [
mv 5 0,
vo 6 (.nilc 5),
vo 7 (.fa 29 0 0 1 6),
ld 8 2 7,
vo 9 (.conv 2 5 .u8 8),
⟨some 10, .mov 0, none, [0, 1, 2, 3, 4]⟩,
⟨some 11, .nilc 10, none, [0, 1, 2, 3, 4]⟩,
⟨some 12, .fa 29 1 1 1 11, none, [0, 1, 2, 3, 4]⟩,
⟨some 13, .load 9 false 1 12, none, [0, 1, 2, 3, 4]⟩,
⟨some 14, .len true 9 13, none, [0, 1, 2, 3, 4]⟩,
⟨some 15, .conv 3 5 .u8 14, none, [0, 1, 2, 3, 4]⟩,
vo 16 (.lit 25 5 1 2 [(.val (.int .u8 0))] [(0, 9), (1, 15)]),
⟨some 17, .mov 0, none, [0, 1, 2, 3, 4, 5, 6, 7, 8, 9, 10, 11]⟩,
⟨some 18, .nilc 17, none, [0, 1, 2, 3, 4, 5, 6, 7, 8, 9, 10, 11]⟩,
⟨some 19, .fa 29 1 1 1 18, none, [0, 1, 2, 3, 4, 5, 6, 7, 8, 9, 10, 11]⟩,
⟨some 20, .load 9 false 1 19, none, [0, 1, 2, 3, 4, 5, 6, 7, 8, 9, 10, 11]⟩,
⟨some 21, .s2b 9 25 20, none, [0, 1, 2, 3, 4, 5, 6, 7, 8, 9, 10, 11]⟩,
vo 22 (.app 25 5 1 1 16 21),
sg 3 22])
(.seq
(.region true [3, 22, 35] [
mv 23 3,
⟨some 24, .mov 0, none, [0]⟩,
⟨some 25, .nilc 24, none, [0]⟩,
⟨some 26, .fa 29 2 2 1 25, none, [0]⟩,
⟨some 27, .load 2 false 1 26, none, [0]⟩,
⟨some 28, .call 116 [27], none, [0]⟩,
vo 29 (.app 25 5 1 1 23 28),
⟨some 30, .mov 0, none, [0, 1, 2, 3, 4, 5, 6]⟩,
⟨some 31, .nilc 30, none, [0, 1, 2, 3, 4, 5, 6]⟩,
⟨some 32, .fa 29 3 3 1 31, none, [0, 1, 2, 3, 4, 5, 6]⟩,
⟨some 33, .load 2 false 1 32, none, [0, 1, 2, 3, 4, 5, 6]⟩,
vo 34 (.call 116 [33]),
vo 35 (.app 25 5 1 1 29 34),
sg 3 35])
(.seq
(.r [3, 4, 22, 35] [
mv 36 3,
vo 37 (.call 117 [36]),
sg 4 37])
(.seq
(.r [2, 50] [
mv 38 3,
vo 39 (.len false 25 38),
vo 40 (.conv 3 5 .u8 39),
vo 41 (.lit 25 5 1 1 [(.val (.int .u8 0))] [(0, 40)]),
mv 42 3,
vo 43 (.app 25 5 1 1 41 42),
mv 44 4,
vo 45 (.bin false .shr 2 44 (.c (.int .u64 8))),
vo 46 (.conv 2 5 .u8 45),
mv 47 4,
vo 48 (.conv 2 5 .u8 47),
vo 49 (.lit 25 5 1 2 [(.val (.int .u8 0))] [(0, 46), (1, 48)]),
vo 50 (.app 25 5 1 1 43 49),
sg 2 50])
.ret)))))
modes := [.lend]
rets := [⟨2, none⟩] }

def v64 : VFun := {
code :=
(.seq
(.r [1] [
vo 1 (.box 29 0),
vo 2 (.asg (k64 0))])
(.seq
(.r [1, 3] [
vo 5 (.fa 29 0 0 1 1),
ld 6 2 5,
vo 7 (.bin false .eql 2 6 (k64 1)),
mv 8 7,
⟨some 9, .fa 29 0 0 1 1, some (8, false), []⟩,
⟨some 10, .load 2 false 1 9, some (8, false), []⟩,
⟨some 11, .bin false .eql 2 10 (k64 5), some (8, false), []⟩,
vo 12 (.pick 8 (.c (.bool true)) 11),
sg 3 12])
(.seq
(.r [1, 3, 4] [
mv 13 3,
mv 14 13,
⟨some 15, .fa 29 0 0 1 1, some (14, false), []⟩,
⟨some 16, .load 2 false 1 15, some (14, false), []⟩,
⟨some 17, .bin false .eql 2 16 (k64 2), some (14, false), []⟩,
vo 18 (.pick 14 (.c (.bool true)) 17),
sg 4 18])
(.seq
(.block 0
(.seq
(.r [1, 3, 19] [
vo 20 (.fa 29 0 0 1 1),
ld 21 2 20,
vo 22 (.call 93 [21, (k64 1), (k64 5)]),
vo 23 (.un .not 22),
mv 24 23,
⟨some 25, .mov 3, some (24, false), []⟩,
⟨some 26, .un .not 25, some (24, false), []⟩,
⟨some 27, .mov 26, some (24, false), []⟩,
⟨some 28, .fa 29 1 1 1 1, some (27, true), []⟩,
⟨some 29, .load 9 false 1 28, some (27, true), []⟩,
⟨some 30, .bin false .neq 9 29 (.c (.string (⟨#[]⟩ : ByteArray))), some (27, true), []⟩,
⟨some 31, .pick 27 30 (.c (.bool false)), some (24, false), []⟩,
vo 32 (.pick 24 (.c (.bool true)) 31),
mv 33 32,
⟨some 34, .mov 3, some (33, false), []⟩,
⟨some 35, .mov 34, some (33, false), []⟩,
⟨some 36, .fa 29 2 2 1 1, some (35, true), []⟩,
⟨some 37, .load 2 false 1 36, some (35, true), []⟩,
⟨some 38, .bin false .neq 2 37 (k64 0), some (35, true), []⟩,
⟨some 39, .pick 35 38 (.c (.bool false)), some (33, false), []⟩,
vo 40 (.pick 33 (.c (.bool true)) 39),
mv 41 40,
⟨some 42, .mov 4, some (41, false), []⟩,
⟨some 43, .un .not 42, some (41, false), []⟩,
⟨some 44, .mov 43, some (41, false), []⟩,
⟨some 45, .fa 29 3 3 1 1, some (44, true), []⟩,
⟨some 46, .load 2 false 1 45, some (44, true), []⟩,
⟨some 47, .bin false .neq 2 46 (k64 0), some (44, true), []⟩,
⟨some 48, .pick 44 47 (.c (.bool false)), some (41, false), []⟩,
vo 49 (.pick 41 (.c (.bool true)) 48),
sg 19 49])
(.cond 19
(.seq
(.r [2] [
vo 2 (.asg (k64 1))])
.ret)
(.seq
(.r [1, 3, 50] [
mv 51 3,
mv 52 51,
⟨some 53, .fa 29 1 1 1 1, some (52, true), []⟩,
⟨some 54, .load 9 false 1 53, some (52, true), []⟩,
⟨some 55, .call 118 [54], some (52, true), []⟩,
⟨some 56, .un .not 55, some (52, true), []⟩,
vo 57 (.pick 52 56 (.c (.bool false))),
sg 50 57])
(.cond 50
(.seq
(.r [2] [
vo 2 (.asg (k64 5))])
.ret)
(.seq
(.r [58] [
vo 59 (.fa 29 2 2 1 1),
ld 60 2 59,
vo 61 (.call 119 [60]),
vo 62 (.un .not 61),
mv 63 62,
⟨some 64, .fa 29 3 3 1 1, some (63, false), []⟩,
⟨some 65, .load 2 false 1 64, some (63, false), []⟩,
⟨some 66, .call 79 [65], some (63, false), []⟩,
⟨some 67, .un .not 66, some (63, false), []⟩,
vo 68 (.pick 63 (.c (.bool true)) 67),
mv 69 68,
⟨some 70, .mov 3, some (69, false), []⟩,
⟨some 71, .mov 70, some (69, false), []⟩,
⟨some 72, .fa 29 3 3 1 1, some (71, true), []⟩,
⟨some 73, .load 2 false 1 72, some (71, true), []⟩,
⟨some 74, .bin false .eql 2 73 (k64 0), some (71, true), []⟩,
⟨some 75, .pick 71 74 (.c (.bool false)), some (69, false), []⟩,
vo 76 (.pick 69 (.c (.bool true)) 75),
mv 77 76,
⟨some 78, .fa 29 0 0 1 1, some (77, false), []⟩,
⟨some 79, .load 2 false 1 78, some (77, false), []⟩,
⟨some 80, .bin false .eql 2 79 (k64 1), some (77, false), []⟩,
⟨some 81, .mov 80, some (77, false), []⟩,
⟨some 82, .fa 29 3 3 1 1, some (81, true), []⟩,
⟨some 83, .load 2 false 1 82, some (81, true), []⟩,
⟨some 84, .bin false .gtr 2 83 (k64 9999), some (81, true), []⟩,
⟨some 85, .pick 81 84 (.c (.bool false)), some (77, false), []⟩,
vo 86 (.pick 77 (.c (.bool true)) 85),
sg 58 86])
(.cond 58
(.seq
(.r [2] [
vo 2 (.asg (k64 3))])
.ret)
.skip)))))))
(.seq
(.r [2] [
vo 2 (.asg (k64 0))])
.ret)))))
modes := [.lend]
rets := [⟨2, none⟩] }

def v65 : VFun := {
code :=
(.seq
(.r [1] [
vo 1 (.box 29 0),
vo 2 (.asg (.n 1))])
(.seq
(.region true [3, 22] [
vo 4 (.fa 29 0 0 1 1),
ld 5 2 4,
vo 6 (.conv 2 5 .u8 5),
⟨some 7, .fa 29 1 1 1 1, none, [0, 1, 2]⟩,
⟨some 8, .load 9 false 1 7, none, [0, 1, 2]⟩,
⟨some 9, .len true 9 8, none, [0, 1, 2]⟩,
⟨some 10, .conv 3 5 .u8 9, none, [0, 1, 2]⟩,
vo 11 (.lit 25 5 1 2 [(.val (.int .u8 0))] [(0, 6), (1, 10)]),
⟨some 12, .fa 29 1 1 1 1, none, [0, 1, 2, 3, 4, 5, 6, 7]⟩,
⟨some 13, .load 9 false 1 12, none, [0, 1, 2, 3, 4, 5, 6, 7]⟩,
⟨some 14, .s2b 9 25 13, none, [0, 1, 2, 3, 4, 5, 6, 7]⟩,
⟨some 15, .fa 29 2 2 1 1, none, [0, 1, 2, 3, 4, 5, 6, 7, 8, 9, 10]⟩,
⟨some 16, .load 2 false 1 15, none, [0, 1, 2, 3, 4, 5, 6, 7, 8, 9, 10]⟩,
⟨some 17, .call 120 [16, (k64 4)], none, [0, 1, 2, 3, 4, 5, 6, 7, 8, 9, 10]⟩,
⟨some 18, .fa 29 3 3 1 1, none, [0, 1, 2, 3, 4, 5, 6, 7, 8, 9, 10, 11, 12, 13]⟩,
⟨some 19, .load 2 false 1 18, none, [0, 1, 2, 3, 4, 5, 6, 7, 8, 9, 10, 11, 12, 13]⟩,
⟨some 20, .call 120 [19, (k64 4)], none, [0, 1, 2, 3, 4, 5, 6, 7, 8, 9, 10]⟩,
vo 21 (.lit 151 25 1 4 [(.nl 1)] [(0, 11), (1, 14), (2, 17), (3, 20)]),
vo 22 (.call 71 [21]),
sg 3 22])
(.seq
(.r [2, 33] [
mv 23 3,
vo 24 (.len false 25 23),
vo 25 (.conv 3 5 .u8 24),
vo 26 (.lit 25 5 1 1 [(.val (.int .u8 0))] [(0, 25)]),
mv 27 3,
mv 28 3,
vo 29 (.call 121 [28]),
vo 30 (.bin false .rem 2 29 (k64 65536)),
vo 31 (.call 120 [30, (k64 2)]),
vo 32 (.lit 151 25 1 3 [(.nl 1)] [(0, 26), (1, 27), (2, 31)]),
vo 33 (.call 71 [32]),
sg 2 33])
.ret)))
modes := [.lend]
rets := [⟨2, none⟩] }

def b66_0 : VC :=
(.seq
(.seq
(.r [0, 1, 5, 9] [
mv 6 5,
mv 7 0,
vo 8 (.len false 25 7),
vo 9 (.bin false .lss 3 6 8)])
(.cond 9
.skip
(.exit 0)))
(.seq
(.block 1
(.seq
(.seq
(.r [0, 1, 5, 18] [
mv 12 0,
mv 13 5,
vo 14 (.ia 25 5 1 12 13),
ld 15 5 14,
mv 16 1,
vo 17 (.conv 3 5 .u8 16),
vo 18 (.bin false .neq 5 15 17)])
(.cond 18
(.seq
(.r [4] [
vo 4 (.asg (k64 (-1)))])
.ret)
.skip))
(.r [0, 1, 5] [
mv 19 1,
vo 20 (.bin false .add 3 19 (k64 1)),
sg 1 20])))
(.r [0, 1, 5] [
mv 10 5,
vo 11 (.bin false .add 3 10 (k64 1)),
sg 5 11])))
def l66_0 : VC := .loop b66_0
def v66 : VFun := {
code :=
(.seq
(.r [0, 1] [
vo 4 (.asg (k64 0))])
(.seq
(.seq
(.r [0, 1, 5] [
vo 5 (.asg (k64 0))])
(.block 0
l66_0))
(.seq
(.r [4] [
mv 21 1,
sg 4 21])
.ret)))
modes := [.lend, .lend]
rets := [⟨4, none⟩] }

def v67 : VFun := {
code :=
(.seq
(.r [0, 1] [
vo 4 (.asg (k64 0))])
(.seq
(.r [1] [
mv 5 1,
mv 6 0,
vo 7 (.len false 25 6),
vo 8 (.bin false .sub 3 5 7),
sg 1 8])
(.seq
(.seq
(.r [1, 10] [
mv 9 1,
vo 10 (.bin false .lss 3 9 (k64 0))])
(.cond 10
(.seq
(.r [4] [
vo 4 (.asg (k64 (-1)))])
.ret)
.skip))
(.seq
(.r [4] [
mv 11 1,
sg 4 11])
.ret))))
modes := [.lend, .lend]
rets := [⟨4, none⟩] }

def v68 : VFun := {
code :=
(.seq
(.r [0] [
vo 2 (.asg (k64 0))])
(.seq
(.seq
(.r [0, 8] [
mv 3 0,
vo 4 (.nilc 3),
vo 5 (.fa 37 0 0 1 4),
ld 6 25 5,
vo 7 (.len false 25 6),
vo 8 (.bin false .gtr 3 7 (k64 1200))])
(.cond 8
(.seq
(.r [2] [
vo 2 (.asg (k64 2))])
.ret)
.skip))
(.seq
(.seq
(.region true [19] [
mv 9 0,
vo 10 (.nilc 9),
vo 11 (.fa 37 1 1 1 10),
ld 12 2 11,
⟨some 13, .mov 0, none, [0, 1, 2, 3]⟩,
⟨some 14, .nilc 13, none, [0, 1, 2, 3]⟩,
⟨some 15, .fa 37 0 0 1 14, none, [0, 1, 2, 3]⟩,
⟨some 16, .load 25 false 1 15, none, [0, 1, 2, 3]⟩,
⟨some 17, .len false 25 16, none, [0, 1, 2, 3]⟩,
vo 18 (.call 113 [12, (k64 0), 17]),
vo 19 (.un .not 18)])
(.cond 19
(.seq
(.r [2] [
vo 2 (.asg (k64 3))])
.ret)
.skip))
(.seq
(.r [2] [
vo 2 (.asg (k64 0))])
.ret))))
modes := [.lend]
rets := [⟨2, none⟩] }

def v69 : VFun := {
code :=
(.seq
(.r [1, 2, 4] [
vo 2 (.box 37 0),
vo 4 (.alloc 37 [(.nl 1), z64]),
vo 5 (.asg (.c (.bool false)))])
(.seq
(.region true [4, 6] [
vo 7 (.fa 37 0 0 1 2),
ld 8 25 7,
vo 9 (.call 122 [8]),
⟨some 10, .mov 1, none, [0, 1, 2]⟩,
vo 11 (.call 63 [10]),
vo 12 (.app 25 5 1 1 9 11),
⟨some 13, .fa 37 1 1 1 2, none, [0, 1, 2, 3, 4, 5]⟩,
⟨some 14, .load 2 false 1 13, none, [0, 1, 2, 3, 4, 5]⟩,
vo 15 (.build 37 [(.nl 1), z64] [(0, 0, 1, 12), (1, 1, 1, 14)]),
⟨some 6, .alloc 37 [(.nl 1), z64], none, [0, 1, 2, 3, 4, 5, 6, 7, 8]⟩,
vn (.store 37 2 6 15)])
(.seq
(.region true [4, 5] [
vo 16 (.load 37 true 2 6),
⟨some 17, .fa 37 0 0 1 6, none, [0]⟩,
⟨some 18, .load 25 false 1 17, none, [0]⟩,
⟨some 19, .len false 25 18, none, [0]⟩,
⟨some 20, .bin false .leq 3 19 (k64 1200), none, [0]⟩,
⟨none, .store 37 2 4 16, none, [1, 2, 3, 4]⟩,
sg 5 20])
.ret)))
modes := [.lend, .lend]
rets := [⟨4, some (true, 2)⟩, ⟨5, none⟩] }

def v70 : VFun := {
code :=
(.seq
(.r [1] [
vo 1 (.box 37 0),
vo 2 (.asg (k64 0))])
(.seq
(.block 0
(.seq
(.r [1, 3] [
vo 4 (.fa 37 0 0 1 1),
ld 5 25 4,
vo 6 (.len false 25 5),
vo 7 (.bin false .gtr 3 6 (k64 1200)),
sg 3 7])
(.cond 3
(.seq
(.r [2] [
vo 2 (.asg (k64 2))])
.ret)
(.seq
(.r [8] [
vo 9 (.fa 37 1 1 1 1),
ld 10 2 9,
vo 11 (.fa 37 0 0 1 1),
ld 12 25 11,
vo 13 (.len false 25 12),
vo 14 (.call 93 [10, (k64 0), 13]),
vo 15 (.un .not 14),
sg 8 15])
(.cond 8
(.seq
(.r [2] [
vo 2 (.asg (k64 3))])
.ret)
.skip)))))
(.seq
(.r [2] [
vo 2 (.asg (k64 0))])
.ret)))
modes := [.lend]
rets := [⟨2, none⟩] }

def b71_1 : VC :=
(.seq
(.r [6, 24, 25, 26, 27, 28, 33] [
vo 28 (.bin false .lss 3 27 26)])
(.seq
(.cond 28
.skip
(.exit 2))
(.seq
(.block 3
(.seq
(.r [6, 8, 24, 25, 26, 27, 33] [
vo 29 (.ia 151 25 1 25 27),
ld 30 25 29,
sg 8 30])
(.r [6, 24, 25, 26, 27, 33] [
mv 31 6,
mv 32 8,
vo 33 (.app 25 5 1 1 31 32),
sg 6 33])))
(.r [6, 24, 25, 26, 27, 33] [
vo 34 (.bin false .add 3 27 (k64 1)),
mv 27 34]))))
def l71_1 : VC := .loop b71_1
def b71_0 : VC :=
(.seq
(.r [0, 3, 9, 10, 11, 12] [
vo 12 (.bin false .lss 3 11 10)])
(.seq
(.cond 12
.skip
(.exit 0))
(.seq
(.block 1
(.seq
(.r [0, 3, 5, 9, 10, 11] [
vo 13 (.ia 151 25 1 9 11),
ld 14 25 13,
sg 5 14])
(.seq
(.r [0, 3, 9, 10, 11] [
mv 15 3,
mv 16 5,
vo 17 (.len false 25 16),
vo 18 (.bin false .add 3 15 17),
sg 3 18])
(.seq
(.r [0, 3, 9, 10, 11, 20] [
mv 19 3,
vo 20 (.bin false .lss 3 19 (k64 0))])
(.cond 20
.any
.skip)))))
(.r [0, 3, 9, 10, 11] [
vo 22 (.bin false .add 3 11 (k64 1)),
mv 11 22]))))
def l71_0 : VC := .loop b71_0
def v71 : VFun := {
code :=
(.seq
(.r [0] [
vo 2 (.asg (.n 1))])
(.seq
(.r [0, 3] [
vo 3 (.asg (k64 0))])
(.seq
(.seq
(.r [0, 3, 9, 10, 11] [
mv 9 0,
vo 10 (.len false 151 9),
vo 11 (.mov (k64 0))])
(.block 0
l71_0))
(.seq
(.r [0, 6, 24, 33] [
mv 23 3,
vo 24 (.call 123 [(.n 1), 23]),
sg 6 24])
(.seq
(.seq
(.r [6, 24, 25, 26, 27, 33] [
mv 25 0,
vo 26 (.len false 151 25),
vo 27 (.mov (k64 0))])
(.block 2
l71_1))
(.seq
(.r [2, 6, 24, 33] [
mv 35 6,
sg 2 35])
.ret))))))
modes := [.lend]
rets := [⟨2, none⟩] }

def v72 : VFun := {
code :=
(.seq
(.r [1, 2] [
vo 2 (.box 37 0),
vo 4 (.asg (k64 0))])
(.seq
(.r [1] [
vo 5 (.fa 37 0 0 1 2),
ld 6 25 5,
mv 7 1,
vo 8 (.call 66 [6, 7]),
sg 1 8])
(.seq
(.seq
(.r [1, 10] [
mv 9 1,
vo 10 (.bin false .lss 3 9 (k64 0))])
(.cond 10
(.seq
(.r [4] [
vo 4 (.asg (k64 (-1)))])
.ret)
.skip))
(.seq
(.r [4] [
mv 11 1,
sg 4 11])
.ret))))
modes := [.lend, .lend]
rets := [⟨4, none⟩] }

def v75 : VFun := {
code :=
(.seq
(.r [0] [
vo 2 (.asg (.c (.bool false)))])
(.seq
(.r [2] [
mv 3 0,
vo 4 (.call 113 [3, (k64 0), (k64 1000000)]),
sg 2 4])
.ret))
modes := [.lend]
rets := [⟨2, none⟩] }

def v79 : VFun := {
code :=
(.seq
(.r [0] [
vo 2 (.asg (.c (.bool false)))])
(.seq
(.r [2] [
mv 3 0,
vo 4 (.call 93 [3, (k64 0), (k64 1000000)]),
sg 2 4])
.ret))
modes := [.lend]
rets := [⟨2, none⟩] }

def v93 : VFun := {
code :=
(.seq
(.r [0, 1, 2] [
vo 6 (.asg (.c (.bool false)))])
(.seq
(.r [6] [
mv 7 0,
mv 8 1,
vo 9 (.bin false .geq 2 7 8),
mv 10 9,
⟨some 11, .mov 0, some (10, true), []⟩,
⟨some 12, .mov 2, some (10, true), []⟩,
⟨some 13, .bin false .leq 2 11 12, some (10, true), []⟩,
vo 14 (.pick 10 13 (.c (.bool false))),
sg 6 14])
.ret))
modes := [.lend, .lend, .lend]
rets := [⟨6, none⟩] }

def v112 : VFun := {
code :=
(.seq
(.r [0] [
vo 2 (.asg (.c (.bool false))),
vo 3 (.asg (.c (.bool false))),
vo 4 (.asg (.c (.bool false)))])
(.seq
(.r [0, 5] [
mv 6 0,
vo 7 (.bin false .eql 2 6 (k64 1)),
mv 8 7,
⟨some 9, .mov 0, some (8, false), []⟩,
⟨some 10, .bin false .eql 2 9 (k64 5), some (8, false), []⟩,
vo 11 (.pick 8 (.c (.bool true)) 10),
sg 5 11])
(.seq
(.r [2, 3, 4] [
mv 12 5,
mv 13 5,
vo 14 (.un .not 13),
mv 15 5,
mv 16 15,
⟨some 17, .mov 0, some (16, false), []⟩,
⟨some 18, .bin false .eql 2 17 (k64 2), some (16, false), []⟩,
vo 19 (.pick 16 (.c (.bool true)) 18),
sg 2 12,
sg 3 14,
sg 4 19])
.ret)))
modes := [.lend]
rets := [⟨2, none⟩, ⟨3, none⟩, ⟨4, none⟩] }

def v113 : VFun := {
code :=
(.seq
(.r [0, 1, 2] [
vo 6 (.asg (.c (.bool false)))])
(.seq
(.r [6] [
mv 7 0,
mv 8 1,
vo 9 (.bin false .geq 2 7 8),
mv 10 9,
⟨some 11, .mov 0, some (10, true), []⟩,
⟨some 12, .mov 2, some (10, true), []⟩,
⟨some 13, .bin false .leq 2 11 12, some (10, true), []⟩,
vo 14 (.pick 10 13 (.c (.bool false))),
sg 6 14])
.ret))
modes := [.lend, .lend, .lend]
rets := [⟨6, none⟩] }

def b114_0 : VC :=
(.seq
(.seq
(.r [0, 3, 7] [
mv 4 3,
mv 5 0,
vo 6 (.len true 9 5),
vo 7 (.bin false .lss 3 4 6)])
(.cond 7
.skip
(.exit 0)))
(.seq
(.block 1
(.seq
(.r [0, 3, 14] [
mv 10 0,
mv 11 3,
vo 12 (.idx 9 10 11),
vo 13 (.call 148 [12]),
vo 14 (.un .not 13)])
(.cond 14
(.seq
(.r [2] [
vo 2 (.asg (.c (.bool false)))])
.ret)
.skip)))
(.r [0, 3] [
mv 8 3,
vo 9 (.bin false .add 3 8 (k64 1)),
sg 3 9])))
def l114_0 : VC := .loop b114_0
def v114 : VFun := {
code :=
(.seq
(.r [0] [
vo 2 (.asg (.c (.bool false)))])
(.seq
(.seq
(.r [0, 3] [
vo 3 (.asg (k64 0))])
(.block 0
l114_0))
(.seq
(.r [2] [
mv 15 0,
vo 16 (.len true 9 15),
vo 17 (.bin false .leq 3 16 (k64 12)),
sg 2 17])
.ret)))
modes := [.lend]
rets := [⟨2, none⟩] }

def v115 : VFun := {
code :=
(.seq
(.r [0] [
vo 2 (.asg (.c (.bool false)))])
(.seq
(.r [2] [
mv 3 0,
vo 4 (.call 113 [3, (k64 0), (k64 2147483646)]),
sg 2 4])
.ret))
modes := [.lend]
rets := [⟨2, none⟩] }

def v116 : VFun := {
code :=
(.seq
(.r [0] [
vo 2 (.asg (.n 1))])
(.seq
(.r [2, 14] [
mv 3 0,
vo 4 (.bin false .shr 2 3 (.c (.int .u64 24))),
vo 5 (.conv 2 5 .u8 4),
mv 6 0,
vo 7 (.bin false .shr 2 6 (.c (.int .u64 16))),
vo 8 (.conv 2 5 .u8 7),
mv 9 0,
vo 10 (.bin false .shr 2 9 (.c (.int .u64 8))),
vo 11 (.conv 2 5 .u8 10),
mv 12 0,
vo 13 (.conv 2 5 .u8 12),
vo 14 (.lit 25 5 1 4 [(.val (.int .u8 0))] [(0, 5), (1, 8), (2, 11), (3, 13)]),
sg 2 14])
.ret))
modes := [.lend]
rets := [⟨2, none⟩] }

def b117_0 : VC :=
(.seq
(.seq
(.r [0, 3, 4, 8] [
mv 5 4,
mv 6 0,
vo 7 (.len false 25 6),
vo 8 (.bin false .lss 3 5 7)])
(.cond 8
.skip
(.exit 0)))
(.seq
(.block 1
(.r [0, 3, 4] [
mv 11 3,
vo 12 (.bin false .mul 2 11 (k64 33)),
mv 13 0,
mv 14 4,
vo 15 (.ia 25 5 1 13 14),
ld 16 5 15,
vo 17 (.conv 5 2 .i64 16),
vo 18 (.bin false .add 2 12 17),
vo 19 (.bin false .add 2 18 (k64 1)),
vo 20 (.bin false .rem 2 19 (k64 2147483647)),
sg 3 20]))
(.r [0, 3, 4] [
mv 9 4,
vo 10 (.bin false .add 3 9 (k64 1)),
sg 4 10])))
def l117_0 : VC := .loop b117_0
def v117 : VFun := {
code :=
(.seq
(.r [0] [
vo 2 (.asg (k64 0))])
(.seq
(.r [0, 3] [
vo 3 (.asg (k64 5381))])
(.seq
(.seq
(.r [0, 3, 4] [
vo 4 (.asg (k64 0))])
(.block 0
l117_0))
(.seq
(.r [2] [
mv 21 3,
sg 2 21])
.ret))))
modes := [.lend]
rets := [⟨2, none⟩] }

def v118 : VFun := {
code :=
(.seq
(.r [0] [
vo 2 (.asg (.c (.bool false)))])
(.seq
(.r [2] [
mv 3 0,
vo 4 (.bin false .neq 9 3 (.c (.string (⟨#[]⟩ : ByteArray)))),
mv 5 4,
⟨some 6, .mov 0, some (5, true), []⟩,
⟨some 7, .call 149 [6], some (5, true), []⟩,
vo 8 (.pick 5 7 (.c (.bool false))),
sg 2 8])
.ret))
modes := [.lend]
rets := [⟨2, none⟩] }

def v119 : VFun := {
code :=
(.seq
(.r [0] [
vo 2 (.asg (.c (.bool false)))])
(.seq
(.r [2] [
mv 3 0,
vo 4 (.call 93 [3, (k64 0), (k64 2147483646)]),
sg 2 4])
.ret))
modes := [.lend]
rets := [⟨2, none⟩] }

def b120_0 : VC :=
(.seq
(.seq
(.r [0, 5, 6, 8, 12] [
mv 11 6,
vo 12 (.bin false .geq 3 11 (k64 0))])
(.cond 12
.skip
(.exit 0)))
(.seq
(.block 1
(.seq
(.r [0, 5, 6, 8] [
mv 15 5,
mv 16 6,
mv 17 0,
vo 18 (.conv 2 5 .u8 17),
vo 19 (.ia 25 5 1 15 16),
vn (.store 5 1 19 18)])
(.r [0, 5, 6, 8] [
mv 20 0,
vo 21 (.bin false .shr 2 20 (.c (.int .u64 8))),
sg 0 21])))
(.r [0, 5, 6, 8] [
mv 13 6,
vo 14 (.bin false .sub 3 13 (k64 1)),
sg 6 14])))
def l120_0 : VC := .loop b120_0
def v120 : VFun := {
code :=
(.seq
(.r [0, 1] [
vo 4 (.asg (.n 1))])
(.seq
(.r [0, 1, 5, 8] [
mv 7 1,
vo 8 (.mk 25 5 1 1 [(.val (.int .u8 0))] 7 7),
sg 5 8])
(.seq
(.seq
(.r [0, 5, 6, 8] [
mv 9 1,
vo 10 (.bin false .sub 3 9 (k64 1)),
sg 6 10])
(.block 0
l120_0))
(.seq
(.r [4, 5, 8] [
mv 22 5,
sg 4 22])
.ret))))
modes := [.lend, .lend]
rets := [⟨4, none⟩] }

def b121_0 : VC :=
(.seq
(.r [3, 6, 7, 8, 9] [
vo 9 (.bin false .lss 3 8 7)])
(.seq
(.cond 9
.skip
(.exit 0))
(.seq
(.block 1
(.seq
(.r [3, 5, 6, 7, 8] [
vo 10 (.ia 25 5 1 6 8),
ld 11 5 10,
sg 5 11])
(.r [3, 6, 7, 8] [
mv 12 3,
vo 13 (.bin false .mul 2 (k64 33) 12),
mv 14 5,
vo 15 (.conv 5 2 .i64 14),
vo 16 (.bin false .add 2 13 15),
vo 17 (.bin false .add 2 16 (k64 1)),
vo 18 (.bin false .rem 2 17 (k64 2147483647)),
sg 3 18])))
(.r [3, 6, 7, 8] [
vo 19 (.bin false .add 3 8 (k64 1)),
mv 8 19]))))
def l121_0 : VC := .loop b121_0
def v121 : VFun := {
code :=
(.seq
(.r [0] [
vo 2 (.asg (k64 0))])
(.seq
(.r [0, 3] [
vo 3 (.asg (k64 5381))])
(.seq
(.seq
(.r [3, 6, 7, 8] [
mv 6 0,
vo 7 (.len false 25 6),
vo 8 (.mov (k64 0))])
(.block 0
l121_0))
(.seq
(.r [2] [
mv 20 3,
sg 2 20])
.ret))))
modes := [.lend]
rets := [⟨2, none⟩] }

def v122 : VFun := {
code :=
(.seq
(.r [0] [
vo 2 (.asg (.n 1))])
(.seq
(.r [2, 5] [
vo 3 (.lit 25 5 1 0 [(.val (.int .u8 0))] []),
mv 4 0,
vo 5 (.app 25 5 1 1 3 4),
sg 2 5])
.ret))
modes := [.lend]
rets := [⟨2, none⟩] }

def v123 : VFun := {
code :=
(.seq
(.r [0, 1, 25] [
vo 4 (.asg (.n 1))])
(.seq
(.seq
(.r [0, 1, 6, 25] [
mv 5 1,
vo 6 (.bin false .lss 3 5 (k64 0))])
(.cond 6
.any
.skip))
(.seq
(.seq
(.r [0, 1, 25] [
mv 8 1,
mv 9 0,
vo 10 (.capn 25 9),
mv 11 0,
vo 12 (.len false 25 11),
vo 13 (.bin false .sub 3 10 12),
vo 14 (.bin false .sub 3 8 13),
sg 1 14])
(.seq
(.r [0, 1, 16, 25] [
mv 15 1,
vo 16 (.bin false .gtr 3 15 (k64 0))])
(.cond 16
(.r [0, 25] [
mv 17 0,
mv 18 0,
vo 19 (.capn 25 18),
vo 20 (.cut 25 (some 5) 1 17 none (some 19)),
mv 21 1,
vo 22 (.appn 25 5 1 1 [(.val (.int .u8 0))] 20 21),
mv 23 0,
vo 24 (.len false 25 23),
vo 25 (.trunc 25 5 1 22 24),
sg 0 25])
.skip)))
(.seq
(.r [0, 4, 25] [
mv 26 0,
sg 4 26])
.ret))))
modes := [.nl, .lend]
rets := [⟨4, none⟩] }

def v148 : VFun := {
code :=
(.seq
(.r [0] [
vo 2 (.asg (.c (.bool false)))])
(.seq
(.r [2] [
mv 3 0,
vo 4 (.bin false .geq 5 3 (.c (.int .u8 97))),
mv 5 4,
⟨some 6, .mov 0, some (5, true), []⟩,
⟨some 7, .bin false .leq 5 6 (.c (.int .u8 122)), some (5, true), []⟩,
vo 8 (.pick 5 7 (.c (.bool false))),
mv 9 8,
⟨some 10, .mov 0, some (9, false), []⟩,
⟨some 11, .bin false .geq 5 10 (.c (.int .u8 65)), some (9, false), []⟩,
⟨some 12, .mov 11, some (9, false), []⟩,
⟨some 13, .mov 0, some (12, true), []⟩,
⟨some 14, .bin false .leq 5 13 (.c (.int .u8 90)), some (12, true), []⟩,
⟨some 15, .pick 12 14 (.c (.bool false)), some (9, false), []⟩,
vo 16 (.pick 9 (.c (.bool true)) 15),
mv 17 16,
⟨some 18, .mov 0, some (17, false), []⟩,
⟨some 19, .bin false .geq 5 18 (.c (.int .u8 48)), some (17, false), []⟩,
⟨some 20, .mov 19, some (17, false), []⟩,
⟨some 21, .mov 0, some (20, true), []⟩,
⟨some 22, .bin false .leq 5 21 (.c (.int .u8 57)), some (20, true), []⟩,
⟨some 23, .pick 20 22 (.c (.bool false)), some (17, false), []⟩,
vo 24 (.pick 17 (.c (.bool true)) 23),
sg 2 24])
.ret))
modes := [.lend]
rets := [⟨2, none⟩] }

def v149 : VFun := {
code :=
(.seq
(.r [0] [
vo 2 (.asg (.c (.bool false)))])
(.seq
(.r [2] [
mv 3 0,
vo 4 (.len true 9 3),
vo 5 (.bin false .leq 3 4 (k64 12)),
mv 6 5,
⟨some 7, .mov 0, some (6, true), []⟩,
⟨some 8, .call 156 [7, (.c (.string (⟨#[97, 98, 99, 100, 101, 102, 103, 104, 105, 106, 107, 108, 109, 110, 111, 112, 113, 114, 115, 116, 117, 118, 119, 120, 121, 122, 65, 66, 67, 68, 69, 70, 71, 72, 73, 74, 75, 76, 77, 78, 79, 80, 81, 82, 83, 84, 85, 86, 87, 88, 89, 90, 48, 49, 50, 51, 52, 53, 54, 55, 56, 57]⟩ : ByteArray)))], some (6, true), []⟩,
⟨some 9, .bin false .eql 9 8 (.c (.string (⟨#[]⟩ : ByteArray))), some (6, true), []⟩,
vo 10 (.pick 6 9 (.c (.bool false))),
sg 2 10])
.ret))
modes := [.lend]
rets := [⟨2, none⟩] }

def tab : List (Nat × VFun) := [(4, v4), (11, v11), (13, v13), (14, v14), (18, v18), (19, v19), (20, v20), (21, v21), (22, v22), (23, v23), (24, v24), (25, v25), (26, v26), (37, v37), (40, v40), (41, v41), (62, v62), (63, v63), (64, v64), (65, v65), (66, v66), (67, v67), (68, v68), (69, v69), (70, v70), (71, v71), (72, v72), (75, v75), (79, v79), (93, v93), (112, v112), (113, v113), (114, v114), (115, v115), (116, v116), (117, v117), (118, v118), (119, v119), (120, v120), (121, v121), (122, v122), (123, v123), (148, v148), (149, v149)]
def F (f : FuncId) : Option VFun := getA none (tab.map fun x => (x.1, some x.2)) f
theorem tab_ok : tab.all (fun x => matchFun Tryd.prog x.1 x.2) = true := by kernel_rfl
theorem F_mem {f : FuncId} {fn : VFun} : ∀ {l : List (Nat × VFun)}, getA none (l.map fun x => (x.1, some x.2)) f = some fn → (f, fn) ∈ l
  | [], h => by simp [getA] at h
  | (k, v) :: l, h => by
    simp only [List.map_cons, getA] at h
    split at h
    · rename_i e
      injection h with h
      subst e; subst h
      exact List.mem_cons_self ..
    · exact List.mem_cons_of_mem _ (F_mem h)
theorem F_ok (f : FuncId) (fn : VFun) (h : F f = some fn) : matchFun Tryd.prog f fn = true := List.all_eq_true.1 tab_ok _ (F_mem h)
end Go.Proofs.YtdnopbpdiineiaaDoor.AppendEntry
