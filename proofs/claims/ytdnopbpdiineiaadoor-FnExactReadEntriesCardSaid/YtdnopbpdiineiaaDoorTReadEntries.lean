/- V's text of the functions that this law reaches. -/
import Derived.Test.YtdnopbpdiineiaaDoorVCode
import Derived.Test.YtdnopbpdiineiaaDoorRows
import Derived.KernelRfl
namespace Go.Proofs.YtdnopbpdiineiaaDoor.ReadEntries
open Go Go.Proofs.YtdnopbpdiineiaaDoor.V
set_option maxRecDepth 20000
def vo (d : Nat) (x : VOp) : VO := ⟨some d, x, none, []⟩
def vn (x : VOp) : VO := ⟨none, x, none, []⟩
instance (n : Nat) : OfNat VX n := ⟨.t n⟩
def k64 (n : Int) : VX := .c (.int .i64 n)
def z64 : CV := .val (.int .i64 0)
def _root_.Go.Proofs.YtdnopbpdiineiaaDoor.V.VC.r (k : List Nat) (o : List VO) : VC := .region false k o
def mv (d : Nat) (x : VX) : VO := vo d (.mov x)
def ld (d t : Nat) (x : VX) : VO := vo d (.load t false 1 x)
def sg (d : Nat) (x : VX) : VO := vo d (.asg x)

def v6 : VFun := {
code :=
(.seq
(.r [0] [
vo 2 (.asg (.c (.bool false)))])
(.seq
(.seq
(.r [0, 12] [
mv 10 0,
vo 11 (.len false 25 10),
vo 12 (.bin false .gtr 3 11 (k64 1048576))])
(.cond 12
(.seq
(.r [2] [
vo 2 (.asg (.c (.bool true)))])
.ret)
.skip))
(.seq
(.r [0, 3] [
mv 13 0,
vo 14 (.call 37 [13]),
vo 15 (.call 36 [14]),
vo 3 (.alloc 61 [z64, z64, (.nl 4)]),
vn (.store 61 3 3 15)])
(.seq
(.r [0, 3, 4, 17] [
mv 16 0,
vo 17 (.call 37 [16]),
sg 4 17])
(.seq
(.r [0, 3, 4, 5, 17] [
mv 18 4,
vo 19 (.call 38 [18]),
vo 5 (.alloc 61 [z64, z64, (.nl 4)]),
vn (.store 61 3 5 19)])
(.seq
(.seq
(.r [0, 3, 4, 5, 17, 23] [
vo 20 (.load 61 true 3 5),
vo 21 (.load 61 true 3 3),
vo 22 (.call 39 [20, 21]),
vo 23 (.un .not 22)])
(.cond 23
(.seq
(.r [2] [
vo 2 (.asg (.c (.bool false)))])
.ret)
.skip))
(.seq
(.seq
(.r [0, 3, 4, 5, 17, 28] [
mv 24 4,
mv 25 0,
vo 26 (.call 37 [25]),
vo 27 (.call 40 [24, 26]),
vo 28 (.un .not 27)])
(.cond 28
(.seq
(.r [2] [
vo 2 (.asg (.c (.bool false)))])
.ret)
.skip))
(.seq
(.r [0, 3, 4, 5, 6, 17] [
vo 6 (.asg (k64 1))])
(.seq
(.r [0, 3, 5, 6] [
mv 29 4,
mv 30 6,
vo 31 (.call 41 [29, 30]),
sg 6 31])
(.seq
(.seq
(.r [0, 3, 5, 39] [
mv 32 6,
vo 33 (.bin false .lss 3 32 (k64 0)),
mv 34 33,
⟨some 35, .load 61 true 3 5, some (34, false), []⟩,
⟨some 36, .load 61 true 3 3, some (34, false), []⟩,
⟨some 37, .call 39 [35, 36], some (34, false), []⟩,
⟨some 38, .un .not 37, some (34, false), []⟩,
vo 39 (.pick 34 (.c (.bool true)) 38)])
(.cond 39
(.seq
(.r [2] [
vo 2 (.asg (.c (.bool false)))])
.ret)
.skip))
(.seq
(.r [0, 3, 5, 7] [
vo 7 (.asg (k64 1))])
(.seq
(.r [0, 3, 5, 7] [
vo 40 (.load 61 true 3 5),
mv 41 7,
vo 42 (.call 42 [40, 41]),
sg 7 42])
(.seq
(.r [0, 3, 5, 7, 8] [
vo 8 (.asg (k64 1))])
(.seq
(.r [0, 3, 5, 7, 8] [
vo 43 (.load 61 true 3 5),
mv 44 8,
vo 45 (.call 43 [43, 44]),
sg 8 45])
(.seq
(.seq
(.r [0, 3, 5, 7, 8, 47] [
mv 46 8,
vo 47 (.bin false .lss 3 46 (k64 0))])
(.cond 47
(.seq
(.r [2] [
vo 2 (.asg (.c (.bool false)))])
.ret)
.skip))
(.seq
(.seq
(.r [0, 3, 5, 7, 50] [
mv 48 8,
mv 49 7,
vo 50 (.bin false .neq 3 48 49)])
(.cond 50
(.seq
(.r [2] [
vo 2 (.asg (.c (.bool false)))])
.ret)
.skip))
(.seq
(.r [3, 5, 7, 9] [
mv 51 0,
vo 52 (.call 37 [51]),
vo 53 (.call 38 [52]),
vo 9 (.alloc 61 [z64, z64, (.nl 4)]),
vn (.store 61 3 9 53)])
(.seq
(.seq
(.r [5, 7, 57] [
vo 54 (.load 61 true 3 9),
vo 55 (.load 61 true 3 3),
vo 56 (.call 39 [54, 55]),
vo 57 (.un .not 56)])
(.cond 57
(.seq
(.r [2] [
vo 2 (.asg (.c (.bool false)))])
.ret)
.skip))
(.seq
(.r [5, 7, 8] [
vo 8 (.asg (k64 1))])
(.seq
(.r [7, 8] [
vo 58 (.load 61 true 3 5),
mv 59 8,
vo 60 (.call 43 [58, 59]),
sg 8 60])
(.seq
(.seq
(.r [7, 8, 62] [
mv 61 8,
vo 62 (.bin false .lss 3 61 (k64 0))])
(.cond 62
(.seq
(.r [2] [
vo 2 (.asg (.c (.bool false)))])
.ret)
.skip))
(.seq
(.seq
(.r [65] [
mv 63 8,
mv 64 7,
vo 65 (.bin false .neq 3 63 64)])
(.cond 65
(.seq
(.r [2] [
vo 2 (.asg (.c (.bool false)))])
.ret)
.skip))
(.seq
(.r [2] [
vo 2 (.asg (.c (.bool true)))])
.ret)))))))))))))))))))))))
modes := [.lend]
rets := [⟨2, none⟩] }

def v36 : VFun := {
code :=
(.seq
(.r [0, 2] [
vo 2 (.alloc 61 [z64, z64, (.nl 4)])])
(.seq
(.seq
(.r [0, 2, 7] [
mv 5 0,
vo 6 (.len false 25 5),
vo 7 (.bin false .gtr 3 6 (k64 1200))])
(.cond 7
(.seq
(.r [2] [
vo 8 (.build 61 [z64, z64, (.nl 4)] [(0, 0, 1, (k64 2))]),
vn (.store 61 3 2 8)])
.ret)
.skip))
(.seq
(.r [2, 3, 4, 11] [
mv 10 0,
vo 11 (.call 84 [10]),
mv 9 11,
vo 12 (.ext 9 0),
vo 13 (.ext 9 1),
sg 3 12,
sg 4 13])
(.seq
(.r [2] [
mv 14 3,
mv 15 4,
vo 16 (.build 61 [z64, z64, (.nl 4)] [(2, 2, 1, 14), (1, 1, 1, 15)]),
vn (.store 61 3 2 16)])
.ret))))
modes := [.lend]
rets := [⟨2, some (true, 3)⟩] }

def b37_0 : VC :=
(.seq
(.seq
(.r [0, 3, 4, 7, 11] [
mv 8 4,
mv 9 0,
vo 10 (.len false 25 9),
vo 11 (.bin false .lss 3 8 10)])
(.cond 11
.skip
(.exit 0)))
(.seq
(.block 1
(.r [0, 3, 4, 7] [
mv 14 3,
mv 15 4,
mv 16 0,
mv 17 4,
vo 18 (.ia 25 5 1 16 17),
ld 19 5 18,
vo 20 (.ia 25 5 1 14 15),
vn (.store 5 1 20 19)]))
(.r [0, 3, 4, 7] [
mv 12 4,
vo 13 (.bin false .add 3 12 (k64 1)),
sg 4 13])))
def l37_0 : VC := .loop b37_0
def v37 : VFun := {
code :=
(.seq
(.r [0] [
vo 2 (.asg (.n 1))])
(.seq
(.r [0, 3, 7] [
mv 5 0,
vo 6 (.len false 25 5),
vo 7 (.mk 25 5 1 1 [(.val (.int .u8 0))] 6 6),
sg 3 7])
(.seq
(.seq
(.r [0, 3, 4, 7] [
vo 4 (.asg (k64 0))])
(.block 0
l37_0))
(.seq
(.r [2, 3, 7] [
mv 21 3,
sg 2 21])
.ret))))
modes := [.lend]
rets := [⟨2, none⟩] }

def b38_0 : VC :=
(.block 1
(.seq
(.r [0, 2, 3, 4, 5, 6] [
mv 13 0,
vo 14 (.call 85 [13]),
mv 12 14,
vo 15 (.ext 12 0),
vo 16 (.ext 12 1),
vo 17 (.ext 12 2),
vo 4 (.alloc 29 [z64, (.val (.string (⟨#[]⟩ : ByteArray))), z64, z64]),
vn (.store 29 4 4 15),
sg 5 16,
sg 6 17])
(.seq
(.seq
(.r [0, 2, 3, 4, 5, 19] [
mv 18 6,
vo 19 (.un .not 18)])
(.cond 19
(.seq
(.r [2] [
vo 20 (.load 61 true 3 3),
vn (.store 61 3 2 20)])
.ret)
.skip))
(.region true [0, 2, 3] [
vo 21 (.fa 61 2 2 1 3),
ld 22 59 21,
⟨some 23, .load 29 true 4 4, none, [0, 1]⟩,
⟨some 24, .lit 59 29 4 1 [z64, (.val (.string (⟨#[]⟩ : ByteArray))), z64, z64] [(0, 23)], none, [0, 1]⟩,
vo 25 (.app 59 29 4 40 22 24),
⟨some 26, .fa 61 1 1 1 3, none, [0, 1, 2, 3, 4]⟩,
⟨some 27, .load 2 false 1 26, none, [0, 1, 2, 3, 4]⟩,
⟨some 28, .mov 5, none, [0, 1, 2, 3, 4, 5, 6]⟩,
⟨some 29, .bin false .add 2 27 28, none, [0, 1, 2, 3, 4]⟩,
⟨some 30, .mov 0, none, [0, 1, 2, 3, 4, 5, 6, 7, 8]⟩,
⟨some 31, .mov 5, none, [0, 1, 2, 3, 4, 5, 6, 7, 8, 9]⟩,
⟨some 32, .cut 25 (some 5) 1 30 (some 31) none, none, [0, 1, 2, 3, 4, 5, 6, 7, 8]⟩,
⟨some 33, .fa 61 2 2 1 3, none, [7, 8, 9, 10, 11]⟩,
⟨none, .store 59 1 33 25, none, [7, 8, 9, 10, 11]⟩,
⟨some 34, .fa 61 1 1 1 3, none, [9, 10, 11]⟩,
⟨none, .store 2 1 34 29, none, [9, 10, 11]⟩,
sg 0 32]))))
def l38_0 : VC := .loop b38_0
def v38 : VFun := {
code :=
(.seq
(.r [0, 2] [
vo 2 (.alloc 61 [z64, z64, (.nl 4)])])
(.seq
(.seq
(.r [0, 2, 9] [
mv 7 0,
vo 8 (.len false 25 7),
vo 9 (.bin false .gtr 3 8 (k64 1200))])
(.cond 9
(.seq
(.r [2] [
vo 10 (.build 61 [z64, z64, (.nl 4)] [(0, 0, 1, (k64 2))]),
vn (.store 61 3 2 10)])
.ret)
.skip))
(.seq
(.r [0, 2, 3] [
vo 11 (.build 61 [z64, z64, (.nl 4)] []),
vo 3 (.alloc 61 [z64, z64, (.nl 4)]),
vn (.store 61 3 3 11)])
(.block 0
l38_0))))
modes := [.lend]
rets := [⟨2, some (true, 3)⟩] }

def v39 : VFun := {
code :=
(.seq
(.r [2, 3] [
vo 2 (.box 61 0),
vo 3 (.box 61 1),
vo 4 (.asg (.c (.bool false)))])
(.seq
(.seq
(.r [2, 3, 9] [
vo 5 (.fa 61 0 0 1 2),
ld 6 2 5,
vo 7 (.fa 61 0 0 1 3),
ld 8 2 7,
vo 9 (.bin false .neq 2 6 8)])
(.cond 9
(.seq
(.r [4] [
vo 4 (.asg (.c (.bool false)))])
.ret)
.skip))
(.seq
(.seq
(.r [2, 3, 14] [
vo 10 (.fa 61 1 1 1 2),
ld 11 2 10,
vo 12 (.fa 61 1 1 1 3),
ld 13 2 12,
vo 14 (.bin false .neq 2 11 13)])
(.cond 14
(.seq
(.r [4] [
vo 4 (.asg (.c (.bool false)))])
.ret)
.skip))
(.seq
(.seq
(.r [20] [
vo 15 (.fa 61 2 2 1 2),
ld 16 59 15,
vo 17 (.fa 61 2 2 1 3),
ld 18 59 17,
vo 19 (.call 86 [16, 18]),
vo 20 (.un .not 19)])
(.cond 20
(.seq
(.r [4] [
vo 4 (.asg (.c (.bool false)))])
.ret)
.skip))
(.seq
(.r [4] [
vo 4 (.asg (.c (.bool true)))])
.ret)))))
modes := [.lend, .lend]
rets := [⟨4, none⟩] }

def b40_0 : VC :=
(.seq
(.seq
(.r [0, 1, 5, 14] [
mv 11 5,
mv 12 0,
vo 13 (.len false 25 12),
vo 14 (.bin false .lss 3 11 13)])
(.cond 14
.skip
(.exit 0)))
(.seq
(.block 1
(.seq
(.region true [0, 1, 5, 25] [
mv 17 0,
⟨some 18, .mov 5, none, [0]⟩,
vo 19 (.ia 25 5 1 17 18),
ld 20 5 19,
⟨some 21, .mov 1, none, [0, 1, 2, 3]⟩,
⟨some 22, .mov 5, none, [0, 1, 2, 3, 4]⟩,
⟨some 23, .ia 25 5 1 21 22, none, [0, 1, 2, 3]⟩,
⟨some 24, .load 5 false 1 23, none, [0, 1, 2, 3]⟩,
vo 25 (.bin false .neq 5 20 24)])
(.cond 25
(.seq
(.r [4] [
vo 4 (.asg (.c (.bool false)))])
.ret)
.skip)))
(.r [0, 1, 5] [
mv 15 5,
vo 16 (.bin false .add 3 15 (k64 1)),
sg 5 16])))
def l40_0 : VC := .loop b40_0
def v40 : VFun := {
code :=
(.seq
(.r [0, 1] [
vo 4 (.asg (.c (.bool false)))])
(.seq
(.seq
(.r [0, 1, 10] [
mv 6 0,
vo 7 (.len false 25 6),
mv 8 1,
vo 9 (.len false 25 8),
vo 10 (.bin false .neq 3 7 9)])
(.cond 10
(.seq
(.r [4] [
vo 4 (.asg (.c (.bool false)))])
.ret)
.skip))
(.seq
(.seq
(.r [0, 1, 5] [
vo 5 (.asg (k64 0))])
(.block 0
l40_0))
(.seq
(.r [4] [
vo 4 (.asg (.c (.bool true)))])
.ret))))
modes := [.lend, .lend]
rets := [⟨4, none⟩] }

def b41_0 : VC :=
(.seq
(.seq
(.r [0, 1, 5, 9] [
mv 6 5,
mv 7 0,
vo 8 (.len false 25 7),
vo 9 (.bin false .lss 3 6 8)])
(.cond 9
.skip
(.exit 0)))
(.seq
(.block 1
(.seq
(.r [0, 1, 5] [
mv 12 0,
mv 13 5,
mv 14 1,
vo 15 (.conv 3 5 .u8 14),
vo 16 (.ia 25 5 1 12 13),
vn (.store 5 1 16 15)])
(.r [0, 1, 5] [
mv 17 1,
vo 18 (.bin false .add 3 17 (k64 1)),
sg 1 18])))
(.r [0, 1, 5] [
mv 10 5,
vo 11 (.bin false .add 3 10 (k64 1)),
sg 5 11])))
def l41_0 : VC := .loop b41_0
def v41 : VFun := {
code :=
(.seq
(.r [0, 1] [
vo 4 (.asg (k64 0))])
(.seq
(.seq
(.r [0, 1, 5] [
vo 5 (.asg (k64 0))])
(.block 0
l41_0))
(.seq
(.r [0, 4] [
mv 19 1,
sg 4 19])
.ret)))
modes := [.io, .lend]
rets := [⟨4, none⟩] }

def v42 : VFun := {
code :=
(.seq
(.r [0, 1, 2] [
vo 2 (.box 61 0),
vo 4 (.asg (k64 0))])
(.seq
(.r [0, 1, 2] [
vo 5 (.fa 61 2 2 1 2),
ld 6 59 5,
mv 7 1,
vo 8 (.call 87 [6, 7]),
sg 1 8])
(.seq
(.r [0, 2, 4] [
mv 9 1,
sg 4 9])
.ret)))
modes := [.io, .lend]
rets := [⟨4, none⟩] }

def v43 : VFun := {
code :=
(.seq
(.r [1, 2] [
vo 2 (.box 61 0),
vo 4 (.asg (k64 0))])
(.seq
(.r [1] [
vo 5 (.fa 61 2 2 1 2),
ld 6 59 5,
mv 7 1,
vo 8 (.call 88 [6, 7]),
sg 1 8])
(.seq
(.seq
(.r [1, 10] [
mv 9 1,
vo 10 (.bin false .lss 3 9 (k64 0))])
(.cond 10
(.seq
(.r [4] [
vo 4 (.asg (k64 (-1)))])
.ret)
.skip))
(.seq
(.r [4] [
mv 11 1,
sg 4 11])
.ret))))
modes := [.lend, .lend]
rets := [⟨4, none⟩] }

def v62 : VFun := {
code :=
(.seq
(.r [0] [
vo 2 (.asg (k64 0))])
(.seq
(.r [0, 3, 4, 5] [
mv 7 0,
vo 8 (.nilc 7),
vo 9 (.fa 29 0 0 1 8),
ld 10 2 9,
vo 11 (.call 112 [10]),
mv 6 11,
vo 12 (.ext 6 0),
vo 13 (.ext 6 1),
vo 14 (.ext 6 2),
sg 3 12,
sg 4 13,
sg 5 14])
(.seq
(.seq
(.r [0, 3, 53] [
mv 15 0,
vo 16 (.nilc 15),
vo 17 (.fa 29 0 0 1 16),
ld 18 2 17,
vo 19 (.call 113 [18, (k64 1), (k64 5)]),
vo 20 (.un .not 19),
mv 21 20,
⟨some 22, .mov 3, some (21, false), []⟩,
⟨some 23, .un .not 22, some (21, false), []⟩,
⟨some 24, .mov 23, some (21, false), []⟩,
⟨some 25, .mov 0, some (24, true), []⟩,
⟨some 26, .nilc 25, some (24, true), []⟩,
⟨some 27, .fa 29 1 1 1 26, some (24, true), []⟩,
⟨some 28, .load 9 false 1 27, some (24, true), []⟩,
⟨some 29, .bin false .neq 9 28 (.c (.string (⟨#[]⟩ : ByteArray))), some (24, true), []⟩,
⟨some 30, .pick 24 29 (.c (.bool false)), some (21, false), []⟩,
vo 31 (.pick 21 (.c (.bool true)) 30),
mv 32 31,
⟨some 33, .mov 4, some (32, false), []⟩,
⟨some 34, .un .not 33, some (32, false), []⟩,
⟨some 35, .mov 34, some (32, false), []⟩,
⟨some 36, .mov 0, some (35, true), []⟩,
⟨some 37, .nilc 36, some (35, true), []⟩,
⟨some 38, .fa 29 2 2 1 37, some (35, true), []⟩,
⟨some 39, .load 2 false 1 38, some (35, true), []⟩,
⟨some 40, .bin false .neq 2 39 (k64 0), some (35, true), []⟩,
⟨some 41, .pick 35 40 (.c (.bool false)), some (32, false), []⟩,
vo 42 (.pick 32 (.c (.bool true)) 41),
mv 43 42,
⟨some 44, .mov 5, some (43, false), []⟩,
⟨some 45, .un .not 44, some (43, false), []⟩,
⟨some 46, .mov 45, some (43, false), []⟩,
⟨some 47, .mov 0, some (46, true), []⟩,
⟨some 48, .nilc 47, some (46, true), []⟩,
⟨some 49, .fa 29 3 3 1 48, some (46, true), []⟩,
⟨some 50, .load 2 false 1 49, some (46, true), []⟩,
⟨some 51, .bin false .neq 2 50 (k64 0), some (46, true), []⟩,
⟨some 52, .pick 46 51 (.c (.bool false)), some (43, false), []⟩,
vo 53 (.pick 43 (.c (.bool true)) 52)])
(.cond 53
(.seq
(.r [2] [
vo 2 (.asg (k64 1))])
.ret)
.skip))
(.seq
(.seq
(.r [0, 3, 69] [
mv 54 3,
mv 55 54,
⟨some 56, .mov 0, some (55, true), []⟩,
⟨some 57, .nilc 56, some (55, true), []⟩,
⟨some 58, .fa 29 1 1 1 57, some (55, true), []⟩,
⟨some 59, .load 9 false 1 58, some (55, true), []⟩,
⟨some 60, .bin false .eql 9 59 (.c (.string (⟨#[]⟩ : ByteArray))), some (55, true), []⟩,
⟨some 61, .mov 60, some (55, true), []⟩,
⟨some 62, .mov 0, some (61, false), []⟩,
⟨some 63, .nilc 62, some (61, false), []⟩,
⟨some 64, .fa 29 1 1 1 63, some (61, false), []⟩,
⟨some 65, .load 9 false 1 64, some (61, false), []⟩,
⟨some 66, .call 114 [65], some (61, false), []⟩,
⟨some 67, .un .not 66, some (61, false), []⟩,
⟨some 68, .pick 61 (.c (.bool true)) 67, some (55, true), []⟩,
vo 69 (.pick 55 68 (.c (.bool false)))])
(.cond 69
(.seq
(.r [2] [
vo 2 (.asg (k64 5))])
.ret)
.skip))
(.seq
(.seq
(.r [107] [
mv 70 0,
vo 71 (.nilc 70),
vo 72 (.fa 29 2 2 1 71),
ld 73 2 72,
vo 74 (.call 115 [73]),
vo 75 (.un .not 74),
mv 76 75,
⟨some 77, .mov 0, some (76, false), []⟩,
⟨some 78, .nilc 77, some (76, false), []⟩,
⟨some 79, .fa 29 3 3 1 78, some (76, false), []⟩,
⟨some 80, .load 2 false 1 79, some (76, false), []⟩,
⟨some 81, .call 75 [80], some (76, false), []⟩,
⟨some 82, .un .not 81, some (76, false), []⟩,
vo 83 (.pick 76 (.c (.bool true)) 82),
mv 84 83,
⟨some 85, .mov 3, some (84, false), []⟩,
⟨some 86, .mov 85, some (84, false), []⟩,
⟨some 87, .mov 0, some (86, true), []⟩,
⟨some 88, .nilc 87, some (86, true), []⟩,
⟨some 89, .fa 29 3 3 1 88, some (86, true), []⟩,
⟨some 90, .load 2 false 1 89, some (86, true), []⟩,
⟨some 91, .bin false .lss 2 90 (k64 1), some (86, true), []⟩,
⟨some 92, .pick 86 91 (.c (.bool false)), some (84, false), []⟩,
vo 93 (.pick 84 (.c (.bool true)) 92),
mv 94 93,
⟨some 95, .mov 0, some (94, false), []⟩,
⟨some 96, .nilc 95, some (94, false), []⟩,
⟨some 97, .fa 29 0 0 1 96, some (94, false), []⟩,
⟨some 98, .load 2 false 1 97, some (94, false), []⟩,
⟨some 99, .bin false .eql 2 98 (k64 1), some (94, false), []⟩,
⟨some 100, .mov 99, some (94, false), []⟩,
⟨some 101, .mov 0, some (100, true), []⟩,
⟨some 102, .nilc 101, some (100, true), []⟩,
⟨some 103, .fa 29 3 3 1 102, some (100, true), []⟩,
⟨some 104, .load 2 false 1 103, some (100, true), []⟩,
⟨some 105, .bin false .gtr 2 104 (k64 9999), some (100, true), []⟩,
⟨some 106, .pick 100 105 (.c (.bool false)), some (94, false), []⟩,
vo 107 (.pick 94 (.c (.bool true)) 106)])
(.cond 107
(.seq
(.r [2] [
vo 2 (.asg (k64 3))])
.ret)
.skip))
(.seq
(.r [2] [
vo 2 (.asg (k64 0))])
.ret))))))
modes := [.lend]
rets := [⟨2, none⟩] }

def v63 : VFun := {
code :=
(.seq
(.r [0] [
vo 2 (.asg (.n 1))])
(.seq
(.region true [0, 3, 22, 35] [
mv 5 0,
vo 6 (.nilc 5),
vo 7 (.fa 29 0 0 1 6),
ld 8 2 7,
vo 9 (.conv 2 5 .u8 8),
⟨some 10, .mov 0, none, [0, 1, 2, 3, 4]⟩,
⟨some 11, .nilc 10, none, [0, 1, 2, 3, 4]⟩,
⟨some 12, .fa 29 1 1 1 11, none, [0, 1, 2, 3, 4]⟩,
⟨some 13, .load 9 false 1 12, none, [0, 1, 2, 3, 4]⟩,
⟨some 14, .len true 9 13, none, [0, 1, 2, 3, 4]⟩,
⟨some 15, .conv 3 5 .u8 14, none, [0, 1, 2, 3, 4]⟩,
vo 16 (.lit 25 5 1 2 [(.val (.int .u8 0))] [(0, 9), (1, 15)]),
⟨some 17, .mov 0, none, [0, 1, 2, 3, 4, 5, 6, 7, 8, 9, 10, 11]⟩,
⟨some 18, .nilc 17, none, [0, 1, 2, 3, 4, 5, 6, 7, 8, 9, 10, 11]⟩,
⟨some 19, .fa 29 1 1 1 18, none, [0, 1, 2, 3, 4, 5, 6, 7, 8, 9, 10, 11]⟩,
⟨some 20, .load 9 false 1 19, none, [0, 1, 2, 3, 4, 5, 6, 7, 8, 9, 10, 11]⟩,
⟨some 21, .s2b 9 25 20, none, [0, 1, 2, 3, 4, 5, 6, 7, 8, 9, 10, 11]⟩,
vo 22 (.app 25 5 1 1 16 21),
sg 3 22])
(.seq
(.region true [3, 22, 35] [
mv 23 3,
⟨some 24, .mov 0, none, [0]⟩,
⟨some 25, .nilc 24, none, [0]⟩,
⟨some 26, .fa 29 2 2 1 25, none, [0]⟩,
⟨some 27, .load 2 false 1 26, none, [0]⟩,
⟨some 28, .call 116 [27], none, [0]⟩,
vo 29 (.app 25 5 1 1 23 28),
⟨some 30, .mov 0, none, [0, 1, 2, 3, 4, 5, 6]⟩,
⟨some 31, .nilc 30, none, [0, 1, 2, 3, 4, 5, 6]⟩,
⟨some 32, .fa 29 3 3 1 31, none, [0, 1, 2, 3, 4, 5, 6]⟩,
⟨some 33, .load 2 false 1 32, none, [0, 1, 2, 3, 4, 5, 6]⟩,
vo 34 (.call 116 [33]),
vo 35 (.app 25 5 1 1 29 34),
sg 3 35])
(.seq
(.r [3, 4, 22, 35] [
mv 36 3,
vo 37 (.call 117 [36]),
sg 4 37])
(.seq
(.r [2, 50] [
mv 38 3,
vo 39 (.len false 25 38),
vo 40 (.conv 3 5 .u8 39),
vo 41 (.lit 25 5 1 1 [(.val (.int .u8 0))] [(0, 40)]),
mv 42 3,
vo 43 (.app 25 5 1 1 41 42),
mv 44 4,
vo 45 (.bin false .shr 2 44 (.c (.int .u64 8))),
vo 46 (.conv 2 5 .u8 45),
mv 47 4,
vo 48 (.conv 2 5 .u8 47),
vo 49 (.lit 25 5 1 2 [(.val (.int .u8 0))] [(0, 46), (1, 48)]),
vo 50 (.app 25 5 1 1 43 49),
sg 2 50])
.ret)))))
modes := [.lend]
rets := [⟨2, none⟩] }

def v64 : VFun := {
code :=
(.seq
(.r [1] [
vo 1 (.box 29 0),
vo 2 (.asg (k64 0))])
(.seq
(.r [1, 3] [
vo 5 (.fa 29 0 0 1 1),
ld 6 2 5,
vo 7 (.bin false .eql 2 6 (k64 1)),
mv 8 7,
⟨some 9, .fa 29 0 0 1 1, some (8, false), []⟩,
⟨some 10, .load 2 false 1 9, some (8, false), []⟩,
⟨some 11, .bin false .eql 2 10 (k64 5), some (8, false), []⟩,
vo 12 (.pick 8 (.c (.bool true)) 11),
sg 3 12])
(.seq
(.r [1, 3, 4] [
mv 13 3,
mv 14 13,
⟨some 15, .fa 29 0 0 1 1, some (14, false), []⟩,
⟨some 16, .load 2 false 1 15, some (14, false), []⟩,
⟨some 17, .bin false .eql 2 16 (k64 2), some (14, false), []⟩,
vo 18 (.pick 14 (.c (.bool true)) 17),
sg 4 18])
(.seq
(.block 0
(.seq
(.r [1, 3, 19] [
vo 20 (.fa 29 0 0 1 1),
ld 21 2 20,
vo 22 (.call 93 [21, (k64 1), (k64 5)]),
vo 23 (.un .not 22),
mv 24 23,
⟨some 25, .mov 3, some (24, false), []⟩,
⟨some 26, .un .not 25, some (24, false), []⟩,
⟨some 27, .mov 26, some (24, false), []⟩,
⟨some 28, .fa 29 1 1 1 1, some (27, true), []⟩,
⟨some 29, .load 9 false 1 28, some (27, true), []⟩,
⟨some 30, .bin false .neq 9 29 (.c (.string (⟨#[]⟩ : ByteArray))), some (27, true), []⟩,
⟨some 31, .pick 27 30 (.c (.bool false)), some (24, false), []⟩,
vo 32 (.pick 24 (.c (.bool true)) 31),
mv 33 32,
⟨some 34, .mov 3, some (33, false), []⟩,
⟨some 35, .mov 34, some (33, false), []⟩,
⟨some 36, .fa 29 2 2 1 1, some (35, true), []⟩,
⟨some 37, .load 2 false 1 36, some (35, true), []⟩,
⟨some 38, .bin false .neq 2 37 (k64 0), some (35, true), []⟩,
⟨some 39, .pick 35 38 (.c (.bool false)), some (33, false), []⟩,
vo 40 (.pick 33 (.c (.bool true)) 39),
mv 41 40,
⟨some 42, .mov 4, some (41, false), []⟩,
⟨some 43, .un .not 42, some (41, false), []⟩,
⟨some 44, .mov 43, some (41, false), []⟩,
⟨some 45, .fa 29 3 3 1 1, some (44, true), []⟩,
⟨some 46, .load 2 false 1 45, some (44, true), []⟩,
⟨some 47, .bin false .neq 2 46 (k64 0), some (44, true), []⟩,
⟨some 48, .pick 44 47 (.c (.bool false)), some (41, false), []⟩,
vo 49 (.pick 41 (.c (.bool true)) 48),
sg 19 49])
(.cond 19
(.seq
(.r [2] [
vo 2 (.asg (k64 1))])
.ret)
(.seq
(.r [1, 3, 50] [
mv 51 3,
mv 52 51,
⟨some 53, .fa 29 1 1 1 1, some (52, true), []⟩,
⟨some 54, .load 9 false 1 53, some (52, true), []⟩,
⟨some 55, .call 118 [54], some (52, true), []⟩,
⟨some 56, .un .not 55, some (52, true), []⟩,
vo 57 (.pick 52 56 (.c (.bool false))),
sg 50 57])
(.cond 50
(.seq
(.r [2] [
vo 2 (.asg (k64 5))])
.ret)
(.seq
(.r [58] [
vo 59 (.fa 29 2 2 1 1),
ld 60 2 59,
vo 61 (.call 119 [60]),
vo 62 (.un .not 61),
mv 63 62,
⟨some 64, .fa 29 3 3 1 1, some (63, false), []⟩,
⟨some 65, .load 2 false 1 64, some (63, false), []⟩,
⟨some 66, .call 79 [65], some (63, false), []⟩,
⟨some 67, .un .not 66, some (63, false), []⟩,
vo 68 (.pick 63 (.c (.bool true)) 67),
mv 69 68,
⟨some 70, .mov 3, some (69, false), []⟩,
⟨some 71, .mov 70, some (69, false), []⟩,
⟨some 72, .fa 29 3 3 1 1, some (71, true), []⟩,
⟨some 73, .load 2 false 1 72, some (71, true), []⟩,
⟨some 74, .bin false .eql 2 73 (k64 0), some (71, true), []⟩,
⟨some 75, .pick 71 74 (.c (.bool false)), some (69, false), []⟩,
vo 76 (.pick 69 (.c (.bool true)) 75),
mv 77 76,
⟨some 78, .fa 29 0 0 1 1, some (77, false), []⟩,
⟨some 79, .load 2 false 1 78, some (77, false), []⟩,
⟨some 80, .bin false .eql 2 79 (k64 1), some (77, false), []⟩,
⟨some 81, .mov 80, some (77, false), []⟩,
⟨some 82, .fa 29 3 3 1 1, some (81, true), []⟩,
⟨some 83, .load 2 false 1 82, some (81, true), []⟩,
⟨some 84, .bin false .gtr 2 83 (k64 9999), some (81, true), []⟩,
⟨some 85, .pick 81 84 (.c (.bool false)), some (77, false), []⟩,
vo 86 (.pick 77 (.c (.bool true)) 85),
sg 58 86])
(.cond 58
(.seq
(.r [2] [
vo 2 (.asg (k64 3))])
.ret)
.skip)))))))
(.seq
(.r [2] [
vo 2 (.asg (k64 0))])
.ret)))))
modes := [.lend]
rets := [⟨2, none⟩] }

def v65 : VFun := {
code :=
(.seq
(.r [1] [
vo 1 (.box 29 0),
vo 2 (.asg (.n 1))])
(.seq
(.region true [3, 22] [
vo 4 (.fa 29 0 0 1 1),
ld 5 2 4,
vo 6 (.conv 2 5 .u8 5),
⟨some 7, .fa 29 1 1 1 1, none, [0, 1, 2]⟩,
⟨some 8, .load 9 false 1 7, none, [0, 1, 2]⟩,
⟨some 9, .len true 9 8, none, [0, 1, 2]⟩,
⟨some 10, .conv 3 5 .u8 9, none, [0, 1, 2]⟩,
vo 11 (.lit 25 5 1 2 [(.val (.int .u8 0))] [(0, 6), (1, 10)]),
⟨some 12, .fa 29 1 1 1 1, none, [0, 1, 2, 3, 4, 5, 6, 7]⟩,
⟨some 13, .load 9 false 1 12, none, [0, 1, 2, 3, 4, 5, 6, 7]⟩,
⟨some 14, .s2b 9 25 13, none, [0, 1, 2, 3, 4, 5, 6, 7]⟩,
⟨some 15, .fa 29 2 2 1 1, none, [0, 1, 2, 3, 4, 5, 6, 7, 8, 9, 10]⟩,
⟨some 16, .load 2 false 1 15, none, [0, 1, 2, 3, 4, 5, 6, 7, 8, 9, 10]⟩,
⟨some 17, .call 120 [16, (k64 4)], none, [0, 1, 2, 3, 4, 5, 6, 7, 8, 9, 10]⟩,
⟨some 18, .fa 29 3 3 1 1, none, [0, 1, 2, 3, 4, 5, 6, 7, 8, 9, 10, 11, 12, 13]⟩,
⟨some 19, .load 2 false 1 18, none, [0, 1, 2, 3, 4, 5, 6, 7, 8, 9, 10, 11, 12, 13]⟩,
⟨some 20, .call 120 [19, (k64 4)], none, [0, 1, 2, 3, 4, 5, 6, 7, 8, 9, 10]⟩,
vo 21 (.lit 151 25 1 4 [(.nl 1)] [(0, 11), (1, 14), (2, 17), (3, 20)]),
vo 22 (.call 71 [21]),
sg 3 22])
(.seq
(.r [2, 33] [
mv 23 3,
vo 24 (.len false 25 23),
vo 25 (.conv 3 5 .u8 24),
vo 26 (.lit 25 5 1 1 [(.val (.int .u8 0))] [(0, 25)]),
mv 27 3,
mv 28 3,
vo 29 (.call 121 [28]),
vo 30 (.bin false .rem 2 29 (k64 65536)),
vo 31 (.call 120 [30, (k64 2)]),
vo 32 (.lit 151 25 1 3 [(.nl 1)] [(0, 26), (1, 27), (2, 31)]),
vo 33 (.call 71 [32]),
sg 2 33])
.ret)))
modes := [.lend]
rets := [⟨2, none⟩] }

def b71_1 : VC :=
(.seq
(.r [6, 24, 25, 26, 27, 28, 33] [
vo 28 (.bin false .lss 3 27 26)])
(.seq
(.cond 28
.skip
(.exit 2))
(.seq
(.block 3
(.seq
(.r [6, 8, 24, 25, 26, 27, 33] [
vo 29 (.ia 151 25 1 25 27),
ld 30 25 29,
sg 8 30])
(.r [6, 24, 25, 26, 27, 33] [
mv 31 6,
mv 32 8,
vo 33 (.app 25 5 1 1 31 32),
sg 6 33])))
(.r [6, 24, 25, 26, 27, 33] [
vo 34 (.bin false .add 3 27 (k64 1)),
mv 27 34]))))
def l71_1 : VC := .loop b71_1
def b71_0 : VC :=
(.seq
(.r [0, 3, 9, 10, 11, 12] [
vo 12 (.bin false .lss 3 11 10)])
(.seq
(.cond 12
.skip
(.exit 0))
(.seq
(.block 1
(.seq
(.r [0, 3, 5, 9, 10, 11] [
vo 13 (.ia 151 25 1 9 11),
ld 14 25 13,
sg 5 14])
(.seq
(.r [0, 3, 9, 10, 11] [
mv 15 3,
mv 16 5,
vo 17 (.len false 25 16),
vo 18 (.bin false .add 3 15 17),
sg 3 18])
(.seq
(.r [0, 3, 9, 10, 11, 20] [
mv 19 3,
vo 20 (.bin false .lss 3 19 (k64 0))])
(.cond 20
.any
.skip)))))
(.r [0, 3, 9, 10, 11] [
vo 22 (.bin false .add 3 11 (k64 1)),
mv 11 22]))))
def l71_0 : VC := .loop b71_0
def v71 : VFun := {
code :=
(.seq
(.r [0] [
vo 2 (.asg (.n 1))])
(.seq
(.r [0, 3] [
vo 3 (.asg (k64 0))])
(.seq
(.seq
(.r [0, 3, 9, 10, 11] [
mv 9 0,
vo 10 (.len false 151 9),
vo 11 (.mov (k64 0))])
(.block 0
l71_0))
(.seq
(.r [0, 6, 24, 33] [
mv 23 3,
vo 24 (.call 123 [(.n 1), 23]),
sg 6 24])
(.seq
(.seq
(.r [6, 24, 25, 26, 27, 33] [
mv 25 0,
vo 26 (.len false 151 25),
vo 27 (.mov (k64 0))])
(.block 2
l71_1))
(.seq
(.r [2, 6, 24, 33] [
mv 35 6,
sg 2 35])
.ret))))))
modes := [.lend]
rets := [⟨2, none⟩] }

def v75 : VFun := {
code :=
(.seq
(.r [0] [
vo 2 (.asg (.c (.bool false)))])
(.seq
(.r [2] [
mv 3 0,
vo 4 (.call 113 [3, (k64 0), (k64 1000000)]),
sg 2 4])
.ret))
modes := [.lend]
rets := [⟨2, none⟩] }

def v79 : VFun := {
code :=
(.seq
(.r [0] [
vo 2 (.asg (.c (.bool false)))])
(.seq
(.r [2] [
mv 3 0,
vo 4 (.call 93 [3, (k64 0), (k64 1000000)]),
sg 2 4])
.ret))
modes := [.lend]
rets := [⟨2, none⟩] }

def b82_0 : VC :=
(.seq
(.seq
(.r [0, 3, 7] [
mv 6 0,
vo 7 (.bin false .gtr 3 6 (k64 0))])
(.cond 7
.skip
(.exit 0)))
(.block 1
(.seq
(.r [0, 3] [
mv 8 0,
vo 9 (.bin false .rem 3 8 (k64 10)),
vo 10 (.bin false .add 3 (k64 48) 9),
vo 11 (.conv 3 5 .u8 10),
vo 12 (.lit 25 5 1 1 [(.val (.int .u8 0))] [(0, 11)]),
vo 13 (.b2s 25 9 12),
mv 14 3,
vo 15 (.bin false .add 9 13 14),
sg 3 15])
(.r [0, 3] [
mv 16 0,
vo 17 (.bin false .quo 3 16 (k64 10)),
sg 0 17]))))
def l82_0 : VC := .loop b82_0
def v82 : VFun := {
code :=
(.seq
(.r [0] [
vo 2 (.asg (.c (.string (⟨#[]⟩ : ByteArray))))])
(.seq
(.seq
(.r [0, 5] [
mv 4 0,
vo 5 (.bin false .leq 3 4 (k64 0))])
(.cond 5
(.seq
(.r [2] [
vo 2 (.asg (.c (.string (⟨#[109, 48]⟩ : ByteArray))))])
.ret)
.skip))
(.seq
(.r [0, 3] [
vo 3 (.asg (.c (.string (⟨#[]⟩ : ByteArray))))])
(.seq
(.block 0
l82_0)
(.seq
(.r [2] [
mv 18 3,
vo 19 (.bin false .add 9 (.c (.string (⟨#[109]⟩ : ByteArray))) 18),
sg 2 19])
.ret)))))
modes := [.lend]
rets := [⟨2, none⟩] }

def b84_0 : VC :=
(.block 1
(.seq
(.r [0, 4, 5, 6, 7, 8, 23] [
mv 10 0,
mv 11 5,
vo 12 (.cut 25 (some 5) 1 10 (some 11) none),
vo 13 (.call 131 [12]),
mv 9 13,
vo 14 (.ext 9 0),
vo 15 (.ext 9 1),
vo 6 (.alloc 29 [z64, (.val (.string (⟨#[]⟩ : ByteArray))), z64, z64]),
vn (.store 29 4 6 14),
sg 7 15])
(.seq
(.seq
(.r [0, 4, 5, 6, 8, 17, 23] [
mv 16 7,
vo 17 (.un .not 16)])
(.cond 17
(.seq
(.r [2, 3, 4, 8, 23] [
mv 18 4,
mv 19 5,
sg 2 18,
sg 3 19])
.ret)
.skip))
(.seq
(.r [0, 4, 5, 6, 8, 23] [
mv 20 4,
vo 21 (.load 29 true 4 6),
vo 22 (.lit 59 29 4 1 [z64, (.val (.string (⟨#[]⟩ : ByteArray))), z64, z64] [(0, 21)]),
vo 23 (.app 59 29 4 40 20 22),
sg 4 23])
(.r [0, 4, 5, 8, 23] [
mv 24 5,
vo 25 (.call 63 [6]),
vo 26 (.len false 25 25),
vo 27 (.bin false .add 3 24 26),
sg 5 27])))))
def l84_0 : VC := .loop b84_0
def v84 : VFun := {
code :=
(.seq
(.r [0] [
vo 2 (.asg (.n 4)),
vo 3 (.asg (k64 0))])
(.seq
(.r [0, 4, 8, 23] [
vo 8 (.lit 59 29 4 0 [z64, (.val (.string (⟨#[]⟩ : ByteArray))), z64, z64] []),
sg 4 8])
(.seq
(.r [0, 4, 5, 8, 23] [
vo 5 (.asg (k64 0))])
(.block 0
l84_0))))
modes := [.lend]
rets := [⟨2, none⟩, ⟨3, none⟩] }

def v85 : VFun := {
code :=
(.seq
(.r [0, 2] [
vo 2 (.alloc 29 [z64, (.val (.string (⟨#[]⟩ : ByteArray))), z64, z64]),
vo 3 (.asg (k64 0)),
vo 4 (.asg (.c (.bool false)))])
(.seq
(.seq
(.r [0, 2, 12] [
mv 10 0,
vo 11 (.len false 25 10),
vo 12 (.bin false .eql 3 11 (k64 0))])
(.cond 12
(.seq
(.r [2, 3, 4] [
vo 13 (.build 29 [z64, (.val (.string (⟨#[]⟩ : ByteArray))), z64, z64] []),
vn (.store 29 4 2 13),
vo 3 (.asg (k64 0)),
vo 4 (.asg (.c (.bool false)))])
.ret)
.skip))
(.seq
(.r [0, 2, 5] [
mv 14 0,
vo 15 (.ia 25 5 1 14 (k64 0)),
ld 16 5 15,
vo 17 (.conv 5 3 .i64 16),
sg 5 17])
(.seq
(.seq
(.r [0, 2, 5, 27] [
mv 18 0,
vo 19 (.len false 25 18),
mv 20 5,
vo 21 (.bin false .add 3 (k64 1) 20),
vo 22 (.bin false .add 3 21 (k64 2)),
vo 23 (.bin false .lss 3 19 22),
mv 24 23,
⟨some 25, .mov 5, some (24, false), []⟩,
⟨some 26, .bin false .lss 3 25 (k64 10), some (24, false), []⟩,
vo 27 (.pick 24 (.c (.bool true)) 26)])
(.cond 27
(.seq
(.r [2, 3, 4] [
vo 28 (.build 29 [z64, (.val (.string (⟨#[]⟩ : ByteArray))), z64, z64] []),
vn (.store 29 4 2 28),
vo 3 (.asg (k64 0)),
vo 4 (.asg (.c (.bool false)))])
.ret)
.skip))
(.seq
(.region true [2, 5, 6, 7] [
mv 29 0,
⟨some 30, .mov 5, none, [0]⟩,
⟨some 31, .bin false .add 3 (k64 1) 30, none, [0]⟩,
⟨some 32, .bin false .add 3 31 (k64 2), none, [0]⟩,
vo 33 (.cut 25 (some 5) 1 29 none (some 32)),
⟨some 34, .mov 0, none, [0, 1, 2, 3, 4]⟩,
⟨some 35, .mov 5, none, [0, 1, 2, 3, 4, 5]⟩,
⟨some 36, .bin false .add 3 (k64 1) 35, none, [0, 1, 2, 3, 4, 5]⟩,
⟨some 37, .cut 25 (some 5) 1 34 (some (k64 1)) (some 36), none, [0, 1, 2, 3, 4]⟩,
⟨some 6, .asg 33, none, [5, 6, 7, 8]⟩,
sg 7 37])
(.seq
(.r [2, 5, 6, 7, 8] [
mv 38 7,
vo 39 (.ia 25 5 1 38 (k64 1)),
ld 40 5 39,
vo 41 (.conv 5 3 .i64 40),
vo 42 (.bin false .add 3 (k64 2) 41),
sg 8 42])
(.seq
(.seq
(.r [2, 6, 7, 8, 46] [
mv 43 5,
mv 44 8,
vo 45 (.bin false .add 3 44 (k64 8)),
vo 46 (.bin false .neq 3 43 45)])
(.cond 46
(.seq
(.r [2, 3, 4] [
vo 47 (.build 29 [z64, (.val (.string (⟨#[]⟩ : ByteArray))), z64, z64] []),
vn (.store 29 4 2 47),
vo 3 (.asg (k64 0)),
vo 4 (.asg (.c (.bool false)))])
.ret)
.skip))
(.seq
(.region true [2, 6, 9] [
mv 48 7,
vo 49 (.ia 25 5 1 48 (k64 0)),
ld 50 5 49,
vo 51 (.conv 5 2 .i64 50),
⟨some 52, .mov 7, none, [0, 1, 2, 3]⟩,
⟨some 53, .mov 8, none, [0, 1, 2, 3, 4]⟩,
⟨some 54, .cut 25 (some 5) 1 52 (some (k64 2)) (some 53), none, [0, 1, 2, 3]⟩,
⟨some 55, .b2s 25 9 54, none, [0, 1, 2, 3]⟩,
⟨some 56, .mov 7, none, [0, 1, 2, 3, 4, 5, 6, 7]⟩,
⟨some 57, .mov 8, none, [0, 1, 2, 3, 4, 5, 6, 7, 8]⟩,
⟨some 58, .mov 8, none, [0, 1, 2, 3, 4, 5, 6, 7, 8, 9]⟩,
⟨some 59, .bin false .add 3 58 (k64 4), none, [0, 1, 2, 3, 4, 5, 6, 7, 8, 9]⟩,
⟨some 60, .cut 25 (some 5) 1 56 (some 57) (some 59), none, [0, 1, 2, 3, 4, 5, 6, 7]⟩,
⟨some 61, .call 132 [60], none, [0, 1, 2, 3, 4, 5, 6, 7]⟩,
⟨some 62, .mov 7, none, [0, 1, 2, 3, 4, 5, 6, 7, 8, 9, 10, 11, 12, 13]⟩,
⟨some 63, .mov 8, none, [0, 1, 2, 3, 4, 5, 6, 7, 8, 9, 10, 11, 12, 13, 14]⟩,
⟨some 64, .bin false .add 3 63 (k64 4), none, [0, 1, 2, 3, 4, 5, 6, 7, 8, 9, 10, 11, 12, 13, 14]⟩,
⟨some 65, .cut 25 (some 5) 1 62 (some 64) none, none, [0, 1, 2, 3, 4, 5, 6, 7, 8, 9, 10, 11, 12, 13]⟩,
⟨some 66, .call 132 [65], none, [0, 1, 2, 3, 4, 5, 6, 7]⟩,
vo 67 (.build 29 [z64, (.val (.string (⟨#[]⟩ : ByteArray))), z64, z64] [(0, 0, 1, 51), (1, 1, 1, 55), (2, 2, 1, 61), (3, 3, 1, 66)]),
⟨some 9, .alloc 29 [z64, (.val (.string (⟨#[]⟩ : ByteArray))), z64, z64], none, [0, 1, 2, 3, 4, 5, 6, 7, 8, 9, 10, 11, 12, 13, 14, 15, 16, 17, 18, 19]⟩,
vn (.store 29 4 9 67)])
(.seq
(.seq
(.r [2, 6, 9, 77] [
vo 68 (.load 29 true 4 9),
vo 69 (.call 64 [68]),
vo 70 (.bin false .neq 2 69 (k64 0)),
mv 71 70,
⟨some 72, .load 29 true 4 9, some (71, false), []⟩,
⟨some 73, .call 65 [72], some (71, false), []⟩,
⟨some 74, .mov 6, some (71, false), []⟩,
⟨some 75, .call 133 [73, 74], some (71, false), []⟩,
⟨some 76, .un .not 75, some (71, false), []⟩,
vo 77 (.pick 71 (.c (.bool true)) 76)])
(.cond 77
(.seq
(.r [2, 3, 4] [
vo 78 (.build 29 [z64, (.val (.string (⟨#[]⟩ : ByteArray))), z64, z64] []),
vn (.store 29 4 2 78),
vo 3 (.asg (k64 0)),
vo 4 (.asg (.c (.bool false)))])
.ret)
.skip))
(.seq
(.r [2, 3, 4] [
vo 79 (.load 29 true 4 9),
mv 80 6,
vo 81 (.len false 25 80),
vn (.store 29 4 2 79),
sg 3 81,
vo 4 (.asg (.c (.bool true)))])
.ret))))))))))
modes := [.lend]
rets := [⟨2, some (true, 4)⟩, ⟨3, none⟩, ⟨4, none⟩] }

def b86_0 : VC :=
(.seq
(.seq
(.r [0, 1, 5, 14] [
mv 11 5,
mv 12 0,
vo 13 (.len false 59 12),
vo 14 (.bin false .lss 3 11 13)])
(.cond 14
.skip
(.exit 0)))
(.seq
(.block 1
(.seq
(.region true [0, 1, 5, 26] [
mv 17 0,
⟨some 18, .mov 5, none, [0]⟩,
vo 19 (.ia 59 29 4 17 18),
vo 20 (.load 29 true 4 19),
⟨some 21, .mov 1, none, [0, 1, 2, 3]⟩,
⟨some 22, .mov 5, none, [0, 1, 2, 3, 4]⟩,
⟨some 23, .ia 59 29 4 21 22, none, [0, 1, 2, 3]⟩,
⟨some 24, .load 29 true 4 23, none, [0, 1, 2, 3]⟩,
vo 25 (.call 134 [20, 24]),
vo 26 (.un .not 25)])
(.cond 26
(.seq
(.r [4] [
vo 4 (.asg (.c (.bool false)))])
.ret)
.skip)))
(.r [0, 1, 5] [
mv 15 5,
vo 16 (.bin false .add 3 15 (k64 1)),
sg 5 16])))
def l86_0 : VC := .loop b86_0
def v86 : VFun := {
code :=
(.seq
(.r [0, 1] [
vo 4 (.asg (.c (.bool false)))])
(.seq
(.seq
(.r [0, 1, 10] [
mv 6 0,
vo 7 (.len false 59 6),
mv 8 1,
vo 9 (.len false 59 8),
vo 10 (.bin false .neq 3 7 9)])
(.cond 10
(.seq
(.r [4] [
vo 4 (.asg (.c (.bool false)))])
.ret)
.skip))
(.seq
(.seq
(.r [0, 1, 5] [
vo 5 (.asg (k64 0))])
(.block 0
l86_0))
(.seq
(.r [4] [
vo 4 (.asg (.c (.bool true)))])
.ret))))
modes := [.lend, .lend]
rets := [⟨4, none⟩] }

def b87_0 : VC :=
(.seq
(.seq
(.r [0, 1, 5, 9] [
mv 6 5,
mv 7 0,
vo 8 (.len false 59 7),
vo 9 (.bin false .lss 3 6 8)])
(.cond 9
.skip
(.exit 0)))
(.seq
(.block 1
(.seq
(.r [0, 1, 5] [
mv 12 0,
mv 13 5,
mv 14 1,
vo 15 (.ia 59 29 4 12 13),
vo 16 (.fa 29 0 0 1 15),
vn (.store 2 1 16 14)])
(.seq
(.r [0, 1, 5] [
mv 17 1,
vo 18 (.bin false .add 3 17 (k64 1)),
sg 1 18])
(.seq
(.r [0, 1, 5] [
mv 19 0,
mv 20 5,
mv 21 1,
vo 22 (.call 82 [21]),
vo 23 (.ia 59 29 4 19 20),
vo 24 (.fa 29 1 1 1 23),
vn (.store 9 1 24 22)])
(.seq
(.r [0, 1, 5] [
mv 25 1,
vo 26 (.bin false .add 3 25 (k64 1)),
sg 1 26])
(.seq
(.r [0, 1, 5] [
mv 27 0,
mv 28 5,
mv 29 1,
vo 30 (.ia 59 29 4 27 28),
vo 31 (.fa 29 2 2 1 30),
vn (.store 2 1 31 29)])
(.seq
(.r [0, 1, 5] [
mv 32 1,
vo 33 (.bin false .add 3 32 (k64 1)),
sg 1 33])
(.seq
(.r [0, 1, 5] [
mv 34 0,
mv 35 5,
mv 36 1,
vo 37 (.ia 59 29 4 34 35),
vo 38 (.fa 29 3 3 1 37),
vn (.store 2 1 38 36)])
(.r [0, 1, 5] [
mv 39 1,
vo 40 (.bin false .add 3 39 (k64 1)),
sg 1 40])))))))))
(.r [0, 1, 5] [
mv 10 5,
vo 11 (.bin false .add 3 10 (k64 1)),
sg 5 11])))
def l87_0 : VC := .loop b87_0
def v87 : VFun := {
code :=
(.seq
(.r [0, 1] [
vo 4 (.asg (k64 0))])
(.seq
(.seq
(.r [0, 1, 5] [
vo 5 (.asg (k64 0))])
(.block 0
l87_0))
(.seq
(.r [0, 4] [
mv 41 1,
sg 4 41])
.ret)))
modes := [.io, .lend]
rets := [⟨4, none⟩] }

def b88_0 : VC :=
(.seq
(.seq
(.r [0, 1, 5, 9] [
mv 6 5,
mv 7 0,
vo 8 (.len false 59 7),
vo 9 (.bin false .lss 3 6 8)])
(.cond 9
.skip
(.exit 0)))
(.seq
(.block 1
(.seq
(.seq
(.r [0, 1, 5, 18] [
mv 12 0,
mv 13 5,
vo 14 (.ia 59 29 4 12 13),
vo 15 (.fa 29 0 0 1 14),
ld 16 2 15,
mv 17 1,
vo 18 (.bin false .neq 2 16 17)])
(.cond 18
(.seq
(.r [4] [
vo 4 (.asg (k64 (-1)))])
.ret)
.skip))
(.seq
(.r [0, 1, 5] [
mv 19 1,
vo 20 (.bin false .add 3 19 (k64 1)),
sg 1 20])
(.seq
(.seq
(.region true [0, 1, 5, 28] [
mv 21 0,
⟨some 22, .mov 5, none, [0]⟩,
vo 23 (.ia 59 29 4 21 22),
vo 24 (.fa 29 1 1 1 23),
ld 25 9 24,
⟨some 26, .mov 1, none, [0, 1, 2, 3, 4]⟩,
⟨some 27, .call 82 [26], none, [0, 1, 2, 3, 4]⟩,
vo 28 (.bin false .neq 9 25 27)])
(.cond 28
(.seq
(.r [4] [
vo 4 (.asg (k64 (-1)))])
.ret)
.skip))
(.seq
(.r [0, 1, 5] [
mv 29 1,
vo 30 (.bin false .add 3 29 (k64 1)),
sg 1 30])
(.seq
(.seq
(.r [0, 1, 5, 37] [
mv 31 0,
mv 32 5,
vo 33 (.ia 59 29 4 31 32),
vo 34 (.fa 29 2 2 1 33),
ld 35 2 34,
mv 36 1,
vo 37 (.bin false .neq 2 35 36)])
(.cond 37
(.seq
(.r [4] [
vo 4 (.asg (k64 (-1)))])
.ret)
.skip))
(.seq
(.r [0, 1, 5] [
mv 38 1,
vo 39 (.bin false .add 3 38 (k64 1)),
sg 1 39])
(.seq
(.seq
(.r [0, 1, 5, 46] [
mv 40 0,
mv 41 5,
vo 42 (.ia 59 29 4 40 41),
vo 43 (.fa 29 3 3 1 42),
ld 44 2 43,
mv 45 1,
vo 46 (.bin false .neq 2 44 45)])
(.cond 46
(.seq
(.r [4] [
vo 4 (.asg (k64 (-1)))])
.ret)
.skip))
(.r [0, 1, 5] [
mv 47 1,
vo 48 (.bin false .add 3 47 (k64 1)),
sg 1 48])))))))))
(.r [0, 1, 5] [
mv 10 5,
vo 11 (.bin false .add 3 10 (k64 1)),
sg 5 11])))
def l88_0 : VC := .loop b88_0
def v88 : VFun := {
code :=
(.seq
(.r [0, 1] [
vo 4 (.asg (k64 0))])
(.seq
(.seq
(.r [0, 1, 5] [
vo 5 (.asg (k64 0))])
(.block 0
l88_0))
(.seq
(.r [4] [
mv 49 1,
sg 4 49])
.ret)))
modes := [.lend, .lend]
rets := [⟨4, none⟩] }

def v93 : VFun := {
code :=
(.seq
(.r [0, 1, 2] [
vo 6 (.asg (.c (.bool false)))])
(.seq
(.r [6] [
mv 7 0,
mv 8 1,
vo 9 (.bin false .geq 2 7 8),
mv 10 9,
⟨some 11, .mov 0, some (10, true), []⟩,
⟨some 12, .mov 2, some (10, true), []⟩,
⟨some 13, .bin false .leq 2 11 12, some (10, true), []⟩,
vo 14 (.pick 10 13 (.c (.bool false))),
sg 6 14])
.ret))
modes := [.lend, .lend, .lend]
rets := [⟨6, none⟩] }

def v112 : VFun := {
code :=
(.seq
(.r [0] [
vo 2 (.asg (.c (.bool false))),
vo 3 (.asg (.c (.bool false))),
vo 4 (.asg (.c (.bool false)))])
(.seq
(.r [0, 5] [
mv 6 0,
vo 7 (.bin false .eql 2 6 (k64 1)),
mv 8 7,
⟨some 9, .mov 0, some (8, false), []⟩,
⟨some 10, .bin false .eql 2 9 (k64 5), some (8, false), []⟩,
vo 11 (.pick 8 (.c (.bool true)) 10),
sg 5 11])
(.seq
(.r [2, 3, 4] [
mv 12 5,
mv 13 5,
vo 14 (.un .not 13),
mv 15 5,
mv 16 15,
⟨some 17, .mov 0, some (16, false), []⟩,
⟨some 18, .bin false .eql 2 17 (k64 2), some (16, false), []⟩,
vo 19 (.pick 16 (.c (.bool true)) 18),
sg 2 12,
sg 3 14,
sg 4 19])
.ret)))
modes := [.lend]
rets := [⟨2, none⟩, ⟨3, none⟩, ⟨4, none⟩] }

def v113 : VFun := {
code :=
(.seq
(.r [0, 1, 2] [
vo 6 (.asg (.c (.bool false)))])
(.seq
(.r [6] [
mv 7 0,
mv 8 1,
vo 9 (.bin false .geq 2 7 8),
mv 10 9,
⟨some 11, .mov 0, some (10, true), []⟩,
⟨some 12, .mov 2, some (10, true), []⟩,
⟨some 13, .bin false .leq 2 11 12, some (10, true), []⟩,
vo 14 (.pick 10 13 (.c (.bool false))),
sg 6 14])
.ret))
modes := [.lend, .lend, .lend]
rets := [⟨6, none⟩] }

def b114_0 : VC :=
(.seq
(.seq
(.r [0, 3, 7] [
mv 4 3,
mv 5 0,
vo 6 (.len true 9 5),
vo 7 (.bin false .lss 3 4 6)])
(.cond 7
.skip
(.exit 0)))
(.seq
(.block 1
(.seq
(.r [0, 3, 14] [
mv 10 0,
mv 11 3,
vo 12 (.idx 9 10 11),
vo 13 (.call 148 [12]),
vo 14 (.un .not 13)])
(.cond 14
(.seq
(.r [2] [
vo 2 (.asg (.c (.bool false)))])
.ret)
.skip)))
(.r [0, 3] [
mv 8 3,
vo 9 (.bin false .add 3 8 (k64 1)),
sg 3 9])))
def l114_0 : VC := .loop b114_0
def v114 : VFun := {
code :=
(.seq
(.r [0] [
vo 2 (.asg (.c (.bool false)))])
(.seq
(.seq
(.r [0, 3] [
vo 3 (.asg (k64 0))])
(.block 0
l114_0))
(.seq
(.r [2] [
mv 15 0,
vo 16 (.len true 9 15),
vo 17 (.bin false .leq 3 16 (k64 12)),
sg 2 17])
.ret)))
modes := [.lend]
rets := [⟨2, none⟩] }

def v115 : VFun := {
code :=
(.seq
(.r [0] [
vo 2 (.asg (.c (.bool false)))])
(.seq
(.r [2] [
mv 3 0,
vo 4 (.call 113 [3, (k64 0), (k64 2147483646)]),
sg 2 4])
.ret))
modes := [.lend]
rets := [⟨2, none⟩] }

def v116 : VFun := {
code :=
(.seq
(.r [0] [
vo 2 (.asg (.n 1))])
(.seq
(.r [2, 14] [
mv 3 0,
vo 4 (.bin false .shr 2 3 (.c (.int .u64 24))),
vo 5 (.conv 2 5 .u8 4),
mv 6 0,
vo 7 (.bin false .shr 2 6 (.c (.int .u64 16))),
vo 8 (.conv 2 5 .u8 7),
mv 9 0,
vo 10 (.bin false .shr 2 9 (.c (.int .u64 8))),
vo 11 (.conv 2 5 .u8 10),
mv 12 0,
vo 13 (.conv 2 5 .u8 12),
vo 14 (.lit 25 5 1 4 [(.val (.int .u8 0))] [(0, 5), (1, 8), (2, 11), (3, 13)]),
sg 2 14])
.ret))
modes := [.lend]
rets := [⟨2, none⟩] }

def b117_0 : VC :=
(.seq
(.seq
(.r [0, 3, 4, 8] [
mv 5 4,
mv 6 0,
vo 7 (.len false 25 6),
vo 8 (.bin false .lss 3 5 7)])
(.cond 8
.skip
(.exit 0)))
(.seq
(.block 1
(.r [0, 3, 4] [
mv 11 3,
vo 12 (.bin false .mul 2 11 (k64 33)),
mv 13 0,
mv 14 4,
vo 15 (.ia 25 5 1 13 14),
ld 16 5 15,
vo 17 (.conv 5 2 .i64 16),
vo 18 (.bin false .add 2 12 17),
vo 19 (.bin false .add 2 18 (k64 1)),
vo 20 (.bin false .rem 2 19 (k64 2147483647)),
sg 3 20]))
(.r [0, 3, 4] [
mv 9 4,
vo 10 (.bin false .add 3 9 (k64 1)),
sg 4 10])))
def l117_0 : VC := .loop b117_0
def v117 : VFun := {
code :=
(.seq
(.r [0] [
vo 2 (.asg (k64 0))])
(.seq
(.r [0, 3] [
vo 3 (.asg (k64 5381))])
(.seq
(.seq
(.r [0, 3, 4] [
vo 4 (.asg (k64 0))])
(.block 0
l117_0))
(.seq
(.r [2] [
mv 21 3,
sg 2 21])
.ret))))
modes := [.lend]
rets := [⟨2, none⟩] }

def v118 : VFun := {
code :=
(.seq
(.r [0] [
vo 2 (.asg (.c (.bool false)))])
(.seq
(.r [2] [
mv 3 0,
vo 4 (.bin false .neq 9 3 (.c (.string (⟨#[]⟩ : ByteArray)))),
mv 5 4,
⟨some 6, .mov 0, some (5, true), []⟩,
⟨some 7, .call 149 [6], some (5, true), []⟩,
vo 8 (.pick 5 7 (.c (.bool false))),
sg 2 8])
.ret))
modes := [.lend]
rets := [⟨2, none⟩] }

def v119 : VFun := {
code :=
(.seq
(.r [0] [
vo 2 (.asg (.c (.bool false)))])
(.seq
(.r [2] [
mv 3 0,
vo 4 (.call 93 [3, (k64 0), (k64 2147483646)]),
sg 2 4])
.ret))
modes := [.lend]
rets := [⟨2, none⟩] }

def b120_0 : VC :=
(.seq
(.seq
(.r [0, 5, 6, 8, 12] [
mv 11 6,
vo 12 (.bin false .geq 3 11 (k64 0))])
(.cond 12
.skip
(.exit 0)))
(.seq
(.block 1
(.seq
(.r [0, 5, 6, 8] [
mv 15 5,
mv 16 6,
mv 17 0,
vo 18 (.conv 2 5 .u8 17),
vo 19 (.ia 25 5 1 15 16),
vn (.store 5 1 19 18)])
(.r [0, 5, 6, 8] [
mv 20 0,
vo 21 (.bin false .shr 2 20 (.c (.int .u64 8))),
sg 0 21])))
(.r [0, 5, 6, 8] [
mv 13 6,
vo 14 (.bin false .sub 3 13 (k64 1)),
sg 6 14])))
def l120_0 : VC := .loop b120_0
def v120 : VFun := {
code :=
(.seq
(.r [0, 1] [
vo 4 (.asg (.n 1))])
(.seq
(.r [0, 1, 5, 8] [
mv 7 1,
vo 8 (.mk 25 5 1 1 [(.val (.int .u8 0))] 7 7),
sg 5 8])
(.seq
(.seq
(.r [0, 5, 6, 8] [
mv 9 1,
vo 10 (.bin false .sub 3 9 (k64 1)),
sg 6 10])
(.block 0
l120_0))
(.seq
(.r [4, 5, 8] [
mv 22 5,
sg 4 22])
.ret))))
modes := [.lend, .lend]
rets := [⟨4, none⟩] }

def b121_0 : VC :=
(.seq
(.r [3, 6, 7, 8, 9] [
vo 9 (.bin false .lss 3 8 7)])
(.seq
(.cond 9
.skip
(.exit 0))
(.seq
(.block 1
(.seq
(.r [3, 5, 6, 7, 8] [
vo 10 (.ia 25 5 1 6 8),
ld 11 5 10,
sg 5 11])
(.r [3, 6, 7, 8] [
mv 12 3,
vo 13 (.bin false .mul 2 (k64 33) 12),
mv 14 5,
vo 15 (.conv 5 2 .i64 14),
vo 16 (.bin false .add 2 13 15),
vo 17 (.bin false .add 2 16 (k64 1)),
vo 18 (.bin false .rem 2 17 (k64 2147483647)),
sg 3 18])))
(.r [3, 6, 7, 8] [
vo 19 (.bin false .add 3 8 (k64 1)),
mv 8 19]))))
def l121_0 : VC := .loop b121_0
def v121 : VFun := {
code :=
(.seq
(.r [0] [
vo 2 (.asg (k64 0))])
(.seq
(.r [0, 3] [
vo 3 (.asg (k64 5381))])
(.seq
(.seq
(.r [3, 6, 7, 8] [
mv 6 0,
vo 7 (.len false 25 6),
vo 8 (.mov (k64 0))])
(.block 0
l121_0))
(.seq
(.r [2] [
mv 20 3,
sg 2 20])
.ret))))
modes := [.lend]
rets := [⟨2, none⟩] }

def v123 : VFun := {
code :=
(.seq
(.r [0, 1, 25] [
vo 4 (.asg (.n 1))])
(.seq
(.seq
(.r [0, 1, 6, 25] [
mv 5 1,
vo 6 (.bin false .lss 3 5 (k64 0))])
(.cond 6
.any
.skip))
(.seq
(.seq
(.r [0, 1, 25] [
mv 8 1,
mv 9 0,
vo 10 (.capn 25 9),
mv 11 0,
vo 12 (.len false 25 11),
vo 13 (.bin false .sub 3 10 12),
vo 14 (.bin false .sub 3 8 13),
sg 1 14])
(.seq
(.r [0, 1, 16, 25] [
mv 15 1,
vo 16 (.bin false .gtr 3 15 (k64 0))])
(.cond 16
(.r [0, 25] [
mv 17 0,
mv 18 0,
vo 19 (.capn 25 18),
vo 20 (.cut 25 (some 5) 1 17 none (some 19)),
mv 21 1,
vo 22 (.appn 25 5 1 1 [(.val (.int .u8 0))] 20 21),
mv 23 0,
vo 24 (.len false 25 23),
vo 25 (.trunc 25 5 1 22 24),
sg 0 25])
.skip)))
(.seq
(.r [0, 4, 25] [
mv 26 0,
sg 4 26])
.ret))))
modes := [.nl, .lend]
rets := [⟨4, none⟩] }

def v131 : VFun := {
code :=
(.seq
(.r [0, 2] [
vo 2 (.alloc 29 [z64, (.val (.string (⟨#[]⟩ : ByteArray))), z64, z64]),
vo 3 (.asg (.c (.bool false)))])
(.seq
(.r [0, 2, 4] [
vo 8 (.build 29 [z64, (.val (.string (⟨#[]⟩ : ByteArray))), z64, z64] []),
vo 4 (.alloc 29 [z64, (.val (.string (⟨#[]⟩ : ByteArray))), z64, z64]),
vn (.store 29 4 4 8)])
(.seq
(.seq
(.r [0, 2, 4, 27] [
mv 9 0,
vo 10 (.len false 25 9),
vo 11 (.bin false .lss 3 10 (k64 1)),
mv 12 11,
⟨some 13, .mov 0, some (12, false), []⟩,
⟨some 14, .len false 25 13, some (12, false), []⟩,
⟨some 15, .mov 0, some (12, false), []⟩,
⟨some 16, .ia 25 5 1 15 (k64 0), some (12, false), []⟩,
⟨some 17, .load 5 false 1 16, some (12, false), []⟩,
⟨some 18, .conv 5 3 .i64 17, some (12, false), []⟩,
⟨some 19, .bin false .add 3 18 (k64 3), some (12, false), []⟩,
⟨some 20, .bin false .lss 3 14 19, some (12, false), []⟩,
vo 21 (.pick 12 (.c (.bool true)) 20),
mv 22 21,
⟨some 23, .mov 0, some (22, false), []⟩,
⟨some 24, .ia 25 5 1 23 (k64 0), some (22, false), []⟩,
⟨some 25, .load 5 false 1 24, some (22, false), []⟩,
⟨some 26, .bin false .lss 5 25 (.c (.int .u8 10)), some (22, false), []⟩,
vo 27 (.pick 22 (.c (.bool true)) 26)])
(.cond 27
(.seq
(.r [2, 3] [
vo 28 (.load 29 true 4 4),
vn (.store 29 4 2 28),
vo 3 (.asg (.c (.bool false)))])
.ret)
.skip))
(.seq
(.r [0, 2, 4, 5] [
mv 29 0,
mv 30 0,
vo 31 (.ia 25 5 1 30 (k64 0)),
ld 32 5 31,
vo 33 (.conv 5 3 .i64 32),
vo 34 (.bin false .add 3 (k64 1) 33),
vo 35 (.cut 25 (some 5) 1 29 (some (k64 1)) (some 34)),
sg 5 35])
(.seq
(.r [0, 2, 4, 5, 6] [
mv 36 5,
vo 37 (.ia 25 5 1 36 (k64 1)),
ld 38 5 37,
vo 39 (.conv 5 3 .i64 38),
sg 6 39])
(.seq
(.seq
(.r [0, 2, 4, 5, 6, 44] [
mv 40 5,
vo 41 (.len false 25 40),
mv 42 6,
vo 43 (.bin false .add 3 (k64 10) 42),
vo 44 (.bin false .neq 3 41 43)])
(.cond 44
(.seq
(.r [2, 3] [
vo 45 (.load 29 true 4 4),
vn (.store 29 4 2 45),
vo 3 (.asg (.c (.bool false)))])
.ret)
.skip))
(.seq
(.region true [0, 2, 4] [
mv 46 5,
vo 47 (.ia 25 5 1 46 (k64 0)),
ld 48 5 47,
vo 49 (.conv 5 2 .i64 48),
⟨some 50, .mov 5, none, [0, 1, 2, 3]⟩,
⟨some 51, .mov 6, none, [0, 1, 2, 3, 4]⟩,
⟨some 52, .bin false .add 3 (k64 2) 51, none, [0, 1, 2, 3, 4]⟩,
⟨some 53, .cut 25 (some 5) 1 50 (some (k64 2)) (some 52), none, [0, 1, 2, 3]⟩,
⟨some 54, .b2s 25 9 53, none, [0, 1, 2, 3]⟩,
⟨some 55, .mov 5, none, [0, 1, 2, 3, 4, 5, 6, 7, 8]⟩,
⟨some 56, .mov 6, none, [0, 1, 2, 3, 4, 5, 6, 7, 8, 9]⟩,
⟨some 57, .bin false .add 3 (k64 2) 56, none, [0, 1, 2, 3, 4, 5, 6, 7, 8, 9]⟩,
⟨some 58, .cut 25 (some 5) 1 55 (some 57) none, none, [0, 1, 2, 3, 4, 5, 6, 7, 8]⟩,
⟨some 59, .call 152 [58], none, [0, 1, 2, 3, 4, 5, 6, 7, 8]⟩,
⟨some 60, .mov 5, none, [0, 1, 2, 3, 4, 5, 6, 7, 8, 9, 10, 11, 12, 13]⟩,
⟨some 61, .mov 6, none, [0, 1, 2, 3, 4, 5, 6, 7, 8, 9, 10, 11, 12, 13, 14]⟩,
⟨some 62, .bin false .add 3 (k64 6) 61, none, [0, 1, 2, 3, 4, 5, 6, 7, 8, 9, 10, 11, 12, 13, 14]⟩,
⟨some 63, .cut 25 (some 5) 1 60 (some 62) none, none, [0, 1, 2, 3, 4, 5, 6, 7, 8, 9, 10, 11, 12, 13]⟩,
⟨some 64, .call 152 [63], none, [0, 1, 2, 3, 4, 5, 6, 7, 8]⟩,
vo 65 (.build 29 [z64, (.val (.string (⟨#[]⟩ : ByteArray))), z64, z64] [(0, 0, 1, 49), (1, 1, 1, 54), (2, 2, 1, 59), (3, 3, 1, 64)]),
vn (.store 29 4 4 65)])
(.seq
(.seq
(.r [0, 2, 4, 67] [
vo 66 (.call 62 [4]),
vo 67 (.bin false .neq 2 66 (k64 0))])
(.cond 67
(.seq
(.r [2, 3] [
vo 68 (.load 29 true 4 4),
vn (.store 29 4 2 68),
vo 3 (.asg (.c (.bool false)))])
.ret)
.skip))
(.seq
(.r [0, 2, 4, 7, 69] [
vo 69 (.call 63 [4]),
sg 7 69])
(.seq
(.region true [2, 3] [
vo 70 (.load 29 true 4 4),
⟨some 71, .mov 0, none, [0]⟩,
⟨some 72, .mov 7, none, [0, 1]⟩,
⟨some 73, .len false 25 72, none, [0, 1]⟩,
⟨some 74, .cut 25 (some 5) 1 71 none (some 73), none, [0]⟩,
⟨some 75, .b2s 25 9 74, none, [0]⟩,
⟨some 76, .mov 7, none, [0, 1, 2, 3, 4, 5]⟩,
⟨some 77, .b2s 25 9 76, none, [0, 1, 2, 3, 4, 5]⟩,
⟨some 78, .bin false .eql 9 75 77, none, [0]⟩,
⟨none, .store 29 4 2 70, none, [1, 2, 3, 4, 5, 6, 7, 8]⟩,
sg 3 78])
.ret))))))))))
modes := [.lend]
rets := [⟨2, some (true, 4)⟩, ⟨3, none⟩] }

def b132_0 : VC :=
(.seq
(.r [3, 6, 7, 8, 9] [
vo 9 (.bin false .lss 3 8 7)])
(.seq
(.cond 9
.skip
(.exit 0))
(.seq
(.block 1
(.seq
(.r [3, 5, 6, 7, 8] [
vo 10 (.ia 25 5 1 6 8),
ld 11 5 10,
sg 5 11])
(.r [3, 6, 7, 8] [
mv 12 3,
vo 13 (.bin false .shl 2 12 (.c (.int .u64 8))),
mv 14 5,
vo 15 (.conv 5 2 .i64 14),
vo 16 (.bin false .or 2 13 15),
sg 3 16])))
(.r [3, 6, 7, 8] [
vo 17 (.bin false .add 3 8 (k64 1)),
mv 8 17]))))
def l132_0 : VC := .loop b132_0
def v132 : VFun := {
code :=
(.seq
(.r [0] [
vo 2 (.asg (k64 0))])
(.seq
(.r [0, 3] [
vo 3 (.asg (k64 0))])
(.seq
(.seq
(.r [3, 6, 7, 8] [
mv 6 0,
vo 7 (.len false 25 6),
vo 8 (.mov (k64 0))])
(.block 0
l132_0))
(.seq
(.r [2] [
mv 18 3,
sg 2 18])
.ret))))
modes := [.lend]
rets := [⟨2, none⟩] }

def v133 : VFun := {
code :=
(.seq
(.r [0, 1] [
vo 4 (.asg (.c (.bool false)))])
(.seq
(.r [4] [
mv 5 0,
mv 6 1,
vo 7 (.call 153 [5, 6]),
sg 4 7])
.ret))
modes := [.lend, .lend]
rets := [⟨4, none⟩] }

def v134 : VFun := {
code :=
(.seq
(.r [2, 3] [
vo 2 (.box 29 0),
vo 3 (.box 29 1),
vo 4 (.asg (.c (.bool false)))])
(.seq
(.seq
(.r [2, 3, 9] [
vo 5 (.fa 29 0 0 1 2),
ld 6 2 5,
vo 7 (.fa 29 0 0 1 3),
ld 8 2 7,
vo 9 (.bin false .neq 2 6 8)])
(.cond 9
(.seq
(.r [4] [
vo 4 (.asg (.c (.bool false)))])
.ret)
.skip))
(.seq
(.seq
(.r [2, 3, 14] [
vo 10 (.fa 29 1 1 1 2),
ld 11 9 10,
vo 12 (.fa 29 1 1 1 3),
ld 13 9 12,
vo 14 (.bin false .neq 9 11 13)])
(.cond 14
(.seq
(.r [4] [
vo 4 (.asg (.c (.bool false)))])
.ret)
.skip))
(.seq
(.seq
(.r [2, 3, 19] [
vo 15 (.fa 29 2 2 1 2),
ld 16 2 15,
vo 17 (.fa 29 2 2 1 3),
ld 18 2 17,
vo 19 (.bin false .neq 2 16 18)])
(.cond 19
(.seq
(.r [4] [
vo 4 (.asg (.c (.bool false)))])
.ret)
.skip))
(.seq
(.seq
(.r [24] [
vo 20 (.fa 29 3 3 1 2),
ld 21 2 20,
vo 22 (.fa 29 3 3 1 3),
ld 23 2 22,
vo 24 (.bin false .neq 2 21 23)])
(.cond 24
(.seq
(.r [4] [
vo 4 (.asg (.c (.bool false)))])
.ret)
.skip))
(.seq
(.r [4] [
vo 4 (.asg (.c (.bool true)))])
.ret))))))
modes := [.lend, .lend]
rets := [⟨4, none⟩] }

def v148 : VFun := {
code :=
(.seq
(.r [0] [
vo 2 (.asg (.c (.bool false)))])
(.seq
(.r [2] [
mv 3 0,
vo 4 (.bin false .geq 5 3 (.c (.int .u8 97))),
mv 5 4,
⟨some 6, .mov 0, some (5, true), []⟩,
⟨some 7, .bin false .leq 5 6 (.c (.int .u8 122)), some (5, true), []⟩,
vo 8 (.pick 5 7 (.c (.bool false))),
mv 9 8,
⟨some 10, .mov 0, some (9, false), []⟩,
⟨some 11, .bin false .geq 5 10 (.c (.int .u8 65)), some (9, false), []⟩,
⟨some 12, .mov 11, some (9, false), []⟩,
⟨some 13, .mov 0, some (12, true), []⟩,
⟨some 14, .bin false .leq 5 13 (.c (.int .u8 90)), some (12, true), []⟩,
⟨some 15, .pick 12 14 (.c (.bool false)), some (9, false), []⟩,
vo 16 (.pick 9 (.c (.bool true)) 15),
mv 17 16,
⟨some 18, .mov 0, some (17, false), []⟩,
⟨some 19, .bin false .geq 5 18 (.c (.int .u8 48)), some (17, false), []⟩,
⟨some 20, .mov 19, some (17, false), []⟩,
⟨some 21, .mov 0, some (20, true), []⟩,
⟨some 22, .bin false .leq 5 21 (.c (.int .u8 57)), some (20, true), []⟩,
⟨some 23, .pick 20 22 (.c (.bool false)), some (17, false), []⟩,
vo 24 (.pick 17 (.c (.bool true)) 23),
sg 2 24])
.ret))
modes := [.lend]
rets := [⟨2, none⟩] }

def v149 : VFun := {
code :=
(.seq
(.r [0] [
vo 2 (.asg (.c (.bool false)))])
(.seq
(.r [2] [
mv 3 0,
vo 4 (.len true 9 3),
vo 5 (.bin false .leq 3 4 (k64 12)),
mv 6 5,
⟨some 7, .mov 0, some (6, true), []⟩,
⟨some 8, .call 156 [7, (.c (.string (⟨#[97, 98, 99, 100, 101, 102, 103, 104, 105, 106, 107, 108, 109, 110, 111, 112, 113, 114, 115, 116, 117, 118, 119, 120, 121, 122, 65, 66, 67, 68, 69, 70, 71, 72, 73, 74, 75, 76, 77, 78, 79, 80, 81, 82, 83, 84, 85, 86, 87, 88, 89, 90, 48, 49, 50, 51, 52, 53, 54, 55, 56, 57]⟩ : ByteArray)))], some (6, true), []⟩,
⟨some 9, .bin false .eql 9 8 (.c (.string (⟨#[]⟩ : ByteArray))), some (6, true), []⟩,
vo 10 (.pick 6 9 (.c (.bool false))),
sg 2 10])
.ret))
modes := [.lend]
rets := [⟨2, none⟩] }

def v152 : VFun := {
code :=
(.seq
(.r [0] [
vo 2 (.asg (k64 0))])
(.seq
(.region true [2] [
mv 3 0,
vo 4 (.ia 25 5 1 3 (k64 0)),
ld 5 5 4,
vo 6 (.conv 5 2 .i64 5),
vo 7 (.bin false .shl 2 6 (.c (.int .u64 24))),
⟨some 8, .mov 0, none, [0, 1, 2, 3, 4]⟩,
⟨some 9, .ia 25 5 1 8 (k64 1), none, [0, 1, 2, 3, 4]⟩,
⟨some 10, .load 5 false 1 9, none, [0, 1, 2, 3, 4]⟩,
⟨some 11, .conv 5 2 .i64 10, none, [0, 1, 2, 3, 4]⟩,
⟨some 12, .bin false .shl 2 11 (.c (.int .u64 16)), none, [0, 1, 2, 3, 4]⟩,
vo 13 (.bin false .add 2 7 12),
⟨some 14, .mov 0, none, [0, 1, 2, 3, 4, 5, 6, 7, 8, 9, 10]⟩,
⟨some 15, .ia 25 5 1 14 (k64 2), none, [0, 1, 2, 3, 4, 5, 6, 7, 8, 9, 10]⟩,
⟨some 16, .load 5 false 1 15, none, [0, 1, 2, 3, 4, 5, 6, 7, 8, 9, 10]⟩,
⟨some 17, .conv 5 2 .i64 16, none, [0, 1, 2, 3, 4, 5, 6, 7, 8, 9, 10]⟩,
⟨some 18, .bin false .shl 2 17 (.c (.int .u64 8)), none, [0, 1, 2, 3, 4, 5, 6, 7, 8, 9, 10]⟩,
vo 19 (.bin false .add 2 13 18),
⟨some 20, .mov 0, none, [0, 1, 2, 3, 4, 5, 6, 7, 8, 9, 10, 11, 12, 13, 14, 15, 16]⟩,
⟨some 21, .ia 25 5 1 20 (k64 3), none, [0, 1, 2, 3, 4, 5, 6, 7, 8, 9, 10, 11, 12, 13, 14, 15, 16]⟩,
⟨some 22, .load 5 false 1 21, none, [0, 1, 2, 3, 4, 5, 6, 7, 8, 9, 10, 11, 12, 13, 14, 15, 16]⟩,
⟨some 23, .conv 5 2 .i64 22, none, [0, 1, 2, 3, 4, 5, 6, 7, 8, 9, 10, 11, 12, 13, 14, 15, 16]⟩,
vo 24 (.bin false .add 2 19 23),
sg 2 24])
.ret))
modes := [.lend]
rets := [⟨2, none⟩] }

def v153 : VFun := {
code :=
(.seq
(.r [0, 1] [
vo 4 (.asg (.c (.bool false)))])
(.seq
(.r [4] [
mv 5 0,
vo 6 (.b2s 25 9 5),
mv 7 1,
vo 8 (.b2s 25 9 7),
vo 9 (.bin false .eql 9 6 8),
sg 4 9])
.ret))
modes := [.lend, .lend]
rets := [⟨4, none⟩] }

def tab : List (Nat × VFun) := [(6, v6), (36, v36), (37, v37), (38, v38), (39, v39), (40, v40), (41, v41), (42, v42), (43, v43), (62, v62), (63, v63), (64, v64), (65, v65), (71, v71), (75, v75), (79, v79), (82, v82), (84, v84), (85, v85), (86, v86), (87, v87), (88, v88), (93, v93), (112, v112), (113, v113), (114, v114), (115, v115), (116, v116), (117, v117), (118, v118), (119, v119), (120, v120), (121, v121), (123, v123), (131, v131), (132, v132), (133, v133), (134, v134), (148, v148), (149, v149), (152, v152), (153, v153)]
def F (f : FuncId) : Option VFun := getA none (tab.map fun x => (x.1, some x.2)) f
theorem tab_ok : tab.all (fun x => matchFun Tryd.prog x.1 x.2) = true := by kernel_rfl
theorem F_mem {f : FuncId} {fn : VFun} : ∀ {l : List (Nat × VFun)}, getA none (l.map fun x => (x.1, some x.2)) f = some fn → (f, fn) ∈ l
  | [], h => by simp [getA] at h
  | (k, v) :: l, h => by
    simp only [List.map_cons, getA] at h
    split at h
    · rename_i e
      injection h with h
      subst e; subst h
      exact List.mem_cons_self ..
    · exact List.mem_cons_of_mem _ (F_mem h)
theorem F_ok (f : FuncId) (fn : VFun) (h : F f = some fn) : matchFun Tryd.prog f fn = true := List.all_eq_true.1 tab_ok _ (F_mem h)
end Go.Proofs.YtdnopbpdiineiaaDoor.ReadEntries
