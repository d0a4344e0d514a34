/- V's text of the functions that this law reaches. -/
import Derived.Test.YthpmfdcmnnbjcaaVCode
import Derived.Test.YthpmfdcmnnbjcaaRows
import Derived.KernelRfl
namespace Go.Proofs.Ythpmfdcmnnbjcaa.SeenFault
open Go Go.Proofs.Ythpmfdcmnnbjcaa.V

/-- loop.example/g00539/laws.FnExactSeenFault -/
def v8 : VFun := {
  code :=
    (.seq
    (.region false [0] [
      ⟨some 2, .asg (.c (.bool false)), none, []⟩])
    (.seq
    (.region false [0, 3] [
      ⟨some 3, .asg (.c (.int .i64 1048576)), none, []⟩])
    (.seq
    (.region false [0, 3] [
      ⟨some 7, .mov (.t 0), none, []⟩,
      ⟨some 8, .mov (.t 3), none, []⟩,
      ⟨some 9, .call 31 [(.t 7), (.t 8)], none, []⟩,
      ⟨some 3, .asg (.t 9), none, []⟩])
    (.seq
    (.seq
    (.region false [0, 11] [
      ⟨some 10, .mov (.t 3), none, []⟩,
      ⟨some 11, .bin false .lss 3 (.t 10) (.c (.int .i64 0)), none, []⟩])
    (.cond (.t 11)
      (.seq
      (.region false [2] [
        ⟨some 2, .asg (.c (.bool true)), none, []⟩])
      .ret)
      .skip))
    (.seq
    (.region false [0, 4] [
      ⟨some 12, .mov (.t 0), none, []⟩,
      ⟨some 13, .call 33 [(.t 12)], none, []⟩,
      ⟨some 14, .call 32 [(.t 13)], none, []⟩,
      ⟨some 4, .asg (.t 14), none, []⟩])
    (.seq
    (.region false [0, 4, 5, 15, 16] [
      ⟨some 15, .mov (.t 0), none, []⟩,
      ⟨some 16, .call 33 [(.t 15)], none, []⟩,
      ⟨some 5, .asg (.t 16), none, []⟩])
    (.seq
    (.region false [0, 4, 5, 6, 15, 16] [
      ⟨some 17, .mov (.t 5), none, []⟩,
      ⟨some 18, .call 34 [(.t 17)], none, []⟩,
      ⟨some 6, .asg (.t 18), none, []⟩])
    (.seq
    (.seq
    (.region false [0, 5, 15, 16, 21] [
      ⟨some 19, .mov (.t 6), none, []⟩,
      ⟨some 20, .mov (.t 4), none, []⟩,
      ⟨some 21, .bin false .neq 2 (.t 19) (.t 20), none, []⟩])
    (.cond (.t 21)
      (.seq
      (.region false [2] [
        ⟨some 2, .asg (.c (.bool false)), none, []⟩])
      .ret)
      .skip))
    (.seq
    (.seq
    (.region false [26] [
      ⟨some 22, .mov (.t 5), none, []⟩,
      ⟨some 23, .mov (.t 0), none, []⟩,
      ⟨some 24, .call 33 [(.t 23)], none, []⟩,
      ⟨some 25, .call 35 [(.t 22), (.t 24)], none, []⟩,
      ⟨some 26, .un .not (.t 25), none, []⟩])
    (.cond (.t 26)
      (.seq
      (.region false [2] [
        ⟨some 2, .asg (.c (.bool false)), none, []⟩])
      .ret)
      .skip))
    (.seq
    (.region false [2] [
      ⟨some 2, .asg (.c (.bool true)), none, []⟩])
    .ret))))))))))
  modes := [.lend]
  rets := [⟨2, none⟩] }

/-- loop.example/g00539/laws.szKeyS -/
def v31 : VFun := {
  code :=
    (.seq
    (.region false [0, 1] [
      ⟨some 4, .asg (.c (.int .i64 0)), none, []⟩])
    (.seq
    (.region false [1] [
      ⟨some 5, .mov (.t 1), none, []⟩,
      ⟨some 6, .mov (.t 0), none, []⟩,
      ⟨some 7, .len false 49 (.t 6), none, []⟩,
      ⟨some 8, .bin false .sub 3 (.t 5) (.t 7), none, []⟩,
      ⟨some 1, .asg (.t 8), none, []⟩])
    (.seq
    (.seq
    (.region false [1, 10] [
      ⟨some 9, .mov (.t 1), none, []⟩,
      ⟨some 10, .bin false .lss 3 (.t 9) (.c (.int .i64 0)), none, []⟩])
    (.cond (.t 10)
      (.seq
      (.region false [4] [
        ⟨some 4, .asg (.c (.int .i64 (-1))), none, []⟩])
      .ret)
      .skip))
    (.seq
    (.region false [4] [
      ⟨some 11, .mov (.t 1), none, []⟩,
      ⟨some 4, .asg (.t 11), none, []⟩])
    .ret))))
  modes := [.lend, .lend]
  rets := [⟨4, none⟩] }

/-- loop.example/g00539/spec.SeenFault -/
def v32 : VFun := {
  code :=
    (.seq
    (.region false [0] [
      ⟨some 2, .asg (.c (.int .i64 0)), none, []⟩])
    (.seq
    (.region false [2] [
      ⟨some 3, .mov (.t 0), none, []⟩,
      ⟨some 4, .call 68 [(.t 3)], none, []⟩,
      ⟨some 2, .asg (.t 4), none, []⟩])
    .ret))
  modes := [.lend]
  rets := [⟨2, none⟩] }

def b33_0 : VC :=
  (.seq
  (.seq
  (.region false [0, 3, 4, 7, 11] [
    ⟨some 8, .mov (.t 4), none, []⟩,
    ⟨some 9, .mov (.t 0), none, []⟩,
    ⟨some 10, .len false 49 (.t 9), none, []⟩,
    ⟨some 11, .bin false .lss 3 (.t 8) (.t 10), none, []⟩])
  (.cond (.t 11)
    .skip
    (.exit 0)))
  (.seq
  (.block 1
    (.region false [0, 3, 4, 7] [
      ⟨some 14, .mov (.t 3), none, []⟩,
      ⟨some 15, .mov (.t 4), none, []⟩,
      ⟨some 16, .mov (.t 0), none, []⟩,
      ⟨some 17, .mov (.t 4), none, []⟩,
      ⟨some 18, .ia 49 94 4 (.t 16) (.t 17), none, []⟩,
      ⟨some 19, .load 94 true 4 (.t 18), none, []⟩,
      ⟨some 20, .call 69 [(.t 19)], none, []⟩,
      ⟨some 21, .ia 52 92 4 (.t 14) (.t 15), none, []⟩,
      ⟨none, .store 92 4 (.t 21) (.t 20), none, []⟩]))
  (.region false [0, 3, 4, 7] [
    ⟨some 12, .mov (.t 4), none, []⟩,
    ⟨some 13, .bin false .add 3 (.t 12) (.c (.int .i64 1)), none, []⟩,
    ⟨some 4, .asg (.t 13), none, []⟩])))
def l33_0 : VC := .loop b33_0
/-- loop.example/g00539/laws.toKeyS -/
def v33 : VFun := {
  code :=
    (.seq
    (.region false [0] [
      ⟨some 2, .asg (.n 4), none, []⟩])
    (.seq
    (.region false [0, 3, 7] [
      ⟨some 5, .mov (.t 0), none, []⟩,
      ⟨some 6, .len false 49 (.t 5), none, []⟩,
      ⟨some 7, .mk 52 92 4 32 [(.val (.int .i64 0)), (.val (.int .i64 0)), (.val (.int .i64 0)), (.val (.int .i64 0))] (.t 6) (.t 6), none, []⟩,
      ⟨some 3, .asg (.t 7), none, []⟩])
    (.seq
    (.seq
    (.region false [0, 3, 4, 7] [
      ⟨some 4, .asg (.c (.int .i64 0)), none, []⟩])
    (.block 0
      l33_0))
    (.seq
    (.region false [2, 3, 7, 22] [
      ⟨some 22, .mov (.t 3), none, []⟩,
      ⟨some 2, .asg (.t 22), none, []⟩])
    .ret))))
  modes := [.lend]
  rets := [⟨2, none⟩] }

def b34_0 : VC :=
  (.seq
  (.region false [0, 8, 9, 10, 11] [
    ⟨some 11, .bin false .lss 3 (.t 10) (.t 9), none, []⟩])
  (.seq
  (.cond (.t 11)
    .skip
    (.exit 0))
  (.seq
  (.block 1
    (.seq
    (.region false [0, 3, 4, 8, 9, 10] [
      ⟨some 12, .mov (.t 10), none, []⟩,
      ⟨some 13, .ia 52 92 4 (.t 8) (.t 10), none, []⟩,
      ⟨some 14, .load 92 true 4 (.t 13), none, []⟩,
      ⟨some 4, .alloc 92 [(.val (.int .i64 0)), (.val (.int .i64 0)), (.val (.int .i64 0)), (.val (.int .i64 0))], none, []⟩,
      ⟨some 3, .asg (.t 12), none, []⟩,
      ⟨none, .store 92 4 (.t 4) (.t 14), none, []⟩])
    (.block 2
      (.seq
      (.region false [0, 3, 4, 8, 9, 10, 15] [
        ⟨some 16, .load 92 true 4 (.t 4), none, []⟩,
        ⟨some 17, .call 70 [(.t 16)], none, []⟩,
        ⟨some 18, .un .not (.t 17), none, []⟩,
        ⟨some 15, .asg (.t 18), none, []⟩])
      (.cond (.t 15)
        (.seq
        (.region false [2] [
          ⟨some 2, .asg (.c (.int .i64 3)), none, []⟩])
        .ret)
        (.seq
        (.region true [0, 8, 9, 10, 19] [
          ⟨some 20, .mov (.t 0), none, []⟩,
          ⟨some 21, .mov (.t 3), none, [0]⟩,
          ⟨some 22, .cut 52 (some 92) 4 (.t 20) none (some (.t 21)), none, []⟩,
          ⟨some 23, .load 92 true 4 (.t 4), none, [0, 1, 2]⟩,
          ⟨some 24, .call 71 [(.t 22), (.t 23)], none, []⟩,
          ⟨some 19, .asg (.t 24), none, []⟩])
        (.cond (.t 19)
          (.seq
          (.region false [2] [
            ⟨some 2, .asg (.c (.int .i64 6)), none, []⟩])
          .ret)
          .skip)))))))
  (.region false [0, 8, 9, 10] [
    ⟨some 25, .bin false .add 3 (.t 10) (.c (.int .i64 1)), none, []⟩,
    ⟨some 10, .mov (.t 25), none, []⟩]))))
def l34_0 : VC := .loop b34_0
/-- loop.example/g00539/impl.SeenFault -/
def v34 : VFun := {
  code :=
    (.seq
    (.region false [0] [
      ⟨some 2, .asg (.c (.int .i64 0)), none, []⟩])
    (.seq
    (.seq
    (.region false [0, 7] [
      ⟨some 5, .mov (.t 0), none, []⟩,
      ⟨some 6, .len false 52 (.t 5), none, []⟩,
      ⟨some 7, .bin false .gtr 3 (.t 6) (.c (.int .i64 40)), none, []⟩])
    (.cond (.t 7)
      (.seq
      (.region false [2] [
        ⟨some 2, .asg (.c (.int .i64 2)), none, []⟩])
      .ret)
      .skip))
    (.seq
    (.seq
    (.region false [0, 8, 9, 10] [
      ⟨some 8, .mov (.t 0), none, []⟩,
      ⟨some 9, .len false 52 (.t 8), none, []⟩,
      ⟨some 10, .mov (.c (.int .i64 0)), none, []⟩])
    (.block 0
      l34_0))
    (.seq
    (.region false [2] [
      ⟨some 2, .asg (.c (.int .i64 0)), none, []⟩])
    .ret))))
  modes := [.lend]
  rets := [⟨2, none⟩] }

def b35_0 : VC :=
  (.seq
  (.seq
  (.region false [0, 1, 5, 14] [
    ⟨some 11, .mov (.t 5), none, []⟩,
    ⟨some 12, .mov (.t 0), none, []⟩,
    ⟨some 13, .len false 52 (.t 12), none, []⟩,
    ⟨some 14, .bin false .lss 3 (.t 11) (.t 13), none, []⟩])
  (.cond (.t 14)
    .skip
    (.exit 0)))
  (.seq
  (.block 1
    (.seq
    (.region true [0, 1, 5, 26] [
      ⟨some 17, .mov (.t 0), none, []⟩,
      ⟨some 18, .mov (.t 5), none, [0]⟩,
      ⟨some 19, .ia 52 92 4 (.t 17) (.t 18), none, []⟩,
      ⟨some 20, .load 92 true 4 (.t 19), none, []⟩,
      ⟨some 21, .mov (.t 1), none, [0, 1, 2, 3]⟩,
      ⟨some 22, .mov (.t 5), none, [0, 1, 2, 3, 4]⟩,
      ⟨some 23, .ia 52 92 4 (.t 21) (.t 22), none, [0, 1, 2, 3]⟩,
      ⟨some 24, .load 92 true 4 (.t 23), none, [0, 1, 2, 3]⟩,
      ⟨some 25, .call 72 [(.t 20), (.t 24)], none, []⟩,
      ⟨some 26, .un .not (.t 25), none, []⟩])
    (.cond (.t 26)
      (.seq
      (.region false [4] [
        ⟨some 4, .asg (.c (.bool false)), none, []⟩])
      .ret)
      .skip)))
  (.region false [0, 1, 5] [
    ⟨some 15, .mov (.t 5), none, []⟩,
    ⟨some 16, .bin false .add 3 (.t 15) (.c (.int .i64 1)), none, []⟩,
    ⟨some 5, .asg (.t 16), none, []⟩])))
def l35_0 : VC := .loop b35_0
/-- loop.example/g00539/laws.eqKeyS -/
def v35 : VFun := {
  code :=
    (.seq
    (.region false [0, 1] [
      ⟨some 4, .asg (.c (.bool false)), none, []⟩])
    (.seq
    (.seq
    (.region false [0, 1, 10] [
      ⟨some 6, .mov (.t 0), none, []⟩,
      ⟨some 7, .len false 52 (.t 6), none, []⟩,
      ⟨some 8, .mov (.t 1), none, []⟩,
      ⟨some 9, .len false 52 (.t 8), none, []⟩,
      ⟨some 10, .bin false .neq 3 (.t 7) (.t 9), none, []⟩])
    (.cond (.t 10)
      (.seq
      (.region false [4] [
        ⟨some 4, .asg (.c (.bool false)), none, []⟩])
      .ret)
      .skip))
    (.seq
    (.seq
    (.region false [0, 1, 5] [
      ⟨some 5, .asg (.c (.int .i64 0)), none, []⟩])
    (.block 0
      l35_0))
    (.seq
    (.region false [4] [
      ⟨some 4, .asg (.c (.bool true)), none, []⟩])
    .ret))))
  modes := [.lend, .lend]
  rets := [⟨4, none⟩] }

/-- loop.example/g00539/spec.l1In -/
def v57 : VFun := {
  code :=
    (.seq
    (.region false [0, 1, 2] [
      ⟨some 6, .asg (.c (.bool false)), none, []⟩])
    (.seq
    (.region false [6] [
      ⟨some 7, .mov (.t 0), none, []⟩,
      ⟨some 8, .mov (.t 1), none, []⟩,
      ⟨some 9, .bin false .geq 2 (.t 7) (.t 8), none, []⟩,
      ⟨some 10, .mov (.t 9), none, []⟩,
      ⟨some 11, .mov (.t 0), some (10, true), []⟩,
      ⟨some 12, .mov (.t 2), some (10, true), []⟩,
      ⟨some 13, .bin false .leq 2 (.t 11) (.t 12), some (10, true), []⟩,
      ⟨some 14, .pick (.t 10) (.t 13) (.c (.bool false)), none, []⟩,
      ⟨some 6, .asg (.t 14), none, []⟩])
    .ret))
  modes := [.lend, .lend, .lend]
  rets := [⟨6, none⟩] }

/-- loop.example/g00539/impl.in -/
def v60 : VFun := {
  code :=
    (.seq
    (.region false [0, 1, 2] [
      ⟨some 6, .asg (.c (.bool false)), none, []⟩])
    (.seq
    (.region false [6] [
      ⟨some 7, .mov (.t 0), none, []⟩,
      ⟨some 8, .mov (.t 1), none, []⟩,
      ⟨some 9, .bin false .geq 2 (.t 7) (.t 8), none, []⟩,
      ⟨some 10, .mov (.t 9), none, []⟩,
      ⟨some 11, .mov (.t 0), some (10, true), []⟩,
      ⟨some 12, .mov (.t 2), some (10, true), []⟩,
      ⟨some 13, .bin false .leq 2 (.t 11) (.t 12), some (10, true), []⟩,
      ⟨some 14, .pick (.t 10) (.t 13) (.c (.bool false)), none, []⟩,
      ⟨some 6, .asg (.t 14), none, []⟩])
    .ret))
  modes := [.lend, .lend, .lend]
  rets := [⟨6, none⟩] }

def b68_0 : VC :=
  (.seq
  (.seq
  (.region false [0, 3, 10] [
    ⟨some 7, .mov (.t 3), none, []⟩,
    ⟨some 8, .mov (.t 0), none, []⟩,
    ⟨some 9, .len false 52 (.t 8), none, []⟩,
    ⟨some 10, .bin false .lss 3 (.t 7) (.t 9), none, []⟩])
  (.cond (.t 10)
    .skip
    (.exit 0)))
  (.seq
  (.block 1
    (.seq
    (.seq
    (.region false [0, 3, 17] [
      ⟨some 13, .mov (.t 0), none, []⟩,
      ⟨some 14, .mov (.t 3), none, []⟩,
      ⟨some 15, .ia 52 92 4 (.t 13) (.t 14), none, []⟩,
      ⟨some 16, .call 88 [(.t 15)], none, []⟩,
      ⟨some 17, .un .not (.t 16), none, []⟩])
    (.cond (.t 17)
      (.seq
      (.region false [2] [
        ⟨some 2, .asg (.c (.int .i64 3)), none, []⟩])
      .ret)
      .skip))
    (.seq
    (.region true [0, 3, 25] [
      ⟨some 18, .mov (.t 0), none, []⟩,
      ⟨some 19, .mov (.t 3), none, [0]⟩,
      ⟨some 20, .cut 52 (some 92) 4 (.t 18) none (some (.t 19)), none, []⟩,
      ⟨some 21, .mov (.t 0), none, [0, 1, 2]⟩,
      ⟨some 22, .mov (.t 3), none, [0, 1, 2, 3]⟩,
      ⟨some 23, .ia 52 92 4 (.t 21) (.t 22), none, [0, 1, 2]⟩,
      ⟨some 24, .load 92 true 4 (.t 23), none, [0, 1, 2]⟩,
      ⟨some 25, .call 89 [(.t 20), (.t 24)], none, []⟩])
    (.cond (.t 25)
      (.seq
      (.region false [2] [
        ⟨some 2, .asg (.c (.int .i64 6)), none, []⟩])
      .ret)
      .skip))))
  (.region false [0, 3] [
    ⟨some 11, .mov (.t 3), none, []⟩,
    ⟨some 12, .bin false .add 3 (.t 11) (.c (.int .i64 1)), none, []⟩,
    ⟨some 3, .asg (.t 12), none, []⟩])))
def l68_0 : VC := .loop b68_0
/-- loop.example/g00539/spec.l11Seen -/
def v68 : VFun := {
  code :=
    (.seq
    (.region false [0] [
      ⟨some 2, .asg (.c (.int .i64 0)), none, []⟩])
    (.seq
    (.seq
    (.region false [0, 6] [
      ⟨some 4, .mov (.t 0), none, []⟩,
      ⟨some 5, .len false 52 (.t 4), none, []⟩,
      ⟨some 6, .bin false .gtr 3 (.t 5) (.c (.int .i64 40)), none, []⟩])
    (.cond (.t 6)
      (.seq
      (.region false [2] [
        ⟨some 2, .asg (.c (.int .i64 2)), none, []⟩])
      .ret)
      .skip))
    (.seq
    (.seq
    (.region false [0, 3] [
      ⟨some 3, .asg (.c (.int .i64 0)), none, []⟩])
    (.block 0
      l68_0))
    (.seq
    (.region false [2] [
      ⟨some 2, .asg (.c (.int .i64 0)), none, []⟩])
    .ret))))
  modes := [.lend]
  rets := [⟨2, none⟩] }

/-- loop.example/g00539/laws.toKey -/
def v69 : VFun := {
  code :=
    (.seq
    (.region false [1, 2] [
      ⟨some 1, .box 94 (.t 0), none, []⟩,
      ⟨some 2, .alloc 92 [(.val (.int .i64 0)), (.val (.int .i64 0)), (.val (.int .i64 0)), (.val (.int .i64 0))], none, []⟩])
    (.seq
    (.region false [1, 2, 3] [
      ⟨some 3, .alloc 92 [(.val (.int .i64 0)), (.val (.int .i64 0)), (.val (.int .i64 0)), (.val (.int .i64 0))], none, []⟩])
    (.seq
    (.region false [1, 2, 3] [
      ⟨some 4, .fa 94 0 0 1 (.t 1), none, []⟩,
      ⟨some 5, .load 2 false 1 (.t 4), none, []⟩,
      ⟨some 6, .fa 92 0 0 1 (.t 3), none, []⟩,
      ⟨none, .store 2 1 (.t 6) (.t 5), none, []⟩])
    (.seq
    (.region false [1, 2, 3] [
      ⟨some 7, .fa 94 1 1 1 (.t 1), none, []⟩,
      ⟨some 8, .load 2 false 1 (.t 7), none, []⟩,
      ⟨some 9, .fa 92 1 1 1 (.t 3), none, []⟩,
      ⟨none, .store 2 1 (.t 9) (.t 8), none, []⟩])
    (.seq
    (.region false [1, 2, 3] [
      ⟨some 10, .fa 94 2 2 1 (.t 1), none, []⟩,
      ⟨some 11, .load 2 false 1 (.t 10), none, []⟩,
      ⟨some 12, .fa 92 2 2 1 (.t 3), none, []⟩,
      ⟨none, .store 2 1 (.t 12) (.t 11), none, []⟩])
    (.seq
    (.region false [2, 3] [
      ⟨some 13, .fa 94 3 3 1 (.t 1), none, []⟩,
      ⟨some 14, .load 2 false 1 (.t 13), none, []⟩,
      ⟨some 15, .fa 92 3 3 1 (.t 3), none, []⟩,
      ⟨none, .store 2 1 (.t 15) (.t 14), none, []⟩])
    (.seq
    (.region false [2] [
      ⟨some 16, .load 92 true 4 (.t 3), none, []⟩,
      ⟨none, .store 92 4 (.t 2) (.t 16), none, []⟩])
    .ret)))))))
  modes := [.lend]
  rets := [⟨2, some (true, 4)⟩] }

/-- loop.example/g00539/impl.keyOk -/
def v70 : VFun := {
  code :=
    (.seq
    (.region false [1] [
      ⟨some 1, .box 92 (.t 0), none, []⟩,
      ⟨some 2, .asg (.c (.bool false)), none, []⟩])
    (.seq
    (.region false [2] [
      ⟨some 3, .fa 92 0 0 1 (.t 1), none, []⟩,
      ⟨some 4, .load 2 false 1 (.t 3), none, []⟩,
      ⟨some 5, .call 90 [(.t 4)], none, []⟩,
      ⟨some 6, .mov (.t 5), none, []⟩,
      ⟨some 7, .fa 92 1 1 1 (.t 1), some (6, true), []⟩,
      ⟨some 8, .load 2 false 1 (.t 7), some (6, true), []⟩,
      ⟨some 9, .call 60 [(.t 8), (.c (.int .i64 0)), (.c (.int .i64 999))], some (6, true), []⟩,
      ⟨some 10, .pick (.t 6) (.t 9) (.c (.bool false)), none, []⟩,
      ⟨some 11, .mov (.t 10), none, []⟩,
      ⟨some 12, .fa 92 2 2 1 (.t 1), some (11, true), []⟩,
      ⟨some 13, .load 2 false 1 (.t 12), some (11, true), []⟩,
      ⟨some 14, .call 60 [(.t 13), (.c (.int .i64 0)), (.c (.int .i64 99999))], some (11, true), []⟩,
      ⟨some 15, .pick (.t 11) (.t 14) (.c (.bool false)), none, []⟩,
      ⟨some 16, .mov (.t 15), none, []⟩,
      ⟨some 17, .fa 92 3 3 1 (.t 1), some (16, true), []⟩,
      ⟨some 18, .load 2 false 1 (.t 17), some (16, true), []⟩,
      ⟨some 19, .call 60 [(.t 18), (.c (.int .i64 0)), (.c (.int .i64 65535))], some (16, true), []⟩,
      ⟨some 20, .pick (.t 16) (.t 19) (.c (.bool false)), none, []⟩,
      ⟨some 2, .asg (.t 20), none, []⟩])
    .ret))
  modes := [.lend]
  rets := [⟨2, none⟩] }

/-- slices.Contains[[]loop.example/g00539/impl.Key,loop.example/g00539/impl.Key] -/
def v71 : VFun := {
  code :=
    (.seq
    (.region false [0, 3] [
      ⟨some 3, .box 92 (.t 1), none, []⟩,
      ⟨some 4, .asg (.c (.bool false)), none, []⟩])
    (.seq
    (.region false [4] [
      ⟨some 5, .mov (.t 0), none, []⟩,
      ⟨some 6, .load 92 true 4 (.t 3), none, []⟩,
      ⟨some 7, .call 91 [(.t 5), (.t 6)], none, []⟩,
      ⟨some 8, .bin false .geq 3 (.t 7) (.c (.int .i64 0)), none, []⟩,
      ⟨some 4, .asg (.t 8), none, []⟩])
    .ret))
  modes := [.lend, .lend]
  rets := [⟨4, none⟩] }

/-- loop.example/g00539/laws.eqKey -/
def v72 : VFun := {
  code :=
    (.seq
    (.region false [2, 3] [
      ⟨some 2, .box 92 (.t 0), none, []⟩,
      ⟨some 3, .box 92 (.t 1), none, []⟩,
      ⟨some 4, .asg (.c (.bool false)), none, []⟩])
    (.seq
    (.seq
    (.region false [2, 3, 9] [
      ⟨some 5, .fa 92 0 0 1 (.t 2), none, []⟩,
      ⟨some 6, .load 2 false 1 (.t 5), none, []⟩,
      ⟨some 7, .fa 92 0 0 1 (.t 3), none, []⟩,
      ⟨some 8, .load 2 false 1 (.t 7), none, []⟩,
      ⟨some 9, .bin false .neq 2 (.t 6) (.t 8), none, []⟩])
    (.cond (.t 9)
      (.seq
      (.region false [4] [
        ⟨some 4, .asg (.c (.bool false)), none, []⟩])
      .ret)
      .skip))
    (.seq
    (.seq
    (.region false [2, 3, 14] [
      ⟨some 10, .fa 92 1 1 1 (.t 2), none, []⟩,
      ⟨some 11, .load 2 false 1 (.t 10), none, []⟩,
      ⟨some 12, .fa 92 1 1 1 (.t 3), none, []⟩,
      ⟨some 13, .load 2 false 1 (.t 12), none, []⟩,
      ⟨some 14, .bin false .neq 2 (.t 11) (.t 13), none, []⟩])
    (.cond (.t 14)
      (.seq
      (.region false [4] [
        ⟨some 4, .asg (.c (.bool false)), none, []⟩])
      .ret)
      .skip))
    (.seq
    (.seq
    (.region false [2, 3, 19] [
      ⟨some 15, .fa 92 2 2 1 (.t 2), none, []⟩,
      ⟨some 16, .load 2 false 1 (.t 15), none, []⟩,
      ⟨some 17, .fa 92 2 2 1 (.t 3), none, []⟩,
      ⟨some 18, .load 2 false 1 (.t 17), none, []⟩,
      ⟨some 19, .bin false .neq 2 (.t 16) (.t 18), none, []⟩])
    (.cond (.t 19)
      (.seq
      (.region false [4] [
        ⟨some 4, .asg (.c (.bool false)), none, []⟩])
      .ret)
      .skip))
    (.seq
    (.seq
    (.region false [24] [
      ⟨some 20, .fa 92 3 3 1 (.t 2), none, []⟩,
      ⟨some 21, .load 2 false 1 (.t 20), none, []⟩,
      ⟨some 22, .fa 92 3 3 1 (.t 3), none, []⟩,
      ⟨some 23, .load 2 false 1 (.t 22), none, []⟩,
      ⟨some 24, .bin false .neq 2 (.t 21) (.t 23), none, []⟩])
    (.cond (.t 24)
      (.seq
      (.region false [4] [
        ⟨some 4, .asg (.c (.bool false)), none, []⟩])
      .ret)
      .skip))
    (.seq
    (.region false [4] [
      ⟨some 4, .asg (.c (.bool true)), none, []⟩])
    .ret))))))
  modes := [.lend, .lend]
  rets := [⟨4, none⟩] }

/-- loop.example/g00539/spec.l11Key -/
def v88 : VFun := {
  code :=
    (.seq
    (.region false [0] [
      ⟨some 2, .asg (.c (.bool false)), none, []⟩])
    (.seq
    (.region false [2] [
      ⟨some 3, .mov (.t 0), none, []⟩,
      ⟨some 4, .nilc (.t 3), none, []⟩,
      ⟨some 5, .fa 92 0 0 1 (.t 4), none, []⟩,
      ⟨some 6, .load 2 false 1 (.t 5), none, []⟩,
      ⟨some 7, .call 57 [(.t 6), (.c (.int .i64 0)), (.c (.int .i64 9999))], none, []⟩,
      ⟨some 8, .mov (.t 7), none, []⟩,
      ⟨some 9, .mov (.t 0), some (8, true), []⟩,
      ⟨some 10, .nilc (.t 9), some (8, true), []⟩,
      ⟨some 11, .fa 92 1 1 1 (.t 10), some (8, true), []⟩,
      ⟨some 12, .load 2 false 1 (.t 11), some (8, true), []⟩,
      ⟨some 13, .call 57 [(.t 12), (.c (.int .i64 0)), (.c (.int .i64 999))], some (8, true), []⟩,
      ⟨some 14, .pick (.t 8) (.t 13) (.c (.bool false)), none, []⟩,
      ⟨some 15, .mov (.t 14), none, []⟩,
      ⟨some 16, .mov (.t 0), some (15, true), []⟩,
      ⟨some 17, .nilc (.t 16), some (15, true), []⟩,
      ⟨some 18, .fa 92 2 2 1 (.t 17), some (15, true), []⟩,
      ⟨some 19, .load 2 false 1 (.t 18), some (15, true), []⟩,
      ⟨some 20, .call 57 [(.t 19), (.c (.int .i64 0)), (.c (.int .i64 99999))], some (15, true), []⟩,
      ⟨some 21, .pick (.t 15) (.t 20) (.c (.bool false)), none, []⟩,
      ⟨some 22, .mov (.t 21), none, []⟩,
      ⟨some 23, .mov (.t 0), some (22, true), []⟩,
      ⟨some 24, .nilc (.t 23), some (22, true), []⟩,
      ⟨some 25, .fa 92 3 3 1 (.t 24), some (22, true), []⟩,
      ⟨some 26, .load 2 false 1 (.t 25), some (22, true), []⟩,
      ⟨some 27, .call 57 [(.t 26), (.c (.int .i64 0)), (.c (.int .i64 65535))], some (22, true), []⟩,
      ⟨some 28, .pick (.t 22) (.t 27) (.c (.bool false)), none, []⟩,
      ⟨some 2, .asg (.t 28), none, []⟩])
    .ret))
  modes := [.lend]
  rets := [⟨2, none⟩] }

def b89_0 : VC :=
  (.seq
  (.seq
  (.region false [0, 3, 5, 9] [
    ⟨some 6, .mov (.t 5), none, []⟩,
    ⟨some 7, .mov (.t 0), none, []⟩,
    ⟨some 8, .len false 52 (.t 7), none, []⟩,
    ⟨some 9, .bin false .lss 3 (.t 6) (.t 8), none, []⟩])
  (.cond (.t 9)
    .skip
    (.exit 0)))
  (.seq
  (.block 1
    (.seq
    (.region true [0, 3, 5, 17] [
      ⟨some 12, .mov (.t 0), none, []⟩,
      ⟨some 13, .mov (.t 5), none, [0]⟩,
      ⟨some 14, .ia 52 92 4 (.t 12) (.t 13), none, []⟩,
      ⟨some 15, .load 92 true 4 (.t 14), none, []⟩,
      ⟨some 16, .load 92 true 4 (.t 3), none, [0, 1, 2, 3]⟩,
      ⟨some 17, .eqs false 92 [1, 1, 1, 1] (.t 15) (.t 16), none, []⟩])
    (.cond (.t 17)
      (.seq
      (.region false [4] [
        ⟨some 4, .asg (.c (.bool true)), none, []⟩])
      .ret)
      .skip)))
  (.region false [0, 3, 5] [
    ⟨some 10, .mov (.t 5), none, []⟩,
    ⟨some 11, .bin false .add 3 (.t 10) (.c (.int .i64 1)), none, []⟩,
    ⟨some 5, .asg (.t 11), none, []⟩])))
def l89_0 : VC := .loop b89_0
/-- loop.example/g00539/spec.l11Has -/
def v89 : VFun := {
  code :=
    (.seq
    (.region false [0, 3] [
      ⟨some 3, .box 92 (.t 1), none, []⟩,
      ⟨some 4, .asg (.c (.bool false)), none, []⟩])
    (.seq
    (.seq
    (.region false [0, 3, 5] [
      ⟨some 5, .asg (.c (.int .i64 0)), none, []⟩])
    (.block 0
      l89_0))
    (.seq
    (.region false [4] [
      ⟨some 4, .asg (.c (.bool false)), none, []⟩])
    .ret)))
  modes := [.lend, .lend]
  rets := [⟨4, none⟩] }

/-- loop.example/g00539/impl.isJob -/
def v90 : VFun := {
  code :=
    (.seq
    (.region false [0] [
      ⟨some 2, .asg (.c (.bool false)), none, []⟩])
    (.seq
    (.region false [2] [
      ⟨some 3, .mov (.t 0), none, []⟩,
      ⟨some 4, .call 60 [(.t 3), (.c (.int .i64 0)), (.c (.int .i64 9999))], none, []⟩,
      ⟨some 2, .asg (.t 4), none, []⟩])
    .ret))
  modes := [.lend]
  rets := [⟨2, none⟩] }

def b91_0 : VC :=
  (.seq
  (.region false [0, 3, 7, 8, 9] [
    ⟨some 9, .bin false .lss 3 (.t 8) (.t 7), none, []⟩])
  (.seq
  (.cond (.t 9)
    .skip
    (.exit 0))
  (.seq
  (.block 1
    (.seq
    (.region false [0, 3, 5, 7, 8] [
      ⟨some 10, .mov (.t 8), none, []⟩,
      ⟨some 5, .asg (.t 10), none, []⟩])
    (.seq
    (.region true [0, 3, 5, 7, 8, 16] [
      ⟨some 11, .load 92 true 4 (.t 3), none, []⟩,
      ⟨some 12, .mov (.t 0), none, [0]⟩,
      ⟨some 13, .mov (.t 5), none, [0, 1]⟩,
      ⟨some 14, .ia 52 92 4 (.t 12) (.t 13), none, [0]⟩,
      ⟨some 15, .load 92 true 4 (.t 14), none, [0]⟩,
      ⟨some 16, .eqs false 92 [1, 1, 1, 1] (.t 11) (.t 15), none, []⟩])
    (.cond (.t 16)
      (.seq
      (.region false [4] [
        ⟨some 17, .mov (.t 5), none, []⟩,
        ⟨some 4, .asg (.t 17), none, []⟩])
      .ret)
      .skip))))
  (.region false [0, 3, 7, 8] [
    ⟨some 18, .bin false .add 3 (.t 8) (.c (.int .i64 1)), none, []⟩,
    ⟨some 8, .mov (.t 18), none, []⟩]))))
def l91_0 : VC := .loop b91_0
/-- slices.Index[[]loop.example/g00539/impl.Key,loop.example/g00539/impl.Key] -/
def v91 : VFun := {
  code :=
    (.seq
    (.region false [0, 3] [
      ⟨some 3, .box 92 (.t 1), none, []⟩,
      ⟨some 4, .asg (.c (.int .i64 0)), none, []⟩])
    (.seq
    (.seq
    (.region false [0, 3, 7, 8] [
      ⟨some 6, .mov (.t 0), none, []⟩,
      ⟨some 7, .len false 52 (.t 6), none, []⟩,
      ⟨some 8, .mov (.c (.int .i64 0)), none, []⟩])
    (.block 0
      l91_0))
    (.seq
    (.region false [4] [
      ⟨some 4, .asg (.c (.int .i64 (-1))), none, []⟩])
    .ret)))
  modes := [.lend, .lend]
  rets := [⟨4, none⟩] }

def tab : List (Nat × VFun) := [(8, v8), (31, v31), (32, v32), (33, v33), (34, v34), (35, v35), (57, v57), (60, v60), (68, v68), (69, v69), (70, v70), (71, v71), (72, v72), (88, v88), (89, v89), (90, v90), (91, v91)]
def F (f : FuncId) : Option VFun := getA none (tab.map fun x => (x.1, some x.2)) f
theorem tab_ok : tab.all (fun x => matchFun Try.prog x.1 x.2) = true := by kernel_rfl
theorem F_mem {f : FuncId} {fn : VFun} : ∀ {l : List (Nat × VFun)}, getA none (l.map fun x => (x.1, some x.2)) f = some fn → (f, fn) ∈ l
  | [], h => by simp [getA] at h
  | (k, v) :: l, h => by
    simp only [List.map_cons, getA] at h
    split at h
    · rename_i e
      injection h with h
      subst e; subst h
      exact List.mem_cons_self ..
    · exact List.mem_cons_of_mem _ (F_mem h)
theorem F_ok (f : FuncId) (fn : VFun) (h : F f = some fn) : matchFun Try.prog f fn = true := List.all_eq_true.1 tab_ok _ (F_mem h)
end Go.Proofs.Ythpmfdcmnnbjcaa.SeenFault
