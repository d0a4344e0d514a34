/- V's text of the functions that this law reaches. -/
import Derived.Test.YthpmfdcmnnbjcaaVCode
import Derived.Test.YthpmfdcmnnbjcaaRows
import Derived.KernelRfl
namespace Go.Proofs.Ythpmfdcmnnbjcaa.NewMeter
open Go Go.Proofs.Ythpmfdcmnnbjcaa.V

/-- loop.example/g00539/laws.FnExactNewMeter -/
def v5 : VFun := {
  code :=
    (.seq
    (.region false [0, 1, 2, 3] [
      ⟨some 8, .asg (.c (.bool false)), none, []⟩])
    (.seq
    (.region false [0, 1, 2, 3, 9] [
      ⟨some 11, .mov (.t 0), none, []⟩,
      ⟨some 12, .mov (.t 1), none, []⟩,
      ⟨some 13, .mov (.t 2), none, []⟩,
      ⟨some 14, .mov (.t 3), none, []⟩,
      ⟨some 15, .call 21 [(.t 11), (.t 12), (.t 13), (.t 14)], none, []⟩,
      ⟨some 9, .alloc 34 [(.val (.int .i64 0)), (.val (.bool false)), (.val (.int .i64 0)), (.val (.int .i64 0)), (.val (.int .i64 0)), (.val (.int .i64 0)), (.val (.int .i64 0)), (.val (.int .i64 0)), (.val (.int .i64 0))], none, []⟩,
      ⟨none, .store 34 9 (.t 9) (.t 15), none, []⟩])
    (.seq
    (.region false [9, 10] [
      ⟨some 16, .mov (.t 0), none, []⟩,
      ⟨some 17, .mov (.t 1), none, []⟩,
      ⟨some 18, .mov (.t 2), none, []⟩,
      ⟨some 19, .mov (.t 3), none, []⟩,
      ⟨some 20, .call 22 [(.t 16), (.t 17), (.t 18), (.t 19)], none, []⟩,
      ⟨some 10, .alloc 34 [(.val (.int .i64 0)), (.val (.bool false)), (.val (.int .i64 0)), (.val (.int .i64 0)), (.val (.int .i64 0)), (.val (.int .i64 0)), (.val (.int .i64 0)), (.val (.int .i64 0)), (.val (.int .i64 0))], none, []⟩,
      ⟨none, .store 34 9 (.t 10) (.t 20), none, []⟩])
    (.seq
    (.seq
    (.region false [24] [
      ⟨some 21, .load 34 true 9 (.t 10), none, []⟩,
      ⟨some 22, .load 34 true 9 (.t 9), none, []⟩,
      ⟨some 23, .call 23 [(.t 21), (.t 22)], none, []⟩,
      ⟨some 24, .un .not (.t 23), none, []⟩])
    (.cond (.t 24)
      (.seq
      (.region false [8] [
        ⟨some 8, .asg (.c (.bool false)), none, []⟩])
      .ret)
      .skip))
    (.seq
    (.region false [8] [
      ⟨some 8, .asg (.c (.bool true)), none, []⟩])
    .ret)))))
  modes := [.lend, .lend, .lend, .lend]
  rets := [⟨8, none⟩] }

/-- loop.example/g00539/impl.MeterFault -/
def v20 : VFun := {
  code :=
    (.seq
    (.region false [1] [
      ⟨some 1, .box 30 (.t 0), none, []⟩,
      ⟨some 2, .asg (.c (.int .i64 0)), none, []⟩])
    (.seq
    (.region false [1, 3, 4, 5, 6, 7, 8, 9, 10, 11, 12, 17, 18, 19, 20, 21, 22, 23, 24, 25, 26, 27] [
      ⟨some 4, .fa 30 1 1 1 (.t 1), none, []⟩,
      ⟨some 5, .load 2 false 1 (.t 4), none, []⟩,
      ⟨some 6, .call 58 [(.t 5)], none, []⟩,
      ⟨some 7, .mov (.t 6), none, []⟩,
      ⟨some 8, .fa 30 2 2 1 (.t 1), some (7, true), []⟩,
      ⟨some 9, .load 2 false 1 (.t 8), some (7, true), []⟩,
      ⟨some 10, .call 58 [(.t 9)], some (7, true), []⟩,
      ⟨some 11, .pick (.t 7) (.t 10) (.c (.bool false)), none, []⟩,
      ⟨some 12, .mov (.t 11), none, []⟩,
      ⟨some 13, .fa 30 1 1 1 (.t 1), some (12, true), []⟩,
      ⟨some 14, .load 2 false 1 (.t 13), some (12, true), []⟩,
      ⟨some 15, .fa 30 2 2 1 (.t 1), some (12, true), []⟩,
      ⟨some 16, .load 2 false 1 (.t 15), some (12, true), []⟩,
      ⟨some 17, .bin false .leq 2 (.t 14) (.t 16), some (12, true), []⟩,
      ⟨some 18, .pick (.t 12) (.t 17) (.c (.bool false)), none, []⟩,
      ⟨some 19, .mov (.t 18), none, []⟩,
      ⟨some 20, .fa 30 0 0 1 (.t 1), some (19, true), []⟩,
      ⟨some 21, .load 2 false 1 (.t 20), some (19, true), []⟩,
      ⟨some 22, .fa 30 1 1 1 (.t 1), some (19, true), []⟩,
      ⟨some 23, .load 2 false 1 (.t 22), some (19, true), []⟩,
      ⟨some 24, .fa 30 2 2 1 (.t 1), some (19, true), []⟩,
      ⟨some 25, .load 2 false 1 (.t 24), some (19, true), []⟩,
      ⟨some 26, .call 60 [(.t 21), (.t 23), (.t 25)], some (19, true), []⟩,
      ⟨some 27, .pick (.t 19) (.t 26) (.c (.bool false)), none, []⟩,
      ⟨some 3, .asg (.t 27), none, []⟩])
    (.seq
    (.seq
    (.region false [29, 30, 34, 35, 36, 40, 41, 42, 49, 50, 51, 55, 56] [
      ⟨some 28, .mov (.t 3), none, []⟩,
      ⟨some 29, .un .not (.t 28), none, []⟩,
      ⟨some 30, .mov (.t 29), none, []⟩,
      ⟨some 31, .fa 30 3 3 1 (.t 1), some (30, false), []⟩,
      ⟨some 32, .load 2 false 1 (.t 31), some (30, false), []⟩,
      ⟨some 33, .call 60 [(.t 32), (.c (.int .i64 1)), (.c (.int .i64 999))], some (30, false), []⟩,
      ⟨some 34, .un .not (.t 33), some (30, false), []⟩,
      ⟨some 35, .pick (.t 30) (.c (.bool true)) (.t 34), none, []⟩,
      ⟨some 36, .mov (.t 35), none, []⟩,
      ⟨some 37, .fa 30 4 4 1 (.t 1), some (36, false), []⟩,
      ⟨some 38, .load 2 false 1 (.t 37), some (36, false), []⟩,
      ⟨some 39, .call 60 [(.t 38), (.c (.int .i64 1)), (.c (.int .i64 99))], some (36, false), []⟩,
      ⟨some 40, .un .not (.t 39), some (36, false), []⟩,
      ⟨some 41, .pick (.t 36) (.c (.bool true)) (.t 40), none, []⟩,
      ⟨some 42, .mov (.t 41), none, []⟩,
      ⟨some 43, .fa 30 5 5 1 (.t 1), some (42, false), []⟩,
      ⟨some 44, .load 2 false 1 (.t 43), some (42, false), []⟩,
      ⟨some 45, .fa 30 4 4 1 (.t 1), some (42, false), []⟩,
      ⟨some 46, .load 2 false 1 (.t 45), some (42, false), []⟩,
      ⟨some 47, .bin false .sub 2 (.t 46) (.c (.int .i64 1)), some (42, false), []⟩,
      ⟨some 48, .call 60 [(.t 44), (.c (.int .i64 0)), (.t 47)], some (42, false), []⟩,
      ⟨some 49, .un .not (.t 48), some (42, false), []⟩,
      ⟨some 50, .pick (.t 42) (.c (.bool true)) (.t 49), none, []⟩,
      ⟨some 51, .mov (.t 50), none, []⟩,
      ⟨some 52, .fa 30 6 6 1 (.t 1), some (51, false), []⟩,
      ⟨some 53, .load 2 false 1 (.t 52), some (51, false), []⟩,
      ⟨some 54, .call 60 [(.t 53), (.c (.int .i64 0)), (.c (.int .i64 99999))], some (51, false), []⟩,
      ⟨some 55, .un .not (.t 54), some (51, false), []⟩,
      ⟨some 56, .pick (.t 51) (.c (.bool true)) (.t 55), none, []⟩])
    (.cond (.t 56)
      (.seq
      (.region false [2] [
        ⟨some 2, .asg (.c (.int .i64 3)), none, []⟩])
      .ret)
      .skip))
    (.seq
    (.region false [2] [
      ⟨some 2, .asg (.c (.int .i64 0)), none, []⟩])
    .ret))))
  modes := [.lend]
  rets := [⟨2, none⟩] }

/-- loop.example/g00539/spec.NewMeter -/
def v21 : VFun := {
  code :=
    (.seq
    (.region false [0, 1, 2, 3, 8] [
      ⟨some 8, .alloc 34 [(.val (.int .i64 0)), (.val (.bool false)), (.val (.int .i64 0)), (.val (.int .i64 0)), (.val (.int .i64 0)), (.val (.int .i64 0)), (.val (.int .i64 0)), (.val (.int .i64 0)), (.val (.int .i64 0))], none, []⟩])
    (.seq
    (.region false [8, 9] [
      ⟨some 11, .mov (.t 0), none, []⟩,
      ⟨some 12, .mov (.t 0), none, []⟩,
      ⟨some 13, .mov (.t 1), none, []⟩,
      ⟨some 14, .mov (.t 2), none, []⟩,
      ⟨some 15, .mov (.t 3), none, []⟩,
      ⟨some 16, .build 30 [(.val (.int .i64 0)), (.val (.int .i64 0)), (.val (.int .i64 0)), (.val (.int .i64 0)), (.val (.int .i64 0)), (.val (.int .i64 0)), (.val (.int .i64 0))] [(0, 0, 1, (.t 11)), (1, 1, 1, (.t 12)), (2, 2, 1, (.t 13)), (3, 3, 1, (.t 14)), (4, 4, 1, (.t 15))], none, []⟩,
      ⟨some 9, .alloc 30 [(.val (.int .i64 0)), (.val (.int .i64 0)), (.val (.int .i64 0)), (.val (.int .i64 0)), (.val (.int .i64 0)), (.val (.int .i64 0)), (.val (.int .i64 0))], none, []⟩,
      ⟨none, .store 30 7 (.t 9) (.t 16), none, []⟩])
    (.seq
    (.seq
    (.region false [8, 9, 10, 17] [
      ⟨some 17, .call 59 [(.t 9)], none, []⟩,
      ⟨some 10, .asg (.t 17), none, []⟩])
    (.seq
    (.region false [8, 9, 10, 17, 19] [
      ⟨some 18, .mov (.t 10), none, []⟩,
      ⟨some 19, .bin false .neq 2 (.t 18) (.c (.int .i64 0)), none, []⟩])
    (.cond (.t 19)
      (.seq
      (.region false [8] [
        ⟨some 20, .mov (.t 10), none, []⟩,
        ⟨some 21, .build 34 [(.val (.int .i64 0)), (.val (.bool false)), (.val (.int .i64 0)), (.val (.int .i64 0)), (.val (.int .i64 0)), (.val (.int .i64 0)), (.val (.int .i64 0)), (.val (.int .i64 0)), (.val (.int .i64 0))] [(0, 0, 1, (.t 20))], none, []⟩,
        ⟨none, .store 34 9 (.t 8) (.t 21), none, []⟩])
      .ret)
      .skip)))
    (.seq
    (.region false [8] [
      ⟨some 22, .load 30 true 7 (.t 9), none, []⟩,
      ⟨some 23, .build 34 [(.val (.int .i64 0)), (.val (.bool false)), (.val (.int .i64 0)), (.val (.int .i64 0)), (.val (.int .i64 0)), (.val (.int .i64 0)), (.val (.int .i64 0)), (.val (.int .i64 0)), (.val (.int .i64 0))] [(2, 2, 7, (.t 22))], none, []⟩,
      ⟨none, .store 34 9 (.t 8) (.t 23), none, []⟩])
    .ret))))
  modes := [.lend, .lend, .lend, .lend]
  rets := [⟨8, some (true, 9)⟩] }

/-- loop.example/g00539/impl.NewMeter -/
def v22 : VFun := {
  code :=
    (.seq
    (.region false [0, 1, 2, 3, 8] [
      ⟨some 8, .alloc 34 [(.val (.int .i64 0)), (.val (.bool false)), (.val (.int .i64 0)), (.val (.int .i64 0)), (.val (.int .i64 0)), (.val (.int .i64 0)), (.val (.int .i64 0)), (.val (.int .i64 0)), (.val (.int .i64 0))], none, []⟩])
    (.seq
    (.region false [8, 9] [
      ⟨some 11, .mov (.t 0), none, []⟩,
      ⟨some 12, .mov (.t 0), none, []⟩,
      ⟨some 13, .mov (.t 1), none, []⟩,
      ⟨some 14, .mov (.t 2), none, []⟩,
      ⟨some 15, .mov (.t 3), none, []⟩,
      ⟨some 16, .build 30 [(.val (.int .i64 0)), (.val (.int .i64 0)), (.val (.int .i64 0)), (.val (.int .i64 0)), (.val (.int .i64 0)), (.val (.int .i64 0)), (.val (.int .i64 0))] [(0, 0, 1, (.t 11)), (1, 1, 1, (.t 12)), (2, 2, 1, (.t 13)), (3, 3, 1, (.t 14)), (4, 4, 1, (.t 15))], none, []⟩,
      ⟨some 9, .alloc 30 [(.val (.int .i64 0)), (.val (.int .i64 0)), (.val (.int .i64 0)), (.val (.int .i64 0)), (.val (.int .i64 0)), (.val (.int .i64 0)), (.val (.int .i64 0))], none, []⟩,
      ⟨none, .store 30 7 (.t 9) (.t 16), none, []⟩])
    (.seq
    (.seq
    (.region false [8, 9, 10, 17, 18] [
      ⟨some 17, .load 30 true 7 (.t 9), none, []⟩,
      ⟨some 18, .call 20 [(.t 17)], none, []⟩,
      ⟨some 10, .asg (.t 18), none, []⟩])
    (.seq
    (.region false [8, 9, 10, 17, 18, 20] [
      ⟨some 19, .mov (.t 10), none, []⟩,
      ⟨some 20, .bin false .neq 2 (.t 19) (.c (.int .i64 0)), none, []⟩])
    (.cond (.t 20)
      (.seq
      (.region false [8] [
        ⟨some 21, .mov (.t 10), none, []⟩,
        ⟨some 22, .build 34 [(.val (.int .i64 0)), (.val (.bool false)), (.val (.int .i64 0)), (.val (.int .i64 0)), (.val (.int .i64 0)), (.val (.int .i64 0)), (.val (.int .i64 0)), (.val (.int .i64 0)), (.val (.int .i64 0))] [(0, 0, 1, (.t 21))], none, []⟩,
        ⟨none, .store 34 9 (.t 8) (.t 22), none, []⟩])
      .ret)
      .skip)))
    (.seq
    (.region false [8] [
      ⟨some 23, .load 30 true 7 (.t 9), none, []⟩,
      ⟨some 24, .build 34 [(.val (.int .i64 0)), (.val (.bool false)), (.val (.int .i64 0)), (.val (.int .i64 0)), (.val (.int .i64 0)), (.val (.int .i64 0)), (.val (.int .i64 0)), (.val (.int .i64 0)), (.val (.int .i64 0))] [(2, 2, 7, (.t 23))], none, []⟩,
      ⟨none, .store 34 9 (.t 8) (.t 24), none, []⟩])
    .ret))))
  modes := [.lend, .lend, .lend, .lend]
  rets := [⟨8, some (true, 9)⟩] }

/-- loop.example/g00539/laws.eqMeterResult -/
def v23 : VFun := {
  code :=
    (.seq
    (.region false [2, 3] [
      ⟨some 2, .box 34 (.t 0), none, []⟩,
      ⟨some 3, .box 34 (.t 1), none, []⟩,
      ⟨some 4, .asg (.c (.bool false)), none, []⟩])
    (.seq
    (.seq
    (.region false [2, 3, 9] [
      ⟨some 5, .fa 34 0 0 1 (.t 2), none, []⟩,
      ⟨some 6, .load 2 false 1 (.t 5), none, []⟩,
      ⟨some 7, .fa 34 0 0 1 (.t 3), none, []⟩,
      ⟨some 8, .load 2 false 1 (.t 7), none, []⟩,
      ⟨some 9, .bin false .neq 2 (.t 6) (.t 8), none, []⟩])
    (.cond (.t 9)
      (.seq
      (.region false [4] [
        ⟨some 4, .asg (.c (.bool false)), none, []⟩])
      .ret)
      .skip))
    (.seq
    (.seq
    (.region false [2, 3, 14] [
      ⟨some 10, .fa 34 1 1 1 (.t 2), none, []⟩,
      ⟨some 11, .load 4 false 1 (.t 10), none, []⟩,
      ⟨some 12, .fa 34 1 1 1 (.t 3), none, []⟩,
      ⟨some 13, .load 4 false 1 (.t 12), none, []⟩,
      ⟨some 14, .bin true .neq 4 (.t 11) (.t 13), none, []⟩])
    (.cond (.t 14)
      (.seq
      (.region false [4] [
        ⟨some 4, .asg (.c (.bool false)), none, []⟩])
      .ret)
      .skip))
    (.seq
    (.seq
    (.region false [20] [
      ⟨some 15, .fa 34 2 2 7 (.t 2), none, []⟩,
      ⟨some 16, .load 30 true 7 (.t 15), none, []⟩,
      ⟨some 17, .fa 34 2 2 7 (.t 3), none, []⟩,
      ⟨some 18, .load 30 true 7 (.t 17), none, []⟩,
      ⟨some 19, .call 61 [(.t 16), (.t 18)], none, []⟩,
      ⟨some 20, .un .not (.t 19), none, []⟩])
    (.cond (.t 20)
      (.seq
      (.region false [4] [
        ⟨some 4, .asg (.c (.bool false)), none, []⟩])
      .ret)
      .skip))
    (.seq
    (.region false [4] [
      ⟨some 4, .asg (.c (.bool true)), none, []⟩])
    .ret)))))
  modes := [.lend, .lend]
  rets := [⟨4, none⟩] }

/-- loop.example/g00539/spec.l1In -/
def v57 : VFun := {
  code :=
    (.seq
    (.region false [0, 1, 2] [
      ⟨some 6, .asg (.c (.bool false)), none, []⟩])
    (.seq
    (.region false [6, 9, 10, 13, 14] [
      ⟨some 7, .mov (.t 0), none, []⟩,
      ⟨some 8, .mov (.t 1), none, []⟩,
      ⟨some 9, .bin false .geq 2 (.t 7) (.t 8), none, []⟩,
      ⟨some 10, .mov (.t 9), none, []⟩,
      ⟨some 11, .mov (.t 0), some (10, true), []⟩,
      ⟨some 12, .mov (.t 2), some (10, true), []⟩,
      ⟨some 13, .bin false .leq 2 (.t 11) (.t 12), some (10, true), []⟩,
      ⟨some 14, .pick (.t 10) (.t 13) (.c (.bool false)), none, []⟩,
      ⟨some 6, .asg (.t 14), none, []⟩])
    .ret))
  modes := [.lend, .lend, .lend]
  rets := [⟨6, none⟩] }

/-- loop.example/g00539/impl.isLevel -/
def v58 : VFun := {
  code :=
    (.seq
    (.region false [0] [
      ⟨some 2, .asg (.c (.bool false)), none, []⟩])
    (.seq
    (.region false [0, 2, 3, 4] [
      ⟨some 3, .mov (.t 0), none, []⟩,
      ⟨some 4, .call 60 [(.t 3), (.c (.int .i64 1)), (.c (.int .i64 9999))], none, []⟩,
      ⟨some 2, .asg (.t 4), none, []⟩])
    .ret))
  modes := [.lend]
  rets := [⟨2, none⟩] }

/-- loop.example/g00539/spec.l12Fault -/
def v59 : VFun := {
  code :=
    (.seq
    (.region false [0] [
      ⟨some 2, .asg (.c (.int .i64 0)), none, []⟩])
    (.seq
    (.seq
    (.region true [8, 9, 19, 20, 21, 35, 36, 37, 43, 44, 45, 51, 52, 53, 64, 65, 66, 72, 73] [
      ⟨some 3, .mov (.t 0), none, []⟩,
      ⟨some 4, .nilc (.t 3), none, []⟩,
      ⟨some 5, .fa 30 1 1 1 (.t 4), none, []⟩,
      ⟨some 6, .load 2 false 1 (.t 5), none, []⟩,
      ⟨some 7, .call 57 [(.t 6), (.c (.int .i64 1)), (.c (.int .i64 9999))], none, []⟩,
      ⟨some 8, .un .not (.t 7), none, []⟩,
      ⟨some 9, .mov (.t 8), none, []⟩,
      ⟨some 10, .mov (.t 0), some (9, false), []⟩,
      ⟨some 11, .nilc (.t 10), some (9, false), []⟩,
      ⟨some 12, .fa 30 2 2 1 (.t 11), some (9, false), []⟩,
      ⟨some 13, .load 2 false 1 (.t 12), some (9, false), []⟩,
      ⟨some 14, .mov (.t 0), some (9, false), [7, 8, 9, 10]⟩,
      ⟨some 15, .nilc (.t 14), some (9, false), [7, 8, 9, 10]⟩,
      ⟨some 16, .fa 30 1 1 1 (.t 15), some (9, false), [7, 8, 9, 10]⟩,
      ⟨some 17, .load 2 false 1 (.t 16), some (9, false), [7, 8, 9, 10]⟩,
      ⟨some 18, .call 57 [(.t 13), (.t 17), (.c (.int .i64 9999))], some (9, false), []⟩,
      ⟨some 19, .un .not (.t 18), some (9, false), []⟩,
      ⟨some 20, .pick (.t 9) (.c (.bool true)) (.t 19), none, []⟩,
      ⟨some 21, .mov (.t 20), none, []⟩,
      ⟨some 22, .mov (.t 0), some (21, false), []⟩,
      ⟨some 23, .nilc (.t 22), some (21, false), []⟩,
      ⟨some 24, .fa 30 0 0 1 (.t 23), some (21, false), []⟩,
      ⟨some 25, .load 2 false 1 (.t 24), some (21, false), []⟩,
      ⟨some 26, .mov (.t 0), some (21, false), [19, 20, 21, 22]⟩,
      ⟨some 27, .nilc (.t 26), some (21, false), [19, 20, 21, 22]⟩,
      ⟨some 28, .fa 30 1 1 1 (.t 27), some (21, false), [19, 20, 21, 22]⟩,
      ⟨some 29, .load 2 false 1 (.t 28), some (21, false), [19, 20, 21, 22]⟩,
      ⟨some 30, .mov (.t 0), some (21, false), [19, 20, 21, 22, 23, 24, 25, 26]⟩,
      ⟨some 31, .nilc (.t 30), some (21, false), [19, 20, 21, 22, 23, 24, 25, 26]⟩,
      ⟨some 32, .fa 30 2 2 1 (.t 31), some (21, false), [19, 20, 21, 22, 23, 24, 25, 26]⟩,
      ⟨some 33, .load 2 false 1 (.t 32), some (21, false), [19, 20, 21, 22, 23, 24, 25, 26]⟩,
      ⟨some 34, .call 57 [(.t 25), (.t 29), (.t 33)], some (21, false), []⟩,
      ⟨some 35, .un .not (.t 34), some (21, false), []⟩,
      ⟨some 36, .pick (.t 21) (.c (.bool true)) (.t 35), none, []⟩,
      ⟨some 37, .mov (.t 36), none, []⟩,
      ⟨some 38, .mov (.t 0), some (37, false), []⟩,
      ⟨some 39, .nilc (.t 38), some (37, false), []⟩,
      ⟨some 40, .fa 30 3 3 1 (.t 39), some (37, false), []⟩,
      ⟨some 41, .load 2 false 1 (.t 40), some (37, false), []⟩,
      ⟨some 42, .call 57 [(.t 41), (.c (.int .i64 1)), (.c (.int .i64 999))], some (37, false), []⟩,
      ⟨some 43, .un .not (.t 42), some (37, false), []⟩,
      ⟨some 44, .pick (.t 37) (.c (.bool true)) (.t 43), none, []⟩,
      ⟨some 45, .mov (.t 44), none, []⟩,
      ⟨some 46, .mov (.t 0), some (45, false), []⟩,
      ⟨some 47, .nilc (.t 46), some (45, false), []⟩,
      ⟨some 48, .fa 30 4 4 1 (.t 47), some (45, false), []⟩,
      ⟨some 49, .load 2 false 1 (.t 48), some (45, false), []⟩,
      ⟨some 50, .call 57 [(.t 49), (.c (.int .i64 1)), (.c (.int .i64 99))], some (45, false), []⟩,
      ⟨some 51, .un .not (.t 50), some (45, false), []⟩,
      ⟨some 52, .pick (.t 45) (.c (.bool true)) (.t 51), none, []⟩,
      ⟨some 53, .mov (.t 52), none, []⟩,
      ⟨some 54, .mov (.t 0), some (53, false), []⟩,
      ⟨some 55, .nilc (.t 54), some (53, false), []⟩,
      ⟨some 56, .fa 30 5 5 1 (.t 55), some (53, false), []⟩,
      ⟨some 57, .load 2 false 1 (.t 56), some (53, false), []⟩,
      ⟨some 58, .mov (.t 0), some (53, false), [51, 52, 53, 54]⟩,
      ⟨some 59, .nilc (.t 58), some (53, false), [51, 52, 53, 54]⟩,
      ⟨some 60, .fa 30 4 4 1 (.t 59), some (53, false), [51, 52, 53, 54]⟩,
      ⟨some 61, .load 2 false 1 (.t 60), some (53, false), [51, 52, 53, 54]⟩,
      ⟨some 62, .bin false .sub 2 (.t 61) (.c (.int .i64 1)), some (53, false), [51, 52, 53, 54]⟩,
      ⟨some 63, .call 57 [(.t 57), (.c (.int .i64 0)), (.t 62)], some (53, false), []⟩,
      ⟨some 64, .un .not (.t 63), some (53, false), []⟩,
      ⟨some 65, .pick (.t 53) (.c (.bool true)) (.t 64), none, []⟩,
      ⟨some 66, .mov (.t 65), none, []⟩,
      ⟨some 67, .mov (.t 0), some (66, false), []⟩,
      ⟨some 68, .nilc (.t 67), some (66, false), []⟩,
      ⟨some 69, .fa 30 6 6 1 (.t 68), some (66, false), []⟩,
      ⟨some 70, .load 2 false 1 (.t 69), some (66, false), []⟩,
      ⟨some 71, .call 57 [(.t 70), (.c (.int .i64 0)), (.c (.int .i64 99999))], some (66, false), []⟩,
      ⟨some 72, .un .not (.t 71), some (66, false), []⟩,
      ⟨some 73, .pick (.t 66) (.c (.bool true)) (.t 72), none, []⟩])
    (.cond (.t 73)
      (.seq
      (.region false [2] [
        ⟨some 2, .asg (.c (.int .i64 3)), none, []⟩])
      .ret)
      .skip))
    (.seq
    (.region false [2] [
      ⟨some 2, .asg (.c (.int .i64 0)), none, []⟩])
    .ret)))
  modes := [.lend]
  rets := [⟨2, none⟩] }

/-- loop.example/g00539/impl.in -/
def v60 : VFun := {
  code :=
    (.seq
    (.region false [0, 1, 2] [
      ⟨some 6, .asg (.c (.bool false)), none, []⟩])
    (.seq
    (.region false [6, 9, 10, 13, 14] [
      ⟨some 7, .mov (.t 0), none, []⟩,
      ⟨some 8, .mov (.t 1), none, []⟩,
      ⟨some 9, .bin false .geq 2 (.t 7) (.t 8), none, []⟩,
      ⟨some 10, .mov (.t 9), none, []⟩,
      ⟨some 11, .mov (.t 0), some (10, true), []⟩,
      ⟨some 12, .mov (.t 2), some (10, true), []⟩,
      ⟨some 13, .bin false .leq 2 (.t 11) (.t 12), some (10, true), []⟩,
      ⟨some 14, .pick (.t 10) (.t 13) (.c (.bool false)), none, []⟩,
      ⟨some 6, .asg (.t 14), none, []⟩])
    .ret))
  modes := [.lend, .lend, .lend]
  rets := [⟨6, none⟩] }

/-- loop.example/g00539/laws.eqMeter -/
def v61 : VFun := {
  code :=
    (.seq
    (.region false [2, 3] [
      ⟨some 2, .box 30 (.t 0), none, []⟩,
      ⟨some 3, .box 30 (.t 1), none, []⟩,
      ⟨some 4, .asg (.c (.bool false)), none, []⟩])
    (.seq
    (.seq
    (.region false [2, 3, 9] [
      ⟨some 5, .fa 30 0 0 1 (.t 2), none, []⟩,
      ⟨some 6, .load 2 false 1 (.t 5), none, []⟩,
      ⟨some 7, .fa 30 0 0 1 (.t 3), none, []⟩,
      ⟨some 8, .load 2 false 1 (.t 7), none, []⟩,
      ⟨some 9, .bin false .neq 2 (.t 6) (.t 8), none, []⟩])
    (.cond (.t 9)
      (.seq
      (.region false [4] [
        ⟨some 4, .asg (.c (.bool false)), none, []⟩])
      .ret)
      .skip))
    (.seq
    (.seq
    (.region false [2, 3, 14] [
      ⟨some 10, .fa 30 1 1 1 (.t 2), none, []⟩,
      ⟨some 11, .load 2 false 1 (.t 10), none, []⟩,
      ⟨some 12, .fa 30 1 1 1 (.t 3), none, []⟩,
      ⟨some 13, .load 2 false 1 (.t 12), none, []⟩,
      ⟨some 14, .bin false .neq 2 (.t 11) (.t 13), none, []⟩])
    (.cond (.t 14)
      (.seq
      (.region false [4] [
        ⟨some 4, .asg (.c (.bool false)), none, []⟩])
      .ret)
      .skip))
    (.seq
    (.seq
    (.region false [2, 3, 19] [
      ⟨some 15, .fa 30 2 2 1 (.t 2), none, []⟩,
      ⟨some 16, .load 2 false 1 (.t 15), none, []⟩,
      ⟨some 17, .fa 30 2 2 1 (.t 3), none, []⟩,
      ⟨some 18, .load 2 false 1 (.t 17), none, []⟩,
      ⟨some 19, .bin false .neq 2 (.t 16) (.t 18), none, []⟩])
    (.cond (.t 19)
      (.seq
      (.region false [4] [
        ⟨some 4, .asg (.c (.bool false)), none, []⟩])
      .ret)
      .skip))
    (.seq
    (.seq
    (.region false [2, 3, 24] [
      ⟨some 20, .fa 30 3 3 1 (.t 2), none, []⟩,
      ⟨some 21, .load 2 false 1 (.t 20), none, []⟩,
      ⟨some 22, .fa 30 3 3 1 (.t 3), none, []⟩,
      ⟨some 23, .load 2 false 1 (.t 22), none, []⟩,
      ⟨some 24, .bin false .neq 2 (.t 21) (.t 23), none, []⟩])
    (.cond (.t 24)
      (.seq
      (.region false [4] [
        ⟨some 4, .asg (.c (.bool false)), none, []⟩])
      .ret)
      .skip))
    (.seq
    (.seq
    (.region false [2, 3, 29] [
      ⟨some 25, .fa 30 4 4 1 (.t 2), none, []⟩,
      ⟨some 26, .load 2 false 1 (.t 25), none, []⟩,
      ⟨some 27, .fa 30 4 4 1 (.t 3), none, []⟩,
      ⟨some 28, .load 2 false 1 (.t 27), none, []⟩,
      ⟨some 29, .bin false .neq 2 (.t 26) (.t 28), none, []⟩])
    (.cond (.t 29)
      (.seq
      (.region false [4] [
        ⟨some 4, .asg (.c (.bool false)), none, []⟩])
      .ret)
      .skip))
    (.seq
    (.seq
    (.region false [2, 3, 34] [
      ⟨some 30, .fa 30 5 5 1 (.t 2), none, []⟩,
      ⟨some 31, .load 2 false 1 (.t 30), none, []⟩,
      ⟨some 32, .fa 30 5 5 1 (.t 3), none, []⟩,
      ⟨some 33, .load 2 false 1 (.t 32), none, []⟩,
      ⟨some 34, .bin false .neq 2 (.t 31) (.t 33), none, []⟩])
    (.cond (.t 34)
      (.seq
      (.region false [4] [
        ⟨some 4, .asg (.c (.bool false)), none, []⟩])
      .ret)
      .skip))
    (.seq
    (.seq
    (.region false [39] [
      ⟨some 35, .fa 30 6 6 1 (.t 2), none, []⟩,
      ⟨some 36, .load 2 false 1 (.t 35), none, []⟩,
      ⟨some 37, .fa 30 6 6 1 (.t 3), none, []⟩,
      ⟨some 38, .load 2 false 1 (.t 37), none, []⟩,
      ⟨some 39, .bin false .neq 2 (.t 36) (.t 38), none, []⟩])
    (.cond (.t 39)
      (.seq
      (.region false [4] [
        ⟨some 4, .asg (.c (.bool false)), none, []⟩])
      .ret)
      .skip))
    (.seq
    (.region false [4] [
      ⟨some 4, .asg (.c (.bool true)), none, []⟩])
    .ret)))))))))
  modes := [.lend, .lend]
  rets := [⟨4, none⟩] }

def tab : List (Nat × VFun) := [(5, v5), (20, v20), (21, v21), (22, v22), (23, v23), (57, v57), (58, v58), (59, v59), (60, v60), (61, v61)]
def F (f : FuncId) : Option VFun := getA none (tab.map fun x => (x.1, some x.2)) f
theorem tab_ok : tab.all (fun x => matchFun Try.prog x.1 x.2) = true := by kernel_rfl
theorem F_mem {f : FuncId} {fn : VFun} : ∀ {l : List (Nat × VFun)}, getA none (l.map fun x => (x.1, some x.2)) f = some fn → (f, fn) ∈ l
  | [], h => by simp [getA] at h
  | (k, v) :: l, h => by
    simp only [List.map_cons, getA] at h
    split at h
    · rename_i e
      injection h with h
      subst e; subst h
      exact List.mem_cons_self ..
    · exact List.mem_cons_of_mem _ (F_mem h)
theorem F_ok (f : FuncId) (fn : VFun) (h : F f = some fn) : matchFun Try.prog f fn = true := List.all_eq_true.1 tab_ok _ (F_mem h)
end Go.Proofs.Ythpmfdcmnnbjcaa.NewMeter
