/- V's text of the functions that this law reaches. -/
import Derived.Test.YthpmfdcmnnbjcaaVCode
import Derived.Test.YthpmfdcmnnbjcaaRows
import Derived.KernelRfl
namespace Go.Proofs.Ythpmfdcmnnbjcaa.CrashDisk
open Go Go.Proofs.Ythpmfdcmnnbjcaa.V

/-- loop.example/g00539/laws.FnExactCrashDisk -/
def v14 : VFun := {
  code :=
    (.seq
    (.region false [1, 2] [
      ⟨some 2, .box 40 (.t 0), none, []⟩,
      ⟨some 4, .asg (.c (.bool false)), none, []⟩])
    (.seq
    (.region false [1, 2, 5] [
      ⟨some 5, .asg (.c (.int .i64 1048576)), none, []⟩])
    (.seq
    (.region false [1, 2, 5] [
      ⟨some 13, .load 40 true 2 (.t 2), none, []⟩,
      ⟨some 14, .mov (.t 5), none, []⟩,
      ⟨some 15, .call 24 [(.t 13), (.t 14)], none, []⟩,
      ⟨some 5, .asg (.t 15), none, []⟩])
    (.seq
    (.seq
    (.region false [1, 2, 17] [
      ⟨some 16, .mov (.t 5), none, []⟩,
      ⟨some 17, .bin false .lss 3 (.t 16) (.c (.int .i64 0)), none, []⟩])
    (.cond (.t 17)
      (.seq
      (.region false [4] [
        ⟨some 4, .asg (.c (.bool true)), none, []⟩])
      .ret)
      .skip))
    (.seq
    (.region false [1, 2, 6] [
      ⟨some 18, .load 40 true 2 (.t 2), none, []⟩,
      ⟨some 19, .call 26 [(.t 18)], none, []⟩,
      ⟨some 20, .mov (.t 1), none, []⟩,
      ⟨some 21, .call 55 [(.t 19), (.t 20)], none, []⟩,
      ⟨some 6, .alloc 69 [(.val (.int .i64 0)), (.nl 1), (.val (.int .i64 0))], none, []⟩,
      ⟨none, .store 69 3 (.t 6) (.t 21), none, []⟩])
    (.seq
    (.region false [1, 2, 6, 7] [
      ⟨some 22, .load 40 true 2 (.t 2), none, []⟩,
      ⟨some 23, .call 26 [(.t 22)], none, []⟩,
      ⟨some 7, .alloc 43 [(.nl 1), (.val (.int .i64 0))], none, []⟩,
      ⟨none, .store 43 2 (.t 7) (.t 23), none, []⟩])
    (.seq
    (.region false [1, 2, 6, 7, 8] [
      ⟨some 24, .load 43 true 2 (.t 7), none, []⟩,
      ⟨some 25, .mov (.t 1), none, []⟩,
      ⟨some 26, .call 56 [(.t 24), (.t 25)], none, []⟩,
      ⟨some 8, .alloc 69 [(.val (.int .i64 0)), (.nl 1), (.val (.int .i64 0))], none, []⟩,
      ⟨none, .store 69 3 (.t 8) (.t 26), none, []⟩])
    (.seq
    (.seq
    (.region false [1, 2, 6, 7, 8, 30] [
      ⟨some 27, .load 69 true 3 (.t 8), none, []⟩,
      ⟨some 28, .load 69 true 3 (.t 6), none, []⟩,
      ⟨some 29, .call 48 [(.t 27), (.t 28)], none, []⟩,
      ⟨some 30, .un .not (.t 29), none, []⟩])
    (.cond (.t 30)
      (.seq
      (.region false [4] [
        ⟨some 4, .asg (.c (.bool false)), none, []⟩])
      .ret)
      .skip))
    (.seq
    (.seq
    (.region true [1, 2, 6, 7, 8, 35] [
      ⟨some 31, .load 43 true 2 (.t 7), none, []⟩,
      ⟨some 32, .load 40 true 2 (.t 2), none, [0]⟩,
      ⟨some 33, .call 26 [(.t 32)], none, [0]⟩,
      ⟨some 34, .call 28 [(.t 31), (.t 33)], none, []⟩,
      ⟨some 35, .un .not (.t 34), none, []⟩])
    (.cond (.t 35)
      (.seq
      (.region false [4] [
        ⟨some 4, .asg (.c (.bool false)), none, []⟩])
      .ret)
      .skip))
    (.seq
    (.region false [1, 2, 6, 7, 8, 9] [
      ⟨some 9, .asg (.c (.int .i64 1)), none, []⟩])
    (.seq
    (.region false [1, 2, 6, 8, 9] [
      ⟨some 36, .load 43 true 2 (.t 7), none, []⟩,
      ⟨some 37, .mov (.t 9), none, []⟩,
      ⟨some 38, .call 49 [(.t 36), (.t 37)], none, []⟩,
      ⟨some 9, .asg (.t 38), none, []⟩])
    (.seq
    (.seq
    (.region false [1, 2, 6, 8, 46] [
      ⟨some 39, .mov (.t 9), none, []⟩,
      ⟨some 40, .bin false .lss 3 (.t 39) (.c (.int .i64 0)), none, []⟩,
      ⟨some 41, .mov (.t 40), none, []⟩,
      ⟨some 42, .load 69 true 3 (.t 8), some (41, false), []⟩,
      ⟨some 43, .load 69 true 3 (.t 6), some (41, false), []⟩,
      ⟨some 44, .call 48 [(.t 42), (.t 43)], some (41, false), []⟩,
      ⟨some 45, .un .not (.t 44), some (41, false), []⟩,
      ⟨some 46, .pick (.t 41) (.c (.bool true)) (.t 45), none, []⟩])
    (.cond (.t 46)
      (.seq
      (.region false [4] [
        ⟨some 4, .asg (.c (.bool false)), none, []⟩])
      .ret)
      .skip))
    (.seq
    (.region false [1, 2, 6, 8, 10] [
      ⟨some 10, .asg (.c (.int .i64 1)), none, []⟩])
    (.seq
    (.region false [1, 2, 6, 8, 10] [
      ⟨some 47, .load 69 true 3 (.t 8), none, []⟩,
      ⟨some 48, .mov (.t 10), none, []⟩,
      ⟨some 49, .call 50 [(.t 47), (.t 48)], none, []⟩,
      ⟨some 10, .asg (.t 49), none, []⟩])
    (.seq
    (.region false [1, 2, 6, 8, 10, 11] [
      ⟨some 11, .asg (.c (.int .i64 1)), none, []⟩])
    (.seq
    (.region false [1, 2, 6, 8, 10, 11] [
      ⟨some 50, .load 69 true 3 (.t 8), none, []⟩,
      ⟨some 51, .mov (.t 11), none, []⟩,
      ⟨some 52, .call 51 [(.t 50), (.t 51)], none, []⟩,
      ⟨some 11, .asg (.t 52), none, []⟩])
    (.seq
    (.seq
    (.region false [1, 2, 6, 8, 10, 11, 54] [
      ⟨some 53, .mov (.t 11), none, []⟩,
      ⟨some 54, .bin false .lss 3 (.t 53) (.c (.int .i64 0)), none, []⟩])
    (.cond (.t 54)
      (.seq
      (.region false [4] [
        ⟨some 4, .asg (.c (.bool false)), none, []⟩])
      .ret)
      .skip))
    (.seq
    (.seq
    (.region false [1, 2, 6, 8, 10, 57] [
      ⟨some 55, .mov (.t 11), none, []⟩,
      ⟨some 56, .mov (.t 10), none, []⟩,
      ⟨some 57, .bin false .neq 3 (.t 55) (.t 56), none, []⟩])
    (.cond (.t 57)
      (.seq
      (.region false [4] [
        ⟨some 4, .asg (.c (.bool false)), none, []⟩])
      .ret)
      .skip))
    (.seq
    (.region false [6, 8, 10, 12] [
      ⟨some 58, .load 40 true 2 (.t 2), none, []⟩,
      ⟨some 59, .call 26 [(.t 58)], none, []⟩,
      ⟨some 60, .mov (.t 1), none, []⟩,
      ⟨some 61, .call 56 [(.t 59), (.t 60)], none, []⟩,
      ⟨some 12, .alloc 69 [(.val (.int .i64 0)), (.nl 1), (.val (.int .i64 0))], none, []⟩,
      ⟨none, .store 69 3 (.t 12) (.t 61), none, []⟩])
    (.seq
    (.seq
    (.region false [8, 10, 65] [
      ⟨some 62, .load 69 true 3 (.t 12), none, []⟩,
      ⟨some 63, .load 69 true 3 (.t 6), none, []⟩,
      ⟨some 64, .call 48 [(.t 62), (.t 63)], none, []⟩,
      ⟨some 65, .un .not (.t 64), none, []⟩])
    (.cond (.t 65)
      (.seq
      (.region false [4] [
        ⟨some 4, .asg (.c (.bool false)), none, []⟩])
      .ret)
      .skip))
    (.seq
    (.region false [8, 10, 11] [
      ⟨some 11, .asg (.c (.int .i64 1)), none, []⟩])
    (.seq
    (.region false [10, 11] [
      ⟨some 66, .load 69 true 3 (.t 8), none, []⟩,
      ⟨some 67, .mov (.t 11), none, []⟩,
      ⟨some 68, .call 51 [(.t 66), (.t 67)], none, []⟩,
      ⟨some 11, .asg (.t 68), none, []⟩])
    (.seq
    (.seq
    (.region false [10, 11, 70] [
      ⟨some 69, .mov (.t 11), none, []⟩,
      ⟨some 70, .bin false .lss 3 (.t 69) (.c (.int .i64 0)), none, []⟩])
    (.cond (.t 70)
      (.seq
      (.region false [4] [
        ⟨some 4, .asg (.c (.bool false)), none, []⟩])
      .ret)
      .skip))
    (.seq
    (.seq
    (.region false [73] [
      ⟨some 71, .mov (.t 11), none, []⟩,
      ⟨some 72, .mov (.t 10), none, []⟩,
      ⟨some 73, .bin false .neq 3 (.t 71) (.t 72), none, []⟩])
    (.cond (.t 73)
      (.seq
      (.region false [4] [
        ⟨some 4, .asg (.c (.bool false)), none, []⟩])
      .ret)
      .skip))
    (.seq
    (.region false [4] [
      ⟨some 4, .asg (.c (.bool true)), none, []⟩])
    .ret)))))))))))))))))))))))))
  modes := [.lend, .lend]
  rets := [⟨4, none⟩] }

/-- loop.example/g00539/laws.szDisk -/
def v24 : VFun := {
  code :=
    (.seq
    (.region false [1, 2] [
      ⟨some 2, .box 40 (.t 0), none, []⟩,
      ⟨some 4, .asg (.c (.int .i64 0)), none, []⟩])
    (.seq
    (.region false [1] [
      ⟨some 5, .fa 40 0 0 1 (.t 2), none, []⟩,
      ⟨some 6, .load 38 false 1 (.t 5), none, []⟩,
      ⟨some 7, .mov (.t 1), none, []⟩,
      ⟨some 8, .call 62 [(.t 6), (.t 7)], none, []⟩,
      ⟨some 1, .asg (.t 8), none, []⟩])
    (.seq
    (.seq
    (.region false [1, 10] [
      ⟨some 9, .mov (.t 1), none, []⟩,
      ⟨some 10, .bin false .lss 3 (.t 9) (.c (.int .i64 0)), none, []⟩])
    (.cond (.t 10)
      (.seq
      (.region false [4] [
        ⟨some 4, .asg (.c (.int .i64 (-1))), none, []⟩])
      .ret)
      .skip))
    (.seq
    (.region false [4] [
      ⟨some 11, .mov (.t 1), none, []⟩,
      ⟨some 4, .asg (.t 11), none, []⟩])
    .ret))))
  modes := [.lend, .lend]
  rets := [⟨4, none⟩] }

/-- loop.example/g00539/laws.toDisk -/
def v26 : VFun := {
  code :=
    (.seq
    (.region false [1, 2] [
      ⟨some 1, .box 40 (.t 0), none, []⟩,
      ⟨some 2, .alloc 43 [(.nl 1), (.val (.int .i64 0))], none, []⟩])
    (.seq
    (.region false [1, 2, 3] [
      ⟨some 3, .alloc 43 [(.nl 1), (.val (.int .i64 0))], none, []⟩])
    (.seq
    (.region false [1, 2, 3] [
      ⟨some 4, .fa 40 0 0 1 (.t 1), none, []⟩,
      ⟨some 5, .load 38 false 1 (.t 4), none, []⟩,
      ⟨some 6, .call 64 [(.t 5)], none, []⟩,
      ⟨some 7, .fa 43 0 0 1 (.t 3), none, []⟩,
      ⟨none, .store 38 1 (.t 7) (.t 6), none, []⟩])
    (.seq
    (.region false [2, 3] [
      ⟨some 8, .fa 40 1 1 1 (.t 1), none, []⟩,
      ⟨some 9, .load 2 false 1 (.t 8), none, []⟩,
      ⟨some 10, .fa 43 1 1 1 (.t 3), none, []⟩,
      ⟨none, .store 2 1 (.t 10) (.t 9), none, []⟩])
    (.seq
    (.region false [2] [
      ⟨some 11, .load 43 true 2 (.t 3), none, []⟩,
      ⟨none, .store 43 2 (.t 2) (.t 11), none, []⟩])
    .ret)))))
  modes := [.lend]
  rets := [⟨2, some (true, 2)⟩] }

/-- loop.example/g00539/impl.DiskFault -/
def v27 : VFun := {
  code :=
    (.seq
    (.region false [1] [
      ⟨some 1, .box 43 (.t 0), none, []⟩,
      ⟨some 2, .asg (.c (.int .i64 0)), none, []⟩])
    (.seq
    (.block 0
      (.seq
      (.region false [1, 3] [
        ⟨some 4, .fa 43 0 0 1 (.t 1), none, []⟩,
        ⟨some 5, .load 38 false 1 (.t 4), none, []⟩,
        ⟨some 6, .len false 38 (.t 5), none, []⟩,
        ⟨some 7, .bin false .gtr 3 (.t 6) (.c (.int .i64 1200)), none, []⟩,
        ⟨some 3, .asg (.t 7), none, []⟩])
      (.cond (.t 3)
        (.seq
        (.region false [2] [
          ⟨some 2, .asg (.c (.int .i64 2)), none, []⟩])
        .ret)
        (.seq
        (.region false [8] [
          ⟨some 9, .fa 43 1 1 1 (.t 1), none, []⟩,
          ⟨some 10, .load 2 false 1 (.t 9), none, []⟩,
          ⟨some 11, .fa 43 0 0 1 (.t 1), none, []⟩,
          ⟨some 12, .load 38 false 1 (.t 11), none, []⟩,
          ⟨some 13, .len false 38 (.t 12), none, []⟩,
          ⟨some 14, .call 60 [(.t 10), (.c (.int .i64 0)), (.t 13)], none, []⟩,
          ⟨some 15, .un .not (.t 14), none, []⟩,
          ⟨some 8, .asg (.t 15), none, []⟩])
        (.cond (.t 8)
          (.seq
          (.region false [2] [
            ⟨some 2, .asg (.c (.int .i64 3)), none, []⟩])
          .ret)
          .skip)))))
    (.seq
    (.region false [2] [
      ⟨some 2, .asg (.c (.int .i64 0)), none, []⟩])
    .ret)))
  modes := [.lend]
  rets := [⟨2, none⟩] }

/-- loop.example/g00539/laws.eqDisk -/
def v28 : VFun := {
  code :=
    (.seq
    (.region false [2, 3] [
      ⟨some 2, .box 43 (.t 0), none, []⟩,
      ⟨some 3, .box 43 (.t 1), none, []⟩,
      ⟨some 4, .asg (.c (.bool false)), none, []⟩])
    (.seq
    (.seq
    (.region false [2, 3, 10] [
      ⟨some 5, .fa 43 0 0 1 (.t 2), none, []⟩,
      ⟨some 6, .load 38 false 1 (.t 5), none, []⟩,
      ⟨some 7, .fa 43 0 0 1 (.t 3), none, []⟩,
      ⟨some 8, .load 38 false 1 (.t 7), none, []⟩,
      ⟨some 9, .call 65 [(.t 6), (.t 8)], none, []⟩,
      ⟨some 10, .un .not (.t 9), none, []⟩])
    (.cond (.t 10)
      (.seq
      (.region false [4] [
        ⟨some 4, .asg (.c (.bool false)), none, []⟩])
      .ret)
      .skip))
    (.seq
    (.seq
    (.region false [15] [
      ⟨some 11, .fa 43 1 1 1 (.t 2), none, []⟩,
      ⟨some 12, .load 2 false 1 (.t 11), none, []⟩,
      ⟨some 13, .fa 43 1 1 1 (.t 3), none, []⟩,
      ⟨some 14, .load 2 false 1 (.t 13), none, []⟩,
      ⟨some 15, .bin false .neq 2 (.t 12) (.t 14), none, []⟩])
    (.cond (.t 15)
      (.seq
      (.region false [4] [
        ⟨some 4, .asg (.c (.bool false)), none, []⟩])
      .ret)
      .skip))
    (.seq
    (.region false [4] [
      ⟨some 4, .asg (.c (.bool true)), none, []⟩])
    .ret))))
  modes := [.lend, .lend]
  rets := [⟨4, none⟩] }

/-- loop.example/g00539/laws.eqDiskResult -/
def v48 : VFun := {
  code :=
    (.seq
    (.region false [2, 3] [
      ⟨some 2, .box 69 (.t 0), none, []⟩,
      ⟨some 3, .box 69 (.t 1), none, []⟩,
      ⟨some 4, .asg (.c (.bool false)), none, []⟩])
    (.seq
    (.seq
    (.region false [2, 3, 9] [
      ⟨some 5, .fa 69 0 0 1 (.t 2), none, []⟩,
      ⟨some 6, .load 2 false 1 (.t 5), none, []⟩,
      ⟨some 7, .fa 69 0 0 1 (.t 3), none, []⟩,
      ⟨some 8, .load 2 false 1 (.t 7), none, []⟩,
      ⟨some 9, .bin false .neq 2 (.t 6) (.t 8), none, []⟩])
    (.cond (.t 9)
      (.seq
      (.region false [4] [
        ⟨some 4, .asg (.c (.bool false)), none, []⟩])
      .ret)
      .skip))
    (.seq
    (.seq
    (.region false [15] [
      ⟨some 10, .fa 69 1 1 2 (.t 2), none, []⟩,
      ⟨some 11, .load 43 true 2 (.t 10), none, []⟩,
      ⟨some 12, .fa 69 1 1 2 (.t 3), none, []⟩,
      ⟨some 13, .load 43 true 2 (.t 12), none, []⟩,
      ⟨some 14, .call 28 [(.t 11), (.t 13)], none, []⟩,
      ⟨some 15, .un .not (.t 14), none, []⟩])
    (.cond (.t 15)
      (.seq
      (.region false [4] [
        ⟨some 4, .asg (.c (.bool false)), none, []⟩])
      .ret)
      .skip))
    (.seq
    (.region false [4] [
      ⟨some 4, .asg (.c (.bool true)), none, []⟩])
    .ret))))
  modes := [.lend, .lend]
  rets := [⟨4, none⟩] }

/-- loop.example/g00539/laws.markDisk -/
def v49 : VFun := {
  code :=
    (.seq
    (.region false [0, 1, 2] [
      ⟨some 2, .box 43 (.t 0), none, []⟩,
      ⟨some 4, .asg (.c (.int .i64 0)), none, []⟩])
    (.seq
    (.region false [0, 1, 2] [
      ⟨some 5, .fa 43 0 0 1 (.t 2), none, []⟩,
      ⟨some 6, .load 38 false 1 (.t 5), none, []⟩,
      ⟨some 7, .mov (.t 1), none, []⟩,
      ⟨some 8, .call 83 [(.t 6), (.t 7)], none, []⟩,
      ⟨some 1, .asg (.t 8), none, []⟩])
    (.seq
    (.region false [0, 2, 4] [
      ⟨some 9, .mov (.t 1), none, []⟩,
      ⟨some 4, .asg (.t 9), none, []⟩])
    .ret)))
  modes := [.io, .lend]
  rets := [⟨4, none⟩] }

/-- loop.example/g00539/laws.markDiskResult -/
def v50 : VFun := {
  code :=
    (.seq
    (.region false [0, 1, 2] [
      ⟨some 2, .box 69 (.t 0), none, []⟩,
      ⟨some 4, .asg (.c (.int .i64 0)), none, []⟩])
    (.seq
    (.region false [0, 1, 2] [
      ⟨some 5, .fa 69 1 1 2 (.t 2), none, []⟩,
      ⟨some 6, .load 43 true 2 (.t 5), none, []⟩,
      ⟨some 7, .mov (.t 1), none, []⟩,
      ⟨some 8, .call 49 [(.t 6), (.t 7)], none, []⟩,
      ⟨some 1, .asg (.t 8), none, []⟩])
    (.seq
    (.region false [0, 2, 4] [
      ⟨some 9, .mov (.t 1), none, []⟩,
      ⟨some 4, .asg (.t 9), none, []⟩])
    .ret)))
  modes := [.io, .lend]
  rets := [⟨4, none⟩] }

/-- loop.example/g00539/laws.heldDiskResult -/
def v51 : VFun := {
  code :=
    (.seq
    (.region false [1, 2] [
      ⟨some 2, .box 69 (.t 0), none, []⟩,
      ⟨some 4, .asg (.c (.int .i64 0)), none, []⟩])
    (.seq
    (.region false [1] [
      ⟨some 5, .fa 69 1 1 2 (.t 2), none, []⟩,
      ⟨some 6, .load 43 true 2 (.t 5), none, []⟩,
      ⟨some 7, .mov (.t 1), none, []⟩,
      ⟨some 8, .call 84 [(.t 6), (.t 7)], none, []⟩,
      ⟨some 1, .asg (.t 8), none, []⟩])
    (.seq
    (.seq
    (.region false [1, 10] [
      ⟨some 9, .mov (.t 1), none, []⟩,
      ⟨some 10, .bin false .lss 3 (.t 9) (.c (.int .i64 0)), none, []⟩])
    (.cond (.t 10)
      (.seq
      (.region false [4] [
        ⟨some 4, .asg (.c (.int .i64 (-1))), none, []⟩])
      .ret)
      .skip))
    (.seq
    (.region false [4] [
      ⟨some 11, .mov (.t 1), none, []⟩,
      ⟨some 4, .asg (.t 11), none, []⟩])
    .ret))))
  modes := [.lend, .lend]
  rets := [⟨4, none⟩] }

/-- loop.example/g00539/spec.CrashDisk -/
def v55 : VFun := {
  code :=
    (.seq
    (.region false [1, 2, 4] [
      ⟨some 2, .box 43 (.t 0), none, []⟩,
      ⟨some 4, .alloc 69 [(.val (.int .i64 0)), (.nl 1), (.val (.int .i64 0))], none, []⟩])
    (.seq
    (.seq
    (.region false [1, 2, 4, 5] [
      ⟨some 6, .call 63 [(.t 2)], none, []⟩,
      ⟨some 5, .asg (.t 6), none, []⟩])
    (.seq
    (.region false [1, 2, 4, 5, 8] [
      ⟨some 7, .mov (.t 5), none, []⟩,
      ⟨some 8, .bin false .neq 2 (.t 7) (.c (.int .i64 0)), none, []⟩])
    (.cond (.t 8)
      (.seq
      (.region false [4] [
        ⟨some 9, .mov (.t 5), none, []⟩,
        ⟨some 10, .build 69 [(.val (.int .i64 0)), (.nl 1), (.val (.int .i64 0))] [(0, 0, 1, (.t 9))], none, []⟩,
        ⟨none, .store 69 3 (.t 4) (.t 10), none, []⟩])
      .ret)
      .skip)))
    (.seq
    (.seq
    (.region false [1, 2, 4, 12] [
      ⟨some 11, .mov (.t 1), none, []⟩,
      ⟨some 12, .bin false .lss 2 (.t 11) (.c (.int .i64 0)), none, []⟩])
    (.cond (.t 12)
      (.seq
      (.region false [4] [
        ⟨some 13, .build 69 [(.val (.int .i64 0)), (.nl 1), (.val (.int .i64 0))] [(0, 0, 1, (.c (.int .i64 3)))], none, []⟩,
        ⟨none, .store 69 3 (.t 4) (.t 13), none, []⟩])
      .ret)
      .skip))
    (.seq
    (.region false [4] [
      ⟨some 14, .mov (.t 1), none, []⟩,
      ⟨some 15, .call 86 [(.t 2), (.t 14)], none, []⟩,
      ⟨some 16, .build 69 [(.val (.int .i64 0)), (.nl 1), (.val (.int .i64 0))] [(1, 1, 2, (.t 15))], none, []⟩,
      ⟨none, .store 69 3 (.t 4) (.t 16), none, []⟩])
    .ret))))
  modes := [.lend, .lend]
  rets := [⟨4, some (true, 3)⟩] }

/-- loop.example/g00539/impl.CrashDisk -/
def v56 : VFun := {
  code :=
    (.seq
    (.region false [1, 2, 4] [
      ⟨some 2, .box 43 (.t 0), none, []⟩,
      ⟨some 4, .alloc 69 [(.val (.int .i64 0)), (.nl 1), (.val (.int .i64 0))], none, []⟩])
    (.seq
    (.seq
    (.region false [1, 2, 4, 5] [
      ⟨some 7, .load 43 true 2 (.t 2), none, []⟩,
      ⟨some 8, .call 27 [(.t 7)], none, []⟩,
      ⟨some 5, .asg (.t 8), none, []⟩])
    (.block 0
      (.seq
      (.region false [1, 2, 4, 5, 9] [
        ⟨some 10, .mov (.t 5), none, []⟩,
        ⟨some 11, .bin false .neq 2 (.t 10) (.c (.int .i64 0)), none, []⟩,
        ⟨some 9, .asg (.t 11), none, []⟩])
      (.cond (.t 9)
        (.seq
        (.region false [4] [
          ⟨some 12, .mov (.t 5), none, []⟩,
          ⟨some 13, .build 69 [(.val (.int .i64 0)), (.nl 1), (.val (.int .i64 0))] [(0, 0, 1, (.t 12))], none, []⟩,
          ⟨none, .store 69 3 (.t 4) (.t 13), none, []⟩])
        .ret)
        (.seq
        (.region false [1, 2, 4, 14] [
          ⟨some 15, .mov (.t 1), none, []⟩,
          ⟨some 16, .bin false .lss 2 (.t 15) (.c (.int .i64 0)), none, []⟩,
          ⟨some 14, .asg (.t 16), none, []⟩])
        (.cond (.t 14)
          (.seq
          (.region false [4] [
            ⟨some 17, .build 69 [(.val (.int .i64 0)), (.nl 1), (.val (.int .i64 0))] [(0, 0, 1, (.c (.int .i64 3)))], none, []⟩,
            ⟨none, .store 69 3 (.t 4) (.t 17), none, []⟩])
          .ret)
          .skip))))))
    (.seq
    (.region false [1, 2, 4, 6] [
      ⟨some 18, .fa 43 0 0 1 (.t 2), none, []⟩,
      ⟨some 19, .load 38 false 1 (.t 18), none, []⟩,
      ⟨some 20, .len false 38 (.t 19), none, []⟩,
      ⟨some 21, .fa 43 1 1 1 (.t 2), none, []⟩,
      ⟨some 22, .load 2 false 1 (.t 21), none, []⟩,
      ⟨some 23, .bin false .sub 2 (.t 20) (.t 22), none, []⟩,
      ⟨some 6, .asg (.t 23), none, []⟩])
    (.seq
    (.region true [4] [
      ⟨some 24, .fa 43 0 0 1 (.t 2), none, []⟩,
      ⟨some 25, .load 38 false 1 (.t 24), none, []⟩,
      ⟨some 26, .fa 43 1 1 1 (.t 2), none, [0, 1]⟩,
      ⟨some 27, .load 2 false 1 (.t 26), none, [0, 1]⟩,
      ⟨some 28, .mov (.t 1), none, [0, 1, 2, 3]⟩,
      ⟨some 29, .mov (.t 6), none, [0, 1, 2, 3, 4]⟩,
      ⟨some 30, .mm false (.t 28) (.t 29), none, [0, 1, 2, 3]⟩,
      ⟨some 31, .bin false .add 2 (.t 27) (.t 30), none, [0, 1]⟩,
      ⟨some 32, .cut 38 (some 5) 1 (.t 25) none (some (.t 31)), none, []⟩,
      ⟨some 33, .call 82 [(.t 32)], none, []⟩,
      ⟨some 34, .fa 43 1 1 1 (.t 2), none, [0, 1, 2, 3, 4, 5, 6, 7, 8, 9]⟩,
      ⟨some 35, .load 2 false 1 (.t 34), none, [0, 1, 2, 3, 4, 5, 6, 7, 8, 9]⟩,
      ⟨some 36, .build 43 [(.nl 1), (.val (.int .i64 0))] [(0, 0, 1, (.t 33)), (1, 1, 1, (.t 35))], none, []⟩,
      ⟨some 37, .build 69 [(.val (.int .i64 0)), (.nl 1), (.val (.int .i64 0))] [(0, 0, 1, (.c (.int .i64 0))), (1, 1, 2, (.t 36))], none, []⟩,
      ⟨none, .store 69 3 (.t 4) (.t 37), none, []⟩])
    .ret))))
  modes := [.lend, .lend]
  rets := [⟨4, some (true, 3)⟩] }

/-- loop.example/g00539/spec.l1In -/
def v57 : VFun := {
  code :=
    (.seq
    (.region false [0, 1, 2] [
      ⟨some 6, .asg (.c (.bool false)), none, []⟩])
    (.seq
    (.region false [6] [
      ⟨some 7, .mov (.t 0), none, []⟩,
      ⟨some 8, .mov (.t 1), none, []⟩,
      ⟨some 9, .bin false .geq 2 (.t 7) (.t 8), none, []⟩,
      ⟨some 10, .mov (.t 9), none, []⟩,
      ⟨some 11, .mov (.t 0), some (10, true), []⟩,
      ⟨some 12, .mov (.t 2), some (10, true), []⟩,
      ⟨some 13, .bin false .leq 2 (.t 11) (.t 12), some (10, true), []⟩,
      ⟨some 14, .pick (.t 10) (.t 13) (.c (.bool false)), none, []⟩,
      ⟨some 6, .asg (.t 14), none, []⟩])
    .ret))
  modes := [.lend, .lend, .lend]
  rets := [⟨6, none⟩] }

/-- loop.example/g00539/impl.in -/
def v60 : VFun := {
  code :=
    (.seq
    (.region false [0, 1, 2] [
      ⟨some 6, .asg (.c (.bool false)), none, []⟩])
    (.seq
    (.region false [6] [
      ⟨some 7, .mov (.t 0), none, []⟩,
      ⟨some 8, .mov (.t 1), none, []⟩,
      ⟨some 9, .bin false .geq 2 (.t 7) (.t 8), none, []⟩,
      ⟨some 10, .mov (.t 9), none, []⟩,
      ⟨some 11, .mov (.t 0), some (10, true), []⟩,
      ⟨some 12, .mov (.t 2), some (10, true), []⟩,
      ⟨some 13, .bin false .leq 2 (.t 11) (.t 12), some (10, true), []⟩,
      ⟨some 14, .pick (.t 10) (.t 13) (.c (.bool false)), none, []⟩,
      ⟨some 6, .asg (.t 14), none, []⟩])
    .ret))
  modes := [.lend, .lend, .lend]
  rets := [⟨6, none⟩] }

/-- loop.example/g00539/laws.szByteS -/
def v62 : VFun := {
  code :=
    (.seq
    (.region false [0, 1] [
      ⟨some 4, .asg (.c (.int .i64 0)), none, []⟩])
    (.seq
    (.region false [1] [
      ⟨some 5, .mov (.t 1), none, []⟩,
      ⟨some 6, .mov (.t 0), none, []⟩,
      ⟨some 7, .len false 38 (.t 6), none, []⟩,
      ⟨some 8, .bin false .sub 3 (.t 5) (.t 7), none, []⟩,
      ⟨some 1, .asg (.t 8), none, []⟩])
    (.seq
    (.seq
    (.region false [1, 10] [
      ⟨some 9, .mov (.t 1), none, []⟩,
      ⟨some 10, .bin false .lss 3 (.t 9) (.c (.int .i64 0)), none, []⟩])
    (.cond (.t 10)
      (.seq
      (.region false [4] [
        ⟨some 4, .asg (.c (.int .i64 (-1))), none, []⟩])
      .ret)
      .skip))
    (.seq
    (.region false [4] [
      ⟨some 11, .mov (.t 1), none, []⟩,
      ⟨some 4, .asg (.t 11), none, []⟩])
    .ret))))
  modes := [.lend, .lend]
  rets := [⟨4, none⟩] }

/-- loop.example/g00539/spec.l15Disk -/
def v63 : VFun := {
  code :=
    (.seq
    (.region false [0] [
      ⟨some 2, .asg (.c (.int .i64 0)), none, []⟩])
    (.seq
    (.seq
    (.region false [0, 8] [
      ⟨some 3, .mov (.t 0), none, []⟩,
      ⟨some 4, .nilc (.t 3), none, []⟩,
      ⟨some 5, .fa 43 0 0 1 (.t 4), none, []⟩,
      ⟨some 6, .load 38 false 1 (.t 5), none, []⟩,
      ⟨some 7, .len false 38 (.t 6), none, []⟩,
      ⟨some 8, .bin false .gtr 3 (.t 7) (.c (.int .i64 1200)), none, []⟩])
    (.cond (.t 8)
      (.seq
      (.region false [2] [
        ⟨some 2, .asg (.c (.int .i64 2)), none, []⟩])
      .ret)
      .skip))
    (.seq
    (.seq
    (.region true [19] [
      ⟨some 9, .mov (.t 0), none, []⟩,
      ⟨some 10, .nilc (.t 9), none, []⟩,
      ⟨some 11, .fa 43 1 1 1 (.t 10), none, []⟩,
      ⟨some 12, .load 2 false 1 (.t 11), none, []⟩,
      ⟨some 13, .mov (.t 0), none, [0, 1, 2, 3]⟩,
      ⟨some 14, .nilc (.t 13), none, [0, 1, 2, 3]⟩,
      ⟨some 15, .fa 43 0 0 1 (.t 14), none, [0, 1, 2, 3]⟩,
      ⟨some 16, .load 38 false 1 (.t 15), none, [0, 1, 2, 3]⟩,
      ⟨some 17, .len false 38 (.t 16), none, [0, 1, 2, 3]⟩,
      ⟨some 18, .call 57 [(.t 12), (.c (.int .i64 0)), (.t 17)], none, []⟩,
      ⟨some 19, .un .not (.t 18), none, []⟩])
    (.cond (.t 19)
      (.seq
      (.region false [2] [
        ⟨some 2, .asg (.c (.int .i64 3)), none, []⟩])
      .ret)
      .skip))
    (.seq
    (.region false [2] [
      ⟨some 2, .asg (.c (.int .i64 0)), none, []⟩])
    .ret))))
  modes := [.lend]
  rets := [⟨2, none⟩] }

def b64_0 : VC :=
  (.seq
  (.seq
  (.region false [0, 3, 4, 7, 11] [
    ⟨some 8, .mov (.t 4), none, []⟩,
    ⟨some 9, .mov (.t 0), none, []⟩,
    ⟨some 10, .len false 38 (.t 9), none, []⟩,
    ⟨some 11, .bin false .lss 3 (.t 8) (.t 10), none, []⟩])
  (.cond (.t 11)
    .skip
    (.exit 0)))
  (.seq
  (.block 1
    (.region false [0, 3, 4, 7] [
      ⟨some 14, .mov (.t 3), none, []⟩,
      ⟨some 15, .mov (.t 4), none, []⟩,
      ⟨some 16, .mov (.t 0), none, []⟩,
      ⟨some 17, .mov (.t 4), none, []⟩,
      ⟨some 18, .ia 38 5 1 (.t 16) (.t 17), none, []⟩,
      ⟨some 19, .load 5 false 1 (.t 18), none, []⟩,
      ⟨some 20, .ia 38 5 1 (.t 14) (.t 15), none, []⟩,
      ⟨none, .store 5 1 (.t 20) (.t 19), none, []⟩]))
  (.region false [0, 3, 4, 7] [
    ⟨some 12, .mov (.t 4), none, []⟩,
    ⟨some 13, .bin false .add 3 (.t 12) (.c (.int .i64 1)), none, []⟩,
    ⟨some 4, .asg (.t 13), none, []⟩])))
def l64_0 : VC := .loop b64_0
/-- loop.example/g00539/laws.toByteS -/
def v64 : VFun := {
  code :=
    (.seq
    (.region false [0] [
      ⟨some 2, .asg (.n 1), none, []⟩])
    (.seq
    (.region false [0, 3, 7] [
      ⟨some 5, .mov (.t 0), none, []⟩,
      ⟨some 6, .len false 38 (.t 5), none, []⟩,
      ⟨some 7, .mk 38 5 1 1 [(.val (.int .u8 0))] (.t 6) (.t 6), none, []⟩,
      ⟨some 3, .asg (.t 7), none, []⟩])
    (.seq
    (.seq
    (.region false [0, 3, 4, 7] [
      ⟨some 4, .asg (.c (.int .i64 0)), none, []⟩])
    (.block 0
      l64_0))
    (.seq
    (.region false [2, 3, 7, 21] [
      ⟨some 21, .mov (.t 3), none, []⟩,
      ⟨some 2, .asg (.t 21), none, []⟩])
    .ret))))
  modes := [.lend]
  rets := [⟨2, none⟩] }

def b65_0 : VC :=
  (.seq
  (.seq
  (.region false [0, 1, 5, 14] [
    ⟨some 11, .mov (.t 5), none, []⟩,
    ⟨some 12, .mov (.t 0), none, []⟩,
    ⟨some 13, .len false 38 (.t 12), none, []⟩,
    ⟨some 14, .bin false .lss 3 (.t 11) (.t 13), none, []⟩])
  (.cond (.t 14)
    .skip
    (.exit 0)))
  (.seq
  (.block 1
    (.seq
    (.region true [0, 1, 5, 25] [
      ⟨some 17, .mov (.t 0), none, []⟩,
      ⟨some 18, .mov (.t 5), none, [0]⟩,
      ⟨some 19, .ia 38 5 1 (.t 17) (.t 18), none, []⟩,
      ⟨some 20, .load 5 false 1 (.t 19), none, []⟩,
      ⟨some 21, .mov (.t 1), none, [0, 1, 2, 3]⟩,
      ⟨some 22, .mov (.t 5), none, [0, 1, 2, 3, 4]⟩,
      ⟨some 23, .ia 38 5 1 (.t 21) (.t 22), none, [0, 1, 2, 3]⟩,
      ⟨some 24, .load 5 false 1 (.t 23), none, [0, 1, 2, 3]⟩,
      ⟨some 25, .bin false .neq 5 (.t 20) (.t 24), none, []⟩])
    (.cond (.t 25)
      (.seq
      (.region false [4] [
        ⟨some 4, .asg (.c (.bool false)), none, []⟩])
      .ret)
      .skip)))
  (.region false [0, 1, 5] [
    ⟨some 15, .mov (.t 5), none, []⟩,
    ⟨some 16, .bin false .add 3 (.t 15) (.c (.int .i64 1)), none, []⟩,
    ⟨some 5, .asg (.t 16), none, []⟩])))
def l65_0 : VC := .loop b65_0
/-- loop.example/g00539/laws.eqByteS -/
def v65 : VFun := {
  code :=
    (.seq
    (.region false [0, 1] [
      ⟨some 4, .asg (.c (.bool false)), none, []⟩])
    (.seq
    (.seq
    (.region false [0, 1, 10] [
      ⟨some 6, .mov (.t 0), none, []⟩,
      ⟨some 7, .len false 38 (.t 6), none, []⟩,
      ⟨some 8, .mov (.t 1), none, []⟩,
      ⟨some 9, .len false 38 (.t 8), none, []⟩,
      ⟨some 10, .bin false .neq 3 (.t 7) (.t 9), none, []⟩])
    (.cond (.t 10)
      (.seq
      (.region false [4] [
        ⟨some 4, .asg (.c (.bool false)), none, []⟩])
      .ret)
      .skip))
    (.seq
    (.seq
    (.region false [0, 1, 5] [
      ⟨some 5, .asg (.c (.int .i64 0)), none, []⟩])
    (.block 0
      l65_0))
    (.seq
    (.region false [4] [
      ⟨some 4, .asg (.c (.bool true)), none, []⟩])
    .ret))))
  modes := [.lend, .lend]
  rets := [⟨4, none⟩] }

/-- loop.example/g00539/spec.l1Min -/
def v77 : VFun := {
  code :=
    (.seq
    (.region false [0, 1] [
      ⟨some 4, .asg (.c (.int .i64 0)), none, []⟩])
    (.seq
    (.seq
    (.region false [0, 1, 7] [
      ⟨some 5, .mov (.t 0), none, []⟩,
      ⟨some 6, .mov (.t 1), none, []⟩,
      ⟨some 7, .bin false .lss 2 (.t 5) (.t 6), none, []⟩])
    (.cond (.t 7)
      (.seq
      (.region false [4] [
        ⟨some 8, .mov (.t 0), none, []⟩,
        ⟨some 4, .asg (.t 8), none, []⟩])
      .ret)
      .skip))
    (.seq
    (.region false [4] [
      ⟨some 9, .mov (.t 1), none, []⟩,
      ⟨some 4, .asg (.t 9), none, []⟩])
    .ret)))
  modes := [.lend, .lend]
  rets := [⟨4, none⟩] }

/-- loop.example/g00539/spec.l1Copy -/
def v81 : VFun := {
  code :=
    (.seq
    (.region false [0] [
      ⟨some 2, .asg (.n 1), none, []⟩])
    (.seq
    (.region false [2, 5] [
      ⟨some 3, .lit 38 5 1 0 [(.val (.int .u8 0))] [], none, []⟩,
      ⟨some 4, .mov (.t 0), none, []⟩,
      ⟨some 5, .app 38 5 1 1 (.t 3) (.t 4), none, []⟩,
      ⟨some 2, .asg (.t 5), none, []⟩])
    .ret))
  modes := [.lend]
  rets := [⟨2, none⟩] }

def b83_0 : VC :=
  (.seq
  (.seq
  (.region false [0, 1, 5, 9] [
    ⟨some 6, .mov (.t 5), none, []⟩,
    ⟨some 7, .mov (.t 0), none, []⟩,
    ⟨some 8, .len false 38 (.t 7), none, []⟩,
    ⟨some 9, .bin false .lss 3 (.t 6) (.t 8), none, []⟩])
  (.cond (.t 9)
    .skip
    (.exit 0)))
  (.seq
  (.block 1
    (.seq
    (.region false [0, 1, 5] [
      ⟨some 12, .mov (.t 0), none, []⟩,
      ⟨some 13, .mov (.t 5), none, []⟩,
      ⟨some 14, .mov (.t 1), none, []⟩,
      ⟨some 15, .conv 3 5 .u8 (.t 14), none, []⟩,
      ⟨some 16, .ia 38 5 1 (.t 12) (.t 13), none, []⟩,
      ⟨none, .store 5 1 (.t 16) (.t 15), none, []⟩])
    (.region false [0, 1, 5] [
      ⟨some 17, .mov (.t 1), none, []⟩,
      ⟨some 18, .bin false .add 3 (.t 17) (.c (.int .i64 1)), none, []⟩,
      ⟨some 1, .asg (.t 18), none, []⟩])))
  (.region false [0, 1, 5] [
    ⟨some 10, .mov (.t 5), none, []⟩,
    ⟨some 11, .bin false .add 3 (.t 10) (.c (.int .i64 1)), none, []⟩,
    ⟨some 5, .asg (.t 11), none, []⟩])))
def l83_0 : VC := .loop b83_0
/-- loop.example/g00539/laws.markByteS -/
def v83 : VFun := {
  code :=
    (.seq
    (.region false [0, 1] [
      ⟨some 4, .asg (.c (.int .i64 0)), none, []⟩])
    (.seq
    (.seq
    (.region false [0, 1, 5] [
      ⟨some 5, .asg (.c (.int .i64 0)), none, []⟩])
    (.block 0
      l83_0))
    (.seq
    (.region false [0, 4] [
      ⟨some 19, .mov (.t 1), none, []⟩,
      ⟨some 4, .asg (.t 19), none, []⟩])
    .ret)))
  modes := [.io, .lend]
  rets := [⟨4, none⟩] }

/-- loop.example/g00539/laws.heldDisk -/
def v84 : VFun := {
  code :=
    (.seq
    (.region false [1, 2] [
      ⟨some 2, .box 43 (.t 0), none, []⟩,
      ⟨some 4, .asg (.c (.int .i64 0)), none, []⟩])
    (.seq
    (.region false [1] [
      ⟨some 5, .fa 43 0 0 1 (.t 2), none, []⟩,
      ⟨some 6, .load 38 false 1 (.t 5), none, []⟩,
      ⟨some 7, .mov (.t 1), none, []⟩,
      ⟨some 8, .call 93 [(.t 6), (.t 7)], none, []⟩,
      ⟨some 1, .asg (.t 8), none, []⟩])
    (.seq
    (.seq
    (.region false [1, 10] [
      ⟨some 9, .mov (.t 1), none, []⟩,
      ⟨some 10, .bin false .lss 3 (.t 9) (.c (.int .i64 0)), none, []⟩])
    (.cond (.t 10)
      (.seq
      (.region false [4] [
        ⟨some 4, .asg (.c (.int .i64 (-1))), none, []⟩])
      .ret)
      .skip))
    (.seq
    (.region false [4] [
      ⟨some 11, .mov (.t 1), none, []⟩,
      ⟨some 4, .asg (.t 11), none, []⟩])
    .ret))))
  modes := [.lend, .lend]
  rets := [⟨4, none⟩] }

/-- loop.example/g00539/spec.l15Crash -/
def v86 : VFun := {
  code :=
    (.seq
    (.region false [0, 1, 4] [
      ⟨some 4, .alloc 43 [(.nl 1), (.val (.int .i64 0))], none, []⟩])
    (.seq
    (.region true [0, 4, 5] [
      ⟨some 6, .mov (.t 0), none, []⟩,
      ⟨some 7, .nilc (.t 6), none, []⟩,
      ⟨some 8, .fa 43 1 1 1 (.t 7), none, []⟩,
      ⟨some 9, .load 2 false 1 (.t 8), none, []⟩,
      ⟨some 10, .mov (.t 1), none, [0, 1, 2, 3]⟩,
      ⟨some 11, .mov (.t 0), none, [0, 1, 2, 3, 4]⟩,
      ⟨some 12, .nilc (.t 11), none, [0, 1, 2, 3, 4]⟩,
      ⟨some 13, .fa 43 0 0 1 (.t 12), none, [0, 1, 2, 3, 4]⟩,
      ⟨some 14, .load 38 false 1 (.t 13), none, [0, 1, 2, 3, 4]⟩,
      ⟨some 15, .len false 38 (.t 14), none, [0, 1, 2, 3, 4]⟩,
      ⟨some 16, .mov (.t 0), none, [0, 1, 2, 3, 4, 5, 6, 7, 8, 9]⟩,
      ⟨some 17, .nilc (.t 16), none, [0, 1, 2, 3, 4, 5, 6, 7, 8, 9]⟩,
      ⟨some 18, .fa 43 1 1 1 (.t 17), none, [0, 1, 2, 3, 4, 5, 6, 7, 8, 9]⟩,
      ⟨some 19, .load 2 false 1 (.t 18), none, [0, 1, 2, 3, 4, 5, 6, 7, 8, 9]⟩,
      ⟨some 20, .bin false .sub 2 (.t 15) (.t 19), none, [0, 1, 2, 3, 4]⟩,
      ⟨some 21, .call 77 [(.t 10), (.t 20)], none, [0, 1, 2, 3]⟩,
      ⟨some 22, .bin false .add 2 (.t 9) (.t 21), none, []⟩,
      ⟨some 5, .asg (.t 22), none, []⟩])
    (.seq
    (.region true [4] [
      ⟨some 23, .mov (.t 0), none, []⟩,
      ⟨some 24, .nilc (.t 23), none, []⟩,
      ⟨some 25, .fa 43 0 0 1 (.t 24), none, []⟩,
      ⟨some 26, .load 38 false 1 (.t 25), none, []⟩,
      ⟨some 27, .mov (.t 5), none, [0, 1, 2, 3]⟩,
      ⟨some 28, .cut 38 (some 5) 1 (.t 26) none (some (.t 27)), none, []⟩,
      ⟨some 29, .call 81 [(.t 28)], none, []⟩,
      ⟨some 30, .mov (.t 0), none, [0, 1, 2, 3, 4, 5, 6]⟩,
      ⟨some 31, .nilc (.t 30), none, [0, 1, 2, 3, 4, 5, 6]⟩,
      ⟨some 32, .fa 43 1 1 1 (.t 31), none, [0, 1, 2, 3, 4, 5, 6]⟩,
      ⟨some 33, .load 2 false 1 (.t 32), none, [0, 1, 2, 3, 4, 5, 6]⟩,
      ⟨some 34, .build 43 [(.nl 1), (.val (.int .i64 0))] [(0, 0, 1, (.t 29)), (1, 1, 1, (.t 33))], none, []⟩,
      ⟨none, .store 43 2 (.t 4) (.t 34), none, []⟩])
    .ret)))
  modes := [.lend, .lend]
  rets := [⟨4, some (true, 2)⟩] }

def b93_0 : VC :=
  (.seq
  (.seq
  (.region false [0, 1, 5, 9] [
    ⟨some 6, .mov (.t 5), none, []⟩,
    ⟨some 7, .mov (.t 0), none, []⟩,
    ⟨some 8, .len false 38 (.t 7), none, []⟩,
    ⟨some 9, .bin false .lss 3 (.t 6) (.t 8), none, []⟩])
  (.cond (.t 9)
    .skip
    (.exit 0)))
  (.seq
  (.block 1
    (.seq
    (.seq
    (.region false [0, 1, 5, 18] [
      ⟨some 12, .mov (.t 0), none, []⟩,
      ⟨some 13, .mov (.t 5), none, []⟩,
      ⟨some 14, .ia 38 5 1 (.t 12) (.t 13), none, []⟩,
      ⟨some 15, .load 5 false 1 (.t 14), none, []⟩,
      ⟨some 16, .mov (.t 1), none, []⟩,
      ⟨some 17, .conv 3 5 .u8 (.t 16), none, []⟩,
      ⟨some 18, .bin false .neq 5 (.t 15) (.t 17), none, []⟩])
    (.cond (.t 18)
      (.seq
      (.region false [4] [
        ⟨some 4, .asg (.c (.int .i64 (-1))), none, []⟩])
      .ret)
      .skip))
    (.region false [0, 1, 5] [
      ⟨some 19, .mov (.t 1), none, []⟩,
      ⟨some 20, .bin false .add 3 (.t 19) (.c (.int .i64 1)), none, []⟩,
      ⟨some 1, .asg (.t 20), none, []⟩])))
  (.region false [0, 1, 5] [
    ⟨some 10, .mov (.t 5), none, []⟩,
    ⟨some 11, .bin false .add 3 (.t 10) (.c (.int .i64 1)), none, []⟩,
    ⟨some 5, .asg (.t 11), none, []⟩])))
def l93_0 : VC := .loop b93_0
/-- loop.example/g00539/laws.heldByteS -/
def v93 : VFun := {
  code :=
    (.seq
    (.region false [0, 1] [
      ⟨some 4, .asg (.c (.int .i64 0)), none, []⟩])
    (.seq
    (.seq
    (.region false [0, 1, 5] [
      ⟨some 5, .asg (.c (.int .i64 0)), none, []⟩])
    (.block 0
      l93_0))
    (.seq
    (.region false [4] [
      ⟨some 21, .mov (.t 1), none, []⟩,
      ⟨some 4, .asg (.t 21), none, []⟩])
    .ret)))
  modes := [.lend, .lend]
  rets := [⟨4, none⟩] }

def tab : List (Nat × VFun) := [(14, v14), (24, v24), (26, v26), (27, v27), (28, v28), (48, v48), (49, v49), (50, v50), (51, v51), (55, v55), (56, v56), (57, v57), (60, v60), (62, v62), (63, v63), (64, v64), (65, v65), (77, v77), (81, v81), (83, v83), (84, v84), (86, v86), (93, v93)]
def F (f : FuncId) : Option VFun := getA none (tab.map fun x => (x.1, some x.2)) f
theorem tab_ok : tab.all (fun x => matchFun Try.prog x.1 x.2) = true := by kernel_rfl
theorem F_mem {f : FuncId} {fn : VFun} : ∀ {l : List (Nat × VFun)}, getA none (l.map fun x => (x.1, some x.2)) f = some fn → (f, fn) ∈ l
  | [], h => by simp [getA] at h
  | (k, v) :: l, h => by
    simp only [List.map_cons, getA] at h
    split at h
    · rename_i e
      injection h with h
      subst e; subst h
      exact List.mem_cons_self ..
    · exact List.mem_cons_of_mem _ (F_mem h)
theorem F_ok (f : FuncId) (fn : VFun) (h : F f = some fn) : matchFun Try.prog f fn = true := List.all_eq_true.1 tab_ok _ (F_mem h)
end Go.Proofs.Ythpmfdcmnnbjcaa.CrashDisk
