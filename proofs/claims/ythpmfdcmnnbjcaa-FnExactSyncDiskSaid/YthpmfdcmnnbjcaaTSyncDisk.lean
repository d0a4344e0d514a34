/- V's text of the functions that this law reaches. -/
import Derived.Test.YthpmfdcmnnbjcaaVCode
import Derived.Test.YthpmfdcmnnbjcaaRows
import Derived.KernelRfl
namespace Go.Proofs.Ythpmfdcmnnbjcaa.SyncDisk
open Go Go.Proofs.Ythpmfdcmnnbjcaa.V

/-- loop.example/g00539/laws.FnExactSyncDisk -/
def v12 : VFun := {
  code :=
    (.seq
    (.region false [1] [
      ⟨some 1, .box 40 (.t 0), none, []⟩,
      ⟨some 2, .asg (.c (.bool false)), none, []⟩])
    (.seq
    (.region false [1, 3] [
      ⟨some 3, .asg (.c (.int .i64 1048576)), none, []⟩])
    (.seq
    (.region false [1, 3] [
      ⟨some 11, .load 40 true 2 (.t 1), none, []⟩,
      ⟨some 12, .mov (.t 3), none, []⟩,
      ⟨some 13, .call 24 [(.t 11), (.t 12)], none, []⟩,
      ⟨some 3, .asg (.t 13), none, []⟩])
    (.seq
    (.seq
    (.region false [1, 15] [
      ⟨some 14, .mov (.t 3), none, []⟩,
      ⟨some 15, .bin false .lss 3 (.t 14) (.c (.int .i64 0)), none, []⟩])
    (.cond (.t 15)
      (.seq
      (.region false [2] [
        ⟨some 2, .asg (.c (.bool true)), none, []⟩])
      .ret)
      .skip))
    (.seq
    (.region false [1, 4] [
      ⟨some 16, .load 40 true 2 (.t 1), none, []⟩,
      ⟨some 17, .call 26 [(.t 16)], none, []⟩,
      ⟨some 18, .call 46 [(.t 17)], none, []⟩,
      ⟨some 4, .alloc 69 [(.val (.int .i64 0)), (.nl 1), (.val (.int .i64 0))], none, []⟩,
      ⟨none, .store 69 3 (.t 4) (.t 18), none, []⟩])
    (.seq
    (.region false [1, 4, 5] [
      ⟨some 19, .load 40 true 2 (.t 1), none, []⟩,
      ⟨some 20, .call 26 [(.t 19)], none, []⟩,
      ⟨some 5, .alloc 43 [(.nl 1), (.val (.int .i64 0))], none, []⟩,
      ⟨none, .store 43 2 (.t 5) (.t 20), none, []⟩])
    (.seq
    (.region false [1, 4, 5, 6] [
      ⟨some 21, .load 43 true 2 (.t 5), none, []⟩,
      ⟨some 22, .call 47 [(.t 21)], none, []⟩,
      ⟨some 6, .alloc 69 [(.val (.int .i64 0)), (.nl 1), (.val (.int .i64 0))], none, []⟩,
      ⟨none, .store 69 3 (.t 6) (.t 22), none, []⟩])
    (.seq
    (.seq
    (.region false [1, 4, 5, 6, 26] [
      ⟨some 23, .load 69 true 3 (.t 6), none, []⟩,
      ⟨some 24, .load 69 true 3 (.t 4), none, []⟩,
      ⟨some 25, .call 48 [(.t 23), (.t 24)], none, []⟩,
      ⟨some 26, .un .not (.t 25), none, []⟩])
    (.cond (.t 26)
      (.seq
      (.region false [2] [
        ⟨some 2, .asg (.c (.bool false)), none, []⟩])
      .ret)
      .skip))
    (.seq
    (.seq
    (.region true [1, 4, 5, 6, 31] [
      ⟨some 27, .load 43 true 2 (.t 5), none, []⟩,
      ⟨some 28, .load 40 true 2 (.t 1), none, [0]⟩,
      ⟨some 29, .call 26 [(.t 28)], none, [0]⟩,
      ⟨some 30, .call 28 [(.t 27), (.t 29)], none, []⟩,
      ⟨some 31, .un .not (.t 30), none, []⟩])
    (.cond (.t 31)
      (.seq
      (.region false [2] [
        ⟨some 2, .asg (.c (.bool false)), none, []⟩])
      .ret)
      .skip))
    (.seq
    (.region false [1, 4, 5, 6, 7] [
      ⟨some 7, .asg (.c (.int .i64 1)), none, []⟩])
    (.seq
    (.region false [1, 4, 6, 7] [
      ⟨some 32, .load 43 true 2 (.t 5), none, []⟩,
      ⟨some 33, .mov (.t 7), none, []⟩,
      ⟨some 34, .call 49 [(.t 32), (.t 33)], none, []⟩,
      ⟨some 7, .asg (.t 34), none, []⟩])
    (.seq
    (.seq
    (.region false [1, 4, 6, 42] [
      ⟨some 35, .mov (.t 7), none, []⟩,
      ⟨some 36, .bin false .lss 3 (.t 35) (.c (.int .i64 0)), none, []⟩,
      ⟨some 37, .mov (.t 36), none, []⟩,
      ⟨some 38, .load 69 true 3 (.t 6), some (37, false), []⟩,
      ⟨some 39, .load 69 true 3 (.t 4), some (37, false), []⟩,
      ⟨some 40, .call 48 [(.t 38), (.t 39)], some (37, false), []⟩,
      ⟨some 41, .un .not (.t 40), some (37, false), []⟩,
      ⟨some 42, .pick (.t 37) (.c (.bool true)) (.t 41), none, []⟩])
    (.cond (.t 42)
      (.seq
      (.region false [2] [
        ⟨some 2, .asg (.c (.bool false)), none, []⟩])
      .ret)
      .skip))
    (.seq
    (.region false [1, 4, 6, 8] [
      ⟨some 8, .asg (.c (.int .i64 1)), none, []⟩])
    (.seq
    (.region false [1, 4, 6, 8] [
      ⟨some 43, .load 69 true 3 (.t 6), none, []⟩,
      ⟨some 44, .mov (.t 8), none, []⟩,
      ⟨some 45, .call 50 [(.t 43), (.t 44)], none, []⟩,
      ⟨some 8, .asg (.t 45), none, []⟩])
    (.seq
    (.region false [1, 4, 6, 8, 9] [
      ⟨some 9, .asg (.c (.int .i64 1)), none, []⟩])
    (.seq
    (.region false [1, 4, 6, 8, 9] [
      ⟨some 46, .load 69 true 3 (.t 6), none, []⟩,
      ⟨some 47, .mov (.t 9), none, []⟩,
      ⟨some 48, .call 51 [(.t 46), (.t 47)], none, []⟩,
      ⟨some 9, .asg (.t 48), none, []⟩])
    (.seq
    (.seq
    (.region false [1, 4, 6, 8, 9, 50] [
      ⟨some 49, .mov (.t 9), none, []⟩,
      ⟨some 50, .bin false .lss 3 (.t 49) (.c (.int .i64 0)), none, []⟩])
    (.cond (.t 50)
      (.seq
      (.region false [2] [
        ⟨some 2, .asg (.c (.bool false)), none, []⟩])
      .ret)
      .skip))
    (.seq
    (.seq
    (.region false [1, 4, 6, 8, 53] [
      ⟨some 51, .mov (.t 9), none, []⟩,
      ⟨some 52, .mov (.t 8), none, []⟩,
      ⟨some 53, .bin false .neq 3 (.t 51) (.t 52), none, []⟩])
    (.cond (.t 53)
      (.seq
      (.region false [2] [
        ⟨some 2, .asg (.c (.bool false)), none, []⟩])
      .ret)
      .skip))
    (.seq
    (.region false [4, 6, 8, 10] [
      ⟨some 54, .load 40 true 2 (.t 1), none, []⟩,
      ⟨some 55, .call 26 [(.t 54)], none, []⟩,
      ⟨some 56, .call 47 [(.t 55)], none, []⟩,
      ⟨some 10, .alloc 69 [(.val (.int .i64 0)), (.nl 1), (.val (.int .i64 0))], none, []⟩,
      ⟨none, .store 69 3 (.t 10) (.t 56), none, []⟩])
    (.seq
    (.seq
    (.region false [6, 8, 60] [
      ⟨some 57, .load 69 true 3 (.t 10), none, []⟩,
      ⟨some 58, .load 69 true 3 (.t 4), none, []⟩,
      ⟨some 59, .call 48 [(.t 57), (.t 58)], none, []⟩,
      ⟨some 60, .un .not (.t 59), none, []⟩])
    (.cond (.t 60)
      (.seq
      (.region false [2] [
        ⟨some 2, .asg (.c (.bool false)), none, []⟩])
      .ret)
      .skip))
    (.seq
    (.region false [6, 8, 9] [
      ⟨some 9, .asg (.c (.int .i64 1)), none, []⟩])
    (.seq
    (.region false [8, 9] [
      ⟨some 61, .load 69 true 3 (.t 6), none, []⟩,
      ⟨some 62, .mov (.t 9), none, []⟩,
      ⟨some 63, .call 51 [(.t 61), (.t 62)], none, []⟩,
      ⟨some 9, .asg (.t 63), none, []⟩])
    (.seq
    (.seq
    (.region false [8, 9, 65] [
      ⟨some 64, .mov (.t 9), none, []⟩,
      ⟨some 65, .bin false .lss 3 (.t 64) (.c (.int .i64 0)), none, []⟩])
    (.cond (.t 65)
      (.seq
      (.region false [2] [
        ⟨some 2, .asg (.c (.bool false)), none, []⟩])
      .ret)
      .skip))
    (.seq
    (.seq
    (.region false [68] [
      ⟨some 66, .mov (.t 9), none, []⟩,
      ⟨some 67, .mov (.t 8), none, []⟩,
      ⟨some 68, .bin false .neq 3 (.t 66) (.t 67), none, []⟩])
    (.cond (.t 68)
      (.seq
      (.region false [2] [
        ⟨some 2, .asg (.c (.bool false)), none, []⟩])
      .ret)
      .skip))
    (.seq
    (.region false [2] [
      ⟨some 2, .asg (.c (.bool true)), none, []⟩])
    .ret)))))))))))))))))))))))))
  modes := [.lend]
  rets := [⟨2, none⟩] }

/-- loop.example/g00539/laws.szDisk -/
def v24 : VFun := {
  code :=
    (.seq
    (.region false [1, 2] [
      ⟨some 2, .box 40 (.t 0), none, []⟩,
      ⟨some 4, .asg (.c (.int .i64 0)), none, []⟩])
    (.seq
    (.region false [1] [
      ⟨some 5, .fa 40 0 0 1 (.t 2), none, []⟩,
      ⟨some 6, .load 38 false 1 (.t 5), none, []⟩,
      ⟨some 7, .mov (.t 1), none, []⟩,
      ⟨some 8, .call 62 [(.t 6), (.t 7)], none, []⟩,
      ⟨some 1, .asg (.t 8), none, []⟩])
    (.seq
    (.seq
    (.region false [1, 10] [
      ⟨some 9, .mov (.t 1), none, []⟩,
      ⟨some 10, .bin false .lss 3 (.t 9) (.c (.int .i64 0)), none, []⟩])
    (.cond (.t 10)
      (.seq
      (.region false [4] [
        ⟨some 4, .asg (.c (.int .i64 (-1))), none, []⟩])
      .ret)
      .skip))
    (.seq
    (.region false [4] [
      ⟨some 11, .mov (.t 1), none, []⟩,
      ⟨some 4, .asg (.t 11), none, []⟩])
    .ret))))
  modes := [.lend, .lend]
  rets := [⟨4, none⟩] }

/-- loop.example/g00539/laws.toDisk -/
def v26 : VFun := {
  code :=
    (.seq
    (.region false [1, 2] [
      ⟨some 1, .box 40 (.t 0), none, []⟩,
      ⟨some 2, .alloc 43 [(.nl 1), (.val (.int .i64 0))], none, []⟩])
    (.seq
    (.region false [1, 2, 3] [
      ⟨some 3, .alloc 43 [(.nl 1), (.val (.int .i64 0))], none, []⟩])
    (.seq
    (.region false [1, 2, 3] [
      ⟨some 4, .fa 40 0 0 1 (.t 1), none, []⟩,
      ⟨some 5, .load 38 false 1 (.t 4), none, []⟩,
      ⟨some 6, .call 64 [(.t 5)], none, []⟩,
      ⟨some 7, .fa 43 0 0 1 (.t 3), none, []⟩,
      ⟨none, .store 38 1 (.t 7) (.t 6), none, []⟩])
    (.seq
    (.region false [2, 3] [
      ⟨some 8, .fa 40 1 1 1 (.t 1), none, []⟩,
      ⟨some 9, .load 2 false 1 (.t 8), none, []⟩,
      ⟨some 10, .fa 43 1 1 1 (.t 3), none, []⟩,
      ⟨none, .store 2 1 (.t 10) (.t 9), none, []⟩])
    (.seq
    (.region false [2] [
      ⟨some 11, .load 43 true 2 (.t 3), none, []⟩,
      ⟨none, .store 43 2 (.t 2) (.t 11), none, []⟩])
    .ret)))))
  modes := [.lend]
  rets := [⟨2, some (true, 2)⟩] }

/-- loop.example/g00539/impl.DiskFault -/
def v27 : VFun := {
  code :=
    (.seq
    (.region false [1] [
      ⟨some 1, .box 43 (.t 0), none, []⟩,
      ⟨some 2, .asg (.c (.int .i64 0)), none, []⟩])
    (.seq
    (.block 0
      (.seq
      (.region false [1, 3] [
        ⟨some 4, .fa 43 0 0 1 (.t 1), none, []⟩,
        ⟨some 5, .load 38 false 1 (.t 4), none, []⟩,
        ⟨some 6, .len false 38 (.t 5), none, []⟩,
        ⟨some 7, .bin false .gtr 3 (.t 6) (.c (.int .i64 1200)), none, []⟩,
        ⟨some 3, .asg (.t 7), none, []⟩])
      (.cond (.t 3)
        (.seq
        (.region false [2] [
          ⟨some 2, .asg (.c (.int .i64 2)), none, []⟩])
        .ret)
        (.seq
        (.region false [8] [
          ⟨some 9, .fa 43 1 1 1 (.t 1), none, []⟩,
          ⟨some 10, .load 2 false 1 (.t 9), none, []⟩,
          ⟨some 11, .fa 43 0 0 1 (.t 1), none, []⟩,
          ⟨some 12, .load 38 false 1 (.t 11), none, []⟩,
          ⟨some 13, .len false 38 (.t 12), none, []⟩,
          ⟨some 14, .call 60 [(.t 10), (.c (.int .i64 0)), (.t 13)], none, []⟩,
          ⟨some 15, .un .not (.t 14), none, []⟩,
          ⟨some 8, .asg (.t 15), none, []⟩])
        (.cond (.t 8)
          (.seq
          (.region false [2] [
            ⟨some 2, .asg (.c (.int .i64 3)), none, []⟩])
          .ret)
          .skip)))))
    (.seq
    (.region false [2] [
      ⟨some 2, .asg (.c (.int .i64 0)), none, []⟩])
    .ret)))
  modes := [.lend]
  rets := [⟨2, none⟩] }

/-- loop.example/g00539/laws.eqDisk -/
def v28 : VFun := {
  code :=
    (.seq
    (.region false [2, 3] [
      ⟨some 2, .box 43 (.t 0), none, []⟩,
      ⟨some 3, .box 43 (.t 1), none, []⟩,
      ⟨some 4, .asg (.c (.bool false)), none, []⟩])
    (.seq
    (.seq
    (.region false [2, 3, 10] [
      ⟨some 5, .fa 43 0 0 1 (.t 2), none, []⟩,
      ⟨some 6, .load 38 false 1 (.t 5), none, []⟩,
      ⟨some 7, .fa 43 0 0 1 (.t 3), none, []⟩,
      ⟨some 8, .load 38 false 1 (.t 7), none, []⟩,
      ⟨some 9, .call 65 [(.t 6), (.t 8)], none, []⟩,
      ⟨some 10, .un .not (.t 9), none, []⟩])
    (.cond (.t 10)
      (.seq
      (.region false [4] [
        ⟨some 4, .asg (.c (.bool false)), none, []⟩])
      .ret)
      .skip))
    (.seq
    (.seq
    (.region false [15] [
      ⟨some 11, .fa 43 1 1 1 (.t 2), none, []⟩,
      ⟨some 12, .load 2 false 1 (.t 11), none, []⟩,
      ⟨some 13, .fa 43 1 1 1 (.t 3), none, []⟩,
      ⟨some 14, .load 2 false 1 (.t 13), none, []⟩,
      ⟨some 15, .bin false .neq 2 (.t 12) (.t 14), none, []⟩])
    (.cond (.t 15)
      (.seq
      (.region false [4] [
        ⟨some 4, .asg (.c (.bool false)), none, []⟩])
      .ret)
      .skip))
    (.seq
    (.region false [4] [
      ⟨some 4, .asg (.c (.bool true)), none, []⟩])
    .ret))))
  modes := [.lend, .lend]
  rets := [⟨4, none⟩] }

/-- loop.example/g00539/spec.SyncDisk -/
def v46 : VFun := {
  code :=
    (.seq
    (.region false [1, 2] [
      ⟨some 1, .box 43 (.t 0), none, []⟩,
      ⟨some 2, .alloc 69 [(.val (.int .i64 0)), (.nl 1), (.val (.int .i64 0))], none, []⟩])
    (.seq
    (.seq
    (.region false [1, 2, 3] [
      ⟨some 4, .call 63 [(.t 1)], none, []⟩,
      ⟨some 3, .asg (.t 4), none, []⟩])
    (.seq
    (.region false [1, 2, 3, 6] [
      ⟨some 5, .mov (.t 3), none, []⟩,
      ⟨some 6, .bin false .neq 2 (.t 5) (.c (.int .i64 0)), none, []⟩])
    (.cond (.t 6)
      (.seq
      (.region false [2] [
        ⟨some 7, .mov (.t 3), none, []⟩,
        ⟨some 8, .build 69 [(.val (.int .i64 0)), (.nl 1), (.val (.int .i64 0))] [(0, 0, 1, (.t 7))], none, []⟩,
        ⟨none, .store 69 3 (.t 2) (.t 8), none, []⟩])
      .ret)
      .skip)))
    (.seq
    (.region true [2] [
      ⟨some 9, .fa 43 0 0 1 (.t 1), none, []⟩,
      ⟨some 10, .load 38 false 1 (.t 9), none, []⟩,
      ⟨some 11, .call 81 [(.t 10)], none, []⟩,
      ⟨some 12, .fa 43 0 0 1 (.t 1), none, [0, 1, 2]⟩,
      ⟨some 13, .load 38 false 1 (.t 12), none, [0, 1, 2]⟩,
      ⟨some 14, .len false 38 (.t 13), none, [0, 1, 2]⟩,
      ⟨some 15, .build 43 [(.nl 1), (.val (.int .i64 0))] [(0, 0, 1, (.t 11)), (1, 1, 1, (.t 14))], none, []⟩,
      ⟨some 16, .build 69 [(.val (.int .i64 0)), (.nl 1), (.val (.int .i64 0))] [(1, 1, 2, (.t 15))], none, []⟩,
      ⟨none, .store 69 3 (.t 2) (.t 16), none, []⟩])
    .ret)))
  modes := [.lend]
  rets := [⟨2, some (true, 3)⟩] }

/-- loop.example/g00539/impl.SyncDisk -/
def v47 : VFun := {
  code :=
    (.seq
    (.region false [1, 2] [
      ⟨some 1, .box 43 (.t 0), none, []⟩,
      ⟨some 2, .alloc 69 [(.val (.int .i64 0)), (.nl 1), (.val (.int .i64 0))], none, []⟩])
    (.seq
    (.seq
    (.region false [1, 2, 3] [
      ⟨some 4, .load 43 true 2 (.t 1), none, []⟩,
      ⟨some 5, .call 27 [(.t 4)], none, []⟩,
      ⟨some 3, .asg (.t 5), none, []⟩])
    (.seq
    (.region false [1, 2, 3, 7] [
      ⟨some 6, .mov (.t 3), none, []⟩,
      ⟨some 7, .bin false .neq 2 (.t 6) (.c (.int .i64 0)), none, []⟩])
    (.cond (.t 7)
      (.seq
      (.region false [2] [
        ⟨some 8, .mov (.t 3), none, []⟩,
        ⟨some 9, .build 69 [(.val (.int .i64 0)), (.nl 1), (.val (.int .i64 0))] [(0, 0, 1, (.t 8))], none, []⟩,
        ⟨none, .store 69 3 (.t 2) (.t 9), none, []⟩])
      .ret)
      .skip)))
    (.seq
    (.region true [2] [
      ⟨some 10, .fa 43 0 0 1 (.t 1), none, []⟩,
      ⟨some 11, .load 38 false 1 (.t 10), none, []⟩,
      ⟨some 12, .call 82 [(.t 11)], none, []⟩,
      ⟨some 13, .fa 43 0 0 1 (.t 1), none, [0, 1, 2]⟩,
      ⟨some 14, .load 38 false 1 (.t 13), none, [0, 1, 2]⟩,
      ⟨some 15, .len false 38 (.t 14), none, [0, 1, 2]⟩,
      ⟨some 16, .build 43 [(.nl 1), (.val (.int .i64 0))] [(0, 0, 1, (.t 12)), (1, 1, 1, (.t 15))], none, []⟩,
      ⟨some 17, .build 69 [(.val (.int .i64 0)), (.nl 1), (.val (.int .i64 0))] [(0, 0, 1, (.c (.int .i64 0))), (1, 1, 2, (.t 16))], none, []⟩,
      ⟨none, .store 69 3 (.t 2) (.t 17), none, []⟩])
    .ret)))
  modes := [.lend]
  rets := [⟨2, some (true, 3)⟩] }

/-- loop.example/g00539/laws.eqDiskResult -/
def v48 : VFun := {
  code :=
    (.seq
    (.region false [2, 3] [
      ⟨some 2, .box 69 (.t 0), none, []⟩,
      ⟨some 3, .box 69 (.t 1), none, []⟩,
      ⟨some 4, .asg (.c (.bool false)), none, []⟩])
    (.seq
    (.seq
    (.region false [2, 3, 9] [
      ⟨some 5, .fa 69 0 0 1 (.t 2), none, []⟩,
      ⟨some 6, .load 2 false 1 (.t 5), none, []⟩,
      ⟨some 7, .fa 69 0 0 1 (.t 3), none, []⟩,
      ⟨some 8, .load 2 false 1 (.t 7), none, []⟩,
      ⟨some 9, .bin false .neq 2 (.t 6) (.t 8), none, []⟩])
    (.cond (.t 9)
      (.seq
      (.region false [4] [
        ⟨some 4, .asg (.c (.bool false)), none, []⟩])
      .ret)
      .skip))
    (.seq
    (.seq
    (.region false [15] [
      ⟨some 10, .fa 69 1 1 2 (.t 2), none, []⟩,
      ⟨some 11, .load 43 true 2 (.t 10), none, []⟩,
      ⟨some 12, .fa 69 1 1 2 (.t 3), none, []⟩,
      ⟨some 13, .load 43 true 2 (.t 12), none, []⟩,
      ⟨some 14, .call 28 [(.t 11), (.t 13)], none, []⟩,
      ⟨some 15, .un .not (.t 14), none, []⟩])
    (.cond (.t 15)
      (.seq
      (.region false [4] [
        ⟨some 4, .asg (.c (.bool false)), none, []⟩])
      .ret)
      .skip))
    (.seq
    (.region false [4] [
      ⟨some 4, .asg (.c (.bool true)), none, []⟩])
    .ret))))
  modes := [.lend, .lend]
  rets := [⟨4, none⟩] }

/-- loop.example/g00539/laws.markDisk -/
def v49 : VFun := {
  code :=
    (.seq
    (.region false [0, 1, 2] [
      ⟨some 2, .box 43 (.t 0), none, []⟩,
      ⟨some 4, .asg (.c (.int .i64 0)), none, []⟩])
    (.seq
    (.region false [0, 1, 2] [
      ⟨some 5, .fa 43 0 0 1 (.t 2), none, []⟩,
      ⟨some 6, .load 38 false 1 (.t 5), none, []⟩,
      ⟨some 7, .mov (.t 1), none, []⟩,
      ⟨some 8, .call 83 [(.t 6), (.t 7)], none, []⟩,
      ⟨some 1, .asg (.t 8), none, []⟩])
    (.seq
    (.region false [0, 2, 4] [
      ⟨some 9, .mov (.t 1), none, []⟩,
      ⟨some 4, .asg (.t 9), none, []⟩])
    .ret)))
  modes := [.io, .lend]
  rets := [⟨4, none⟩] }

/-- loop.example/g00539/laws.markDiskResult -/
def v50 : VFun := {
  code :=
    (.seq
    (.region false [0, 1, 2] [
      ⟨some 2, .box 69 (.t 0), none, []⟩,
      ⟨some 4, .asg (.c (.int .i64 0)), none, []⟩])
    (.seq
    (.region false [0, 1, 2] [
      ⟨some 5, .fa 69 1 1 2 (.t 2), none, []⟩,
      ⟨some 6, .load 43 true 2 (.t 5), none, []⟩,
      ⟨some 7, .mov (.t 1), none, []⟩,
      ⟨some 8, .call 49 [(.t 6), (.t 7)], none, []⟩,
      ⟨some 1, .asg (.t 8), none, []⟩])
    (.seq
    (.region false [0, 2, 4] [
      ⟨some 9, .mov (.t 1), none, []⟩,
      ⟨some 4, .asg (.t 9), none, []⟩])
    .ret)))
  modes := [.io, .lend]
  rets := [⟨4, none⟩] }

/-- loop.example/g00539/laws.heldDiskResult -/
def v51 : VFun := {
  code :=
    (.seq
    (.region false [1, 2] [
      ⟨some 2, .box 69 (.t 0), none, []⟩,
      ⟨some 4, .asg (.c (.int .i64 0)), none, []⟩])
    (.seq
    (.region false [1] [
      ⟨some 5, .fa 69 1 1 2 (.t 2), none, []⟩,
      ⟨some 6, .load 43 true 2 (.t 5), none, []⟩,
      ⟨some 7, .mov (.t 1), none, []⟩,
      ⟨some 8, .call 84 [(.t 6), (.t 7)], none, []⟩,
      ⟨some 1, .asg (.t 8), none, []⟩])
    (.seq
    (.seq
    (.region false [1, 10] [
      ⟨some 9, .mov (.t 1), none, []⟩,
      ⟨some 10, .bin false .lss 3 (.t 9) (.c (.int .i64 0)), none, []⟩])
    (.cond (.t 10)
      (.seq
      (.region false [4] [
        ⟨some 4, .asg (.c (.int .i64 (-1))), none, []⟩])
      .ret)
      .skip))
    (.seq
    (.region false [4] [
      ⟨some 11, .mov (.t 1), none, []⟩,
      ⟨some 4, .asg (.t 11), none, []⟩])
    .ret))))
  modes := [.lend, .lend]
  rets := [⟨4, none⟩] }

/-- loop.example/g00539/spec.l1In -/
def v57 : VFun := {
  code :=
    (.seq
    (.region false [0, 1, 2] [
      ⟨some 6, .asg (.c (.bool false)), none, []⟩])
    (.seq
    (.region false [6] [
      ⟨some 7, .mov (.t 0), none, []⟩,
      ⟨some 8, .mov (.t 1), none, []⟩,
      ⟨some 9, .bin false .geq 2 (.t 7) (.t 8), none, []⟩,
      ⟨some 10, .mov (.t 9), none, []⟩,
      ⟨some 11, .mov (.t 0), some (10, true), []⟩,
      ⟨some 12, .mov (.t 2), some (10, true), []⟩,
      ⟨some 13, .bin false .leq 2 (.t 11) (.t 12), some (10, true), []⟩,
      ⟨some 14, .pick (.t 10) (.t 13) (.c (.bool false)), none, []⟩,
      ⟨some 6, .asg (.t 14), none, []⟩])
    .ret))
  modes := [.lend, .lend, .lend]
  rets := [⟨6, none⟩] }

/-- loop.example/g00539/impl.in -/
def v60 : VFun := {
  code :=
    (.seq
    (.region false [0, 1, 2] [
      ⟨some 6, .asg (.c (.bool false)), none, []⟩])
    (.seq
    (.region false [6] [
      ⟨some 7, .mov (.t 0), none, []⟩,
      ⟨some 8, .mov (.t 1), none, []⟩,
      ⟨some 9, .bin false .geq 2 (.t 7) (.t 8), none, []⟩,
      ⟨some 10, .mov (.t 9), none, []⟩,
      ⟨some 11, .mov (.t 0), some (10, true), []⟩,
      ⟨some 12, .mov (.t 2), some (10, true), []⟩,
      ⟨some 13, .bin false .leq 2 (.t 11) (.t 12), some (10, true), []⟩,
      ⟨some 14, .pick (.t 10) (.t 13) (.c (.bool false)), none, []⟩,
      ⟨some 6, .asg (.t 14), none, []⟩])
    .ret))
  modes := [.lend, .lend, .lend]
  rets := [⟨6, none⟩] }

/-- loop.example/g00539/laws.szByteS -/
def v62 : VFun := {
  code :=
    (.seq
    (.region false [0, 1] [
      ⟨some 4, .asg (.c (.int .i64 0)), none, []⟩])
    (.seq
    (.region false [1] [
      ⟨some 5, .mov (.t 1), none, []⟩,
      ⟨some 6, .mov (.t 0), none, []⟩,
      ⟨some 7, .len false 38 (.t 6), none, []⟩,
      ⟨some 8, .bin false .sub 3 (.t 5) (.t 7), none, []⟩,
      ⟨some 1, .asg (.t 8), none, []⟩])
    (.seq
    (.seq
    (.region false [1, 10] [
      ⟨some 9, .mov (.t 1), none, []⟩,
      ⟨some 10, .bin false .lss 3 (.t 9) (.c (.int .i64 0)), none, []⟩])
    (.cond (.t 10)
      (.seq
      (.region false [4] [
        ⟨some 4, .asg (.c (.int .i64 (-1))), none, []⟩])
      .ret)
      .skip))
    (.seq
    (.region false [4] [
      ⟨some 11, .mov (.t 1), none, []⟩,
      ⟨some 4, .asg (.t 11), none, []⟩])
    .ret))))
  modes := [.lend, .lend]
  rets := [⟨4, none⟩] }

/-- loop.example/g00539/spec.l15Disk -/
def v63 : VFun := {
  code :=
    (.seq
    (.region false [0] [
      ⟨some 2, .asg (.c (.int .i64 0)), none, []⟩])
    (.seq
    (.seq
    (.region false [0, 8] [
      ⟨some 3, .mov (.t 0), none, []⟩,
      ⟨some 4, .nilc (.t 3), none, []⟩,
      ⟨some 5, .fa 43 0 0 1 (.t 4), none, []⟩,
      ⟨some 6, .load 38 false 1 (.t 5), none, []⟩,
      ⟨some 7, .len false 38 (.t 6), none, []⟩,
      ⟨some 8, .bin false .gtr 3 (.t 7) (.c (.int .i64 1200)), none, []⟩])
    (.cond (.t 8)
      (.seq
      (.region false [2] [
        ⟨some 2, .asg (.c (.int .i64 2)), none, []⟩])
      .ret)
      .skip))
    (.seq
    (.seq
    (.region true [19] [
      ⟨some 9, .mov (.t 0), none, []⟩,
      ⟨some 10, .nilc (.t 9), none, []⟩,
      ⟨some 11, .fa 43 1 1 1 (.t 10), none, []⟩,
      ⟨some 12, .load 2 false 1 (.t 11), none, []⟩,
      ⟨some 13, .mov (.t 0), none, [0, 1, 2, 3]⟩,
      ⟨some 14, .nilc (.t 13), none, [0, 1, 2, 3]⟩,
      ⟨some 15, .fa 43 0 0 1 (.t 14), none, [0, 1, 2, 3]⟩,
      ⟨some 16, .load 38 false 1 (.t 15), none, [0, 1, 2, 3]⟩,
      ⟨some 17, .len false 38 (.t 16), none, [0, 1, 2, 3]⟩,
      ⟨some 18, .call 57 [(.t 12), (.c (.int .i64 0)), (.t 17)], none, []⟩,
      ⟨some 19, .un .not (.t 18), none, []⟩])
    (.cond (.t 19)
      (.seq
      (.region false [2] [
        ⟨some 2, .asg (.c (.int .i64 3)), none, []⟩])
      .ret)
      .skip))
    (.seq
    (.region false [2] [
      ⟨some 2, .asg (.c (.int .i64 0)), none, []⟩])
    .ret))))
  modes := [.lend]
  rets := [⟨2, none⟩] }

def b64_0 : VC :=
  (.seq
  (.seq
  (.region false [0, 3, 4, 7, 11] [
    ⟨some 8, .mov (.t 4), none, []⟩,
    ⟨some 9, .mov (.t 0), none, []⟩,
    ⟨some 10, .len false 38 (.t 9), none, []⟩,
    ⟨some 11, .bin false .lss 3 (.t 8) (.t 10), none, []⟩])
  (.cond (.t 11)
    .skip
    (.exit 0)))
  (.seq
  (.block 1
    (.region false [0, 3, 4, 7] [
      ⟨some 14, .mov (.t 3), none, []⟩,
      ⟨some 15, .mov (.t 4), none, []⟩,
      ⟨some 16, .mov (.t 0), none, []⟩,
      ⟨some 17, .mov (.t 4), none, []⟩,
      ⟨some 18, .ia 38 5 1 (.t 16) (.t 17), none, []⟩,
      ⟨some 19, .load 5 false 1 (.t 18), none, []⟩,
      ⟨some 20, .ia 38 5 1 (.t 14) (.t 15), none, []⟩,
      ⟨none, .store 5 1 (.t 20) (.t 19), none, []⟩]))
  (.region false [0, 3, 4, 7] [
    ⟨some 12, .mov (.t 4), none, []⟩,
    ⟨some 13, .bin false .add 3 (.t 12) (.c (.int .i64 1)), none, []⟩,
    ⟨some 4, .asg (.t 13), none, []⟩])))
def l64_0 : VC := .loop b64_0
/-- loop.example/g00539/laws.toByteS -/
def v64 : VFun := {
  code :=
    (.seq
    (.region false [0] [
      ⟨some 2, .asg (.n 1), none, []⟩])
    (.seq
    (.region false [0, 3, 7] [
      ⟨some 5, .mov (.t 0), none, []⟩,
      ⟨some 6, .len false 38 (.t 5), none, []⟩,
      ⟨some 7, .mk 38 5 1 1 [(.val (.int .u8 0))] (.t 6) (.t 6), none, []⟩,
      ⟨some 3, .asg (.t 7), none, []⟩])
    (.seq
    (.seq
    (.region false [0, 3, 4, 7] [
      ⟨some 4, .asg (.c (.int .i64 0)), none, []⟩])
    (.block 0
      l64_0))
    (.seq
    (.region false [2, 3, 7, 21] [
      ⟨some 21, .mov (.t 3), none, []⟩,
      ⟨some 2, .asg (.t 21), none, []⟩])
    .ret))))
  modes := [.lend]
  rets := [⟨2, none⟩] }

def b65_0 : VC :=
  (.seq
  (.seq
  (.region false [0, 1, 5, 14] [
    ⟨some 11, .mov (.t 5), none, []⟩,
    ⟨some 12, .mov (.t 0), none, []⟩,
    ⟨some 13, .len false 38 (.t 12), none, []⟩,
    ⟨some 14, .bin false .lss 3 (.t 11) (.t 13), none, []⟩])
  (.cond (.t 14)
    .skip
    (.exit 0)))
  (.seq
  (.block 1
    (.seq
    (.region true [0, 1, 5, 25] [
      ⟨some 17, .mov (.t 0), none, []⟩,
      ⟨some 18, .mov (.t 5), none, [0]⟩,
      ⟨some 19, .ia 38 5 1 (.t 17) (.t 18), none, []⟩,
      ⟨some 20, .load 5 false 1 (.t 19), none, []⟩,
      ⟨some 21, .mov (.t 1), none, [0, 1, 2, 3]⟩,
      ⟨some 22, .mov (.t 5), none, [0, 1, 2, 3, 4]⟩,
      ⟨some 23, .ia 38 5 1 (.t 21) (.t 22), none, [0, 1, 2, 3]⟩,
      ⟨some 24, .load 5 false 1 (.t 23), none, [0, 1, 2, 3]⟩,
      ⟨some 25, .bin false .neq 5 (.t 20) (.t 24), none, []⟩])
    (.cond (.t 25)
      (.seq
      (.region false [4] [
        ⟨some 4, .asg (.c (.bool false)), none, []⟩])
      .ret)
      .skip)))
  (.region false [0, 1, 5] [
    ⟨some 15, .mov (.t 5), none, []⟩,
    ⟨some 16, .bin false .add 3 (.t 15) (.c (.int .i64 1)), none, []⟩,
    ⟨some 5, .asg (.t 16), none, []⟩])))
def l65_0 : VC := .loop b65_0
/-- loop.example/g00539/laws.eqByteS -/
def v65 : VFun := {
  code :=
    (.seq
    (.region false [0, 1] [
      ⟨some 4, .asg (.c (.bool false)), none, []⟩])
    (.seq
    (.seq
    (.region false [0, 1, 10] [
      ⟨some 6, .mov (.t 0), none, []⟩,
      ⟨some 7, .len false 38 (.t 6), none, []⟩,
      ⟨some 8, .mov (.t 1), none, []⟩,
      ⟨some 9, .len false 38 (.t 8), none, []⟩,
      ⟨some 10, .bin false .neq 3 (.t 7) (.t 9), none, []⟩])
    (.cond (.t 10)
      (.seq
      (.region false [4] [
        ⟨some 4, .asg (.c (.bool false)), none, []⟩])
      .ret)
      .skip))
    (.seq
    (.seq
    (.region false [0, 1, 5] [
      ⟨some 5, .asg (.c (.int .i64 0)), none, []⟩])
    (.block 0
      l65_0))
    (.seq
    (.region false [4] [
      ⟨some 4, .asg (.c (.bool true)), none, []⟩])
    .ret))))
  modes := [.lend, .lend]
  rets := [⟨4, none⟩] }

/-- loop.example/g00539/spec.l1Copy -/
def v81 : VFun := {
  code :=
    (.seq
    (.region false [0] [
      ⟨some 2, .asg (.n 1), none, []⟩])
    (.seq
    (.region false [2, 5] [
      ⟨some 3, .lit 38 5 1 0 [(.val (.int .u8 0))] [], none, []⟩,
      ⟨some 4, .mov (.t 0), none, []⟩,
      ⟨some 5, .app 38 5 1 1 (.t 3) (.t 4), none, []⟩,
      ⟨some 2, .asg (.t 5), none, []⟩])
    .ret))
  modes := [.lend]
  rets := [⟨2, none⟩] }

def b83_0 : VC :=
  (.seq
  (.seq
  (.region false [0, 1, 5, 9] [
    ⟨some 6, .mov (.t 5), none, []⟩,
    ⟨some 7, .mov (.t 0), none, []⟩,
    ⟨some 8, .len false 38 (.t 7), none, []⟩,
    ⟨some 9, .bin false .lss 3 (.t 6) (.t 8), none, []⟩])
  (.cond (.t 9)
    .skip
    (.exit 0)))
  (.seq
  (.block 1
    (.seq
    (.region false [0, 1, 5] [
      ⟨some 12, .mov (.t 0), none, []⟩,
      ⟨some 13, .mov (.t 5), none, []⟩,
      ⟨some 14, .mov (.t 1), none, []⟩,
      ⟨some 15, .conv 3 5 .u8 (.t 14), none, []⟩,
      ⟨some 16, .ia 38 5 1 (.t 12) (.t 13), none, []⟩,
      ⟨none, .store 5 1 (.t 16) (.t 15), none, []⟩])
    (.region false [0, 1, 5] [
      ⟨some 17, .mov (.t 1), none, []⟩,
      ⟨some 18, .bin false .add 3 (.t 17) (.c (.int .i64 1)), none, []⟩,
      ⟨some 1, .asg (.t 18), none, []⟩])))
  (.region false [0, 1, 5] [
    ⟨some 10, .mov (.t 5), none, []⟩,
    ⟨some 11, .bin false .add 3 (.t 10) (.c (.int .i64 1)), none, []⟩,
    ⟨some 5, .asg (.t 11), none, []⟩])))
def l83_0 : VC := .loop b83_0
/-- loop.example/g00539/laws.markByteS -/
def v83 : VFun := {
  code :=
    (.seq
    (.region false [0, 1] [
      ⟨some 4, .asg (.c (.int .i64 0)), none, []⟩])
    (.seq
    (.seq
    (.region false [0, 1, 5] [
      ⟨some 5, .asg (.c (.int .i64 0)), none, []⟩])
    (.block 0
      l83_0))
    (.seq
    (.region false [0, 4] [
      ⟨some 19, .mov (.t 1), none, []⟩,
      ⟨some 4, .asg (.t 19), none, []⟩])
    .ret)))
  modes := [.io, .lend]
  rets := [⟨4, none⟩] }

/-- loop.example/g00539/laws.heldDisk -/
def v84 : VFun := {
  code :=
    (.seq
    (.region false [1, 2] [
      ⟨some 2, .box 43 (.t 0), none, []⟩,
      ⟨some 4, .asg (.c (.int .i64 0)), none, []⟩])
    (.seq
    (.region false [1] [
      ⟨some 5, .fa 43 0 0 1 (.t 2), none, []⟩,
      ⟨some 6, .load 38 false 1 (.t 5), none, []⟩,
      ⟨some 7, .mov (.t 1), none, []⟩,
      ⟨some 8, .call 93 [(.t 6), (.t 7)], none, []⟩,
      ⟨some 1, .asg (.t 8), none, []⟩])
    (.seq
    (.seq
    (.region false [1, 10] [
      ⟨some 9, .mov (.t 1), none, []⟩,
      ⟨some 10, .bin false .lss 3 (.t 9) (.c (.int .i64 0)), none, []⟩])
    (.cond (.t 10)
      (.seq
      (.region false [4] [
        ⟨some 4, .asg (.c (.int .i64 (-1))), none, []⟩])
      .ret)
      .skip))
    (.seq
    (.region false [4] [
      ⟨some 11, .mov (.t 1), none, []⟩,
      ⟨some 4, .asg (.t 11), none, []⟩])
    .ret))))
  modes := [.lend, .lend]
  rets := [⟨4, none⟩] }

def b93_0 : VC :=
  (.seq
  (.seq
  (.region false [0, 1, 5, 9] [
    ⟨some 6, .mov (.t 5), none, []⟩,
    ⟨some 7, .mov (.t 0), none, []⟩,
    ⟨some 8, .len false 38 (.t 7), none, []⟩,
    ⟨some 9, .bin false .lss 3 (.t 6) (.t 8), none, []⟩])
  (.cond (.t 9)
    .skip
    (.exit 0)))
  (.seq
  (.block 1
    (.seq
    (.seq
    (.region false [0, 1, 5, 18] [
      ⟨some 12, .mov (.t 0), none, []⟩,
      ⟨some 13, .mov (.t 5), none, []⟩,
      ⟨some 14, .ia 38 5 1 (.t 12) (.t 13), none, []⟩,
      ⟨some 15, .load 5 false 1 (.t 14), none, []⟩,
      ⟨some 16, .mov (.t 1), none, []⟩,
      ⟨some 17, .conv 3 5 .u8 (.t 16), none, []⟩,
      ⟨some 18, .bin false .neq 5 (.t 15) (.t 17), none, []⟩])
    (.cond (.t 18)
      (.seq
      (.region false [4] [
        ⟨some 4, .asg (.c (.int .i64 (-1))), none, []⟩])
      .ret)
      .skip))
    (.region false [0, 1, 5] [
      ⟨some 19, .mov (.t 1), none, []⟩,
      ⟨some 20, .bin false .add 3 (.t 19) (.c (.int .i64 1)), none, []⟩,
      ⟨some 1, .asg (.t 20), none, []⟩])))
  (.region false [0, 1, 5] [
    ⟨some 10, .mov (.t 5), none, []⟩,
    ⟨some 11, .bin false .add 3 (.t 10) (.c (.int .i64 1)), none, []⟩,
    ⟨some 5, .asg (.t 11), none, []⟩])))
def l93_0 : VC := .loop b93_0
/-- loop.example/g00539/laws.heldByteS -/
def v93 : VFun := {
  code :=
    (.seq
    (.region false [0, 1] [
      ⟨some 4, .asg (.c (.int .i64 0)), none, []⟩])
    (.seq
    (.seq
    (.region false [0, 1, 5] [
      ⟨some 5, .asg (.c (.int .i64 0)), none, []⟩])
    (.block 0
      l93_0))
    (.seq
    (.region false [4] [
      ⟨some 21, .mov (.t 1), none, []⟩,
      ⟨some 4, .asg (.t 21), none, []⟩])
    .ret)))
  modes := [.lend, .lend]
  rets := [⟨4, none⟩] }

def tab : List (Nat × VFun) := [(12, v12), (24, v24), (26, v26), (27, v27), (28, v28), (46, v46), (47, v47), (48, v48), (49, v49), (50, v50), (51, v51), (57, v57), (60, v60), (62, v62), (63, v63), (64, v64), (65, v65), (81, v81), (83, v83), (84, v84), (93, v93)]
def F (f : FuncId) : Option VFun := getA none (tab.map fun x => (x.1, some x.2)) f
theorem tab_ok : tab.all (fun x => matchFun Try.prog x.1 x.2) = true := by kernel_rfl
theorem F_mem {f : FuncId} {fn : VFun} : ∀ {l : List (Nat × VFun)}, getA none (l.map fun x => (x.1, some x.2)) f = some fn → (f, fn) ∈ l
  | [], h => by simp [getA] at h
  | (k, v) :: l, h => by
    simp only [List.map_cons, getA] at h
    split at h
    · rename_i e
      injection h with h
      subst e; subst h
      exact List.mem_cons_self ..
    · exact List.mem_cons_of_mem _ (F_mem h)
theorem F_ok (f : FuncId) (fn : VFun) (h : F f = some fn) : matchFun Try.prog f fn = true := List.all_eq_true.1 tab_ok _ (F_mem h)
end Go.Proofs.Ythpmfdcmnnbjcaa.SyncDisk
