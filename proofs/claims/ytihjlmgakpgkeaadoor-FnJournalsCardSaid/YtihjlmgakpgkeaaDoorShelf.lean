/- The shelf's contracts at this dump, in plain words: written by the kit's lay-plain. -/
import Derived.Shelf.Strings.SlTrimAscii
import Derived.Ground.NamesProg
import Derived.Test.YtihjlmgakpgkeaaDoorProg
namespace Go.Proofs.YtihjlmgakpgkeaaDoor
open Go.Shelf
def lays160_ren : Go.Shelf.Ren := ⟨fun | 160 => 141 | 232 => 146 | 231 => 145 | 227 => 147 | 234 => 149 | 233 => 148 | 236 => 151 | 235 => 150 | 228 => 153 | 271 => 156 | 151 => 155 | 197 => 154 | 120 => 160 | 152 => 159 | 260 => 158 | 137 => 161 | 119 => 162 | 224 => 163 | 225 => 164 | 217 => 165 | 266 => 166 | n => n, fun | 9 => 9 | 4 => 4 | 3 => 3 | 5 => 5 | 117 => 180 | 116 => 179 | 0 => 0 | 124 => 183 | 21 => 21 | 105 => 185 | 46 => 155 | 119 => 189 | 139 => 192 | 138 => 191 | n => n, fun | 3 => 0 | 4 => 1 | n => n⟩
theorem lays160 : Go.Proofs.Lays.n160 Tryd.prog lays160_ren := {
  mixed := by kernel_rfl
  f119 := Tryd.func162.trans (congrArg some (by kernel_rfl))
  f120 := Tryd.func160.trans (congrArg some (by kernel_rfl))
  f137 := Tryd.func161.trans (congrArg some (by kernel_rfl))
  f151 := Tryd.func155.trans (congrArg some (by kernel_rfl))
  f152 := Tryd.func159.trans (congrArg some (by kernel_rfl))
  f160 := Tryd.func141.trans (congrArg some (by kernel_rfl))
  f197 := Tryd.func154.trans (congrArg some (by kernel_rfl))
  f217 := Tryd.func165.trans (congrArg some (by kernel_rfl))
  f224 := Tryd.func163.trans (congrArg some (by kernel_rfl))
  f225 := Tryd.func164.trans (congrArg some (by kernel_rfl))
  f227 := Tryd.func147.trans (congrArg some (by kernel_rfl))
  f228 := Tryd.func153.trans (congrArg some (by kernel_rfl))
  f231 := Tryd.func145.trans (congrArg some (by kernel_rfl))
  f232 := Tryd.func146.trans (congrArg some (by kernel_rfl))
  f233 := Tryd.func148.trans (congrArg some (by kernel_rfl))
  f234 := Tryd.func149.trans (congrArg some (by kernel_rfl))
  f235 := Tryd.func150.trans (congrArg some (by kernel_rfl))
  f236 := Tryd.func151.trans (congrArg some (by kernel_rfl))
  f260 := Tryd.func158.trans (congrArg some (by kernel_rfl))
  f266 := Tryd.func166.trans (congrArg some (by kernel_rfl))
  f271 := Tryd.func156.trans (congrArg some (by kernel_rfl))
  t0 := Tryd.underlying0
  a0 := Tryd.isAgg0
  z0 := Tryd.sizeOf0
  v0 := Tryd.zeroValue0
  t3 := Tryd.underlying3
  a3 := Tryd.isAgg3
  z3 := Tryd.sizeOf3
  v3 := Tryd.zeroValue3
  t4 := Tryd.underlying4
  a4 := Tryd.isAgg4
  z4 := Tryd.sizeOf4
  v4 := Tryd.zeroValue4
  t5 := Tryd.underlying5
  a5 := Tryd.isAgg5
  z5 := Tryd.sizeOf5
  v5 := Tryd.zeroValue5
  t9 := Tryd.underlying9
  a9 := Tryd.isAgg9
  z9 := Tryd.sizeOf9
  v9 := Tryd.zeroValue9
  t21 := Tryd.underlying21
  a21 := Tryd.isAgg21
  z21 := Tryd.sizeOf21
  v21 := Tryd.zeroValue21
  t46 := Tryd.underlying155
  a46 := Tryd.isAgg155
  z46 := Tryd.sizeOf155
  v46 := Tryd.zeroValue155
  t105 := Tryd.underlying185
  a105 := Tryd.isAgg185
  z105 := Tryd.sizeOf185
  v105 := Tryd.zeroValue185
  t116 := Tryd.underlying179
  a116 := Tryd.isAgg179
  z116 := Tryd.sizeOf179
  t117 := Tryd.underlying180
  a117 := Tryd.isAgg180
  z117 := Tryd.sizeOf180
  v117 := Tryd.zeroValue180
  t119 := Tryd.underlying189
  a119 := Tryd.isAgg189
  z119 := Tryd.sizeOf189
  t124 := Tryd.underlying183
  a124 := Tryd.isAgg183
  z124 := Tryd.sizeOf183
  v124 := Tryd.zeroValue183
  t138 := Tryd.underlying191
  a138 := Tryd.isAgg191
  z138 := Tryd.sizeOf191
  v138 := Tryd.zeroValue191
  t139 := Tryd.underlying192
  a139 := Tryd.isAgg192
  z139 := Tryd.sizeOf192
  v139 := Tryd.zeroValue192
  g3 := by kernel_rfl
  g4 := by kernel_rfl }
end Go.Proofs.YtihjlmgakpgkeaaDoor
