/- The shelf's contracts at this dump, in plain words: written by the kit's lay-plain. -/
import Derived.Shelf.Strings.SlTrimAscii
import Derived.Shelf.Small.Strs
import Derived.Ground.NamesProg
import Derived.Test.YtdnopbpdiineiaaDoorProg
namespace Go.Proofs.YtdnopbpdiineiaaDoor
open Go.Shelf
def lays160_ren : Go.Shelf.Ren := ⟨fun | 160 => 156 | 232 => 161 | 231 => 160 | 227 => 162 | 234 => 164 | 233 => 163 | 236 => 166 | 235 => 165 | 228 => 167 | 271 => 170 | 151 => 169 | 197 => 168 | 120 => 173 | 152 => 172 | 260 => 171 | 137 => 138 | 119 => 174 | 224 => 175 | 225 => 176 | 217 => 155 | 266 => 159 | n => n, fun | 9 => 9 | 4 => 4 | 3 => 3 | 5 => 5 | 117 => 183 | 116 => 182 | 0 => 0 | 124 => 186 | 21 => 21 | 105 => 187 | 46 => 149 | 119 => 191 | 139 => 194 | 138 => 193 | n => n, fun | 3 => 1 | 4 => 2 | n => n⟩
theorem lays160 : Go.Proofs.Lays.n160 Tryd.prog lays160_ren := {
  mixed := by kernel_rfl
  f119 := Tryd.func174.trans (congrArg some (by kernel_rfl))
  f120 := Tryd.func173.trans (congrArg some (by kernel_rfl))
  f137 := Tryd.func138.trans (congrArg some (by kernel_rfl))
  f151 := Tryd.func169.trans (congrArg some (by kernel_rfl))
  f152 := Tryd.func172.trans (congrArg some (by kernel_rfl))
  f160 := Tryd.func156.trans (congrArg some (by kernel_rfl))
  f197 := Tryd.func168.trans (congrArg some (by kernel_rfl))
  f217 := Tryd.func155.trans (congrArg some (by kernel_rfl))
  f224 := Tryd.func175.trans (congrArg some (by kernel_rfl))
  f225 := Tryd.func176.trans (congrArg some (by kernel_rfl))
  f227 := Tryd.func162.trans (congrArg some (by kernel_rfl))
  f228 := Tryd.func167.trans (congrArg some (by kernel_rfl))
  f231 := Tryd.func160.trans (congrArg some (by kernel_rfl))
  f232 := Tryd.func161.trans (congrArg some (by kernel_rfl))
  f233 := Tryd.func163.trans (congrArg some (by kernel_rfl))
  f234 := Tryd.func164.trans (congrArg some (by kernel_rfl))
  f235 := Tryd.func165.trans (congrArg some (by kernel_rfl))
  f236 := Tryd.func166.trans (congrArg some (by kernel_rfl))
  f260 := Tryd.func171.trans (congrArg some (by kernel_rfl))
  f266 := Tryd.func159.trans (congrArg some (by kernel_rfl))
  f271 := Tryd.func170.trans (congrArg some (by kernel_rfl))
  t0 := Tryd.underlying0
  a0 := Tryd.isAgg0
  z0 := Tryd.sizeOf0
  v0 := Tryd.zeroValue0
  t3 := Tryd.underlying3
  a3 := Tryd.isAgg3
  z3 := Tryd.sizeOf3
  v3 := Tryd.zeroValue3
  t4 := Tryd.underlying4
  a4 := Tryd.isAgg4
  z4 := Tryd.sizeOf4
  v4 := Tryd.zeroValue4
  t5 := Tryd.underlying5
  a5 := Tryd.isAgg5
  z5 := Tryd.sizeOf5
  v5 := Tryd.zeroValue5
  t9 := Tryd.underlying9
  a9 := Tryd.isAgg9
  z9 := Tryd.sizeOf9
  v9 := Tryd.zeroValue9
  t21 := Tryd.underlying21
  a21 := Tryd.isAgg21
  z21 := Tryd.sizeOf21
  v21 := Tryd.zeroValue21
  t46 := Tryd.underlying149
  a46 := Tryd.isAgg149
  z46 := Tryd.sizeOf149
  v46 := Tryd.zeroValue149
  t105 := Tryd.underlying187
  a105 := Tryd.isAgg187
  z105 := Tryd.sizeOf187
  v105 := Tryd.zeroValue187
  t116 := Tryd.underlying182
  a116 := Tryd.isAgg182
  z116 := Tryd.sizeOf182
  t117 := Tryd.underlying183
  a117 := Tryd.isAgg183
  z117 := Tryd.sizeOf183
  v117 := Tryd.zeroValue183
  t119 := Tryd.underlying191
  a119 := Tryd.isAgg191
  z119 := Tryd.sizeOf191
  t124 := Tryd.underlying186
  a124 := Tryd.isAgg186
  z124 := Tryd.sizeOf186
  v124 := Tryd.zeroValue186
  t138 := Tryd.underlying193
  a138 := Tryd.isAgg193
  z138 := Tryd.sizeOf193
  v138 := Tryd.zeroValue193
  t139 := Tryd.underlying194
  a139 := Tryd.isAgg194
  z139 := Tryd.sizeOf194
  v139 := Tryd.zeroValue194
  g3 := by kernel_rfl
  g4 := by kernel_rfl }
def lays137_ren : Go.Shelf.Ren := ⟨fun | 137 => 138 | 217 => 155 | 266 => 159 | n => n, fun | 9 => 9 | 5 => 5 | 3 => 3 | n => n, fun | n => n⟩
theorem lays137 : Go.Proofs.Lays.n137 Tryd.prog lays137_ren := {
  mixed := by kernel_rfl
  f137 := Tryd.func138.trans (congrArg some (by kernel_rfl))
  f217 := Tryd.func155.trans (congrArg some (by kernel_rfl))
  f266 := Tryd.func159.trans (congrArg some (by kernel_rfl))
  t3 := Tryd.underlying3
  a3 := Tryd.isAgg3
  z3 := Tryd.sizeOf3
  v3 := Tryd.zeroValue3
  t5 := Tryd.underlying5
  a5 := Tryd.isAgg5
  z5 := Tryd.sizeOf5
  v5 := Tryd.zeroValue5
  t9 := Tryd.underlying9
  a9 := Tryd.isAgg9
  z9 := Tryd.sizeOf9
  v9 := Tryd.zeroValue9 }
end Go.Proofs.YtdnopbpdiineiaaDoor
