import Derived.Test.YtdcicijfcbhgnaaClF0
import Derived.Ground.NamesProg
import Derived.Shelf.Sort.Plain
import Derived.Test.YtdcicijfcbhgnaaProg
set_option linter.all false
section
namespace Go.Proofs
open Go.Shelf
def Try.laysNm189_ren : Go.Shelf.Ren := ⟨fun | 189 => 114 | 125 => 140 | 257 => 139 | 128 => 163 | 129 => 164 | 294 => 154 | 295 => 155 | 296 => 156 | 297 => 157 | 298 => 158 | 299 => 159 | 216 => 160 | 300 => 161 | 301 => 162 | 328 => 167 | 329 => 168 | 330 => 169 | 331 => 170 | 332 => 171 | 215 => 172 | 343 => 175 | n => n, fun | 28 => 24 | 3 => 3 | 46 => 155 | 0 => 0 | 51 => 187 | 53 => 189 | 4 => 4 | 183 => 180 | 182 => 179 | 131 => 184 | 5 => 5 | 9 => 9 | 218 => 190 | 222 => 194 | 228 => 197 | 229 => 127 | n => n, fun | n => n⟩
theorem Try.laysNm189 : Go.Proofs.Lays.n189 Try.prog Try.laysNm189_ren := {
  mixed := by kernel_rfl
  f125 := Try.func140.trans (congrArg some (by kernel_rfl))
  f128 := Try.func163.trans (congrArg some (by kernel_rfl))
  f129 := Try.func164.trans (congrArg some (by kernel_rfl))
  f189 := Try.func114.trans (congrArg some (by kernel_rfl))
  f215 := Try.func172.trans (congrArg some (by kernel_rfl))
  f216 := Try.func160.trans (congrArg some (by kernel_rfl))
  f257 := Try.func139.trans (congrArg some (by kernel_rfl))
  f294 := Try.func154.trans (congrArg some (by kernel_rfl))
  f295 := Try.func155.trans (congrArg some (by kernel_rfl))
  f296 := Try.func156.trans (congrArg some (by kernel_rfl))
  f297 := Try.func157.trans (congrArg some (by kernel_rfl))
  f298 := Try.func158.trans (congrArg some (by kernel_rfl))
  f299 := Try.func159.trans (congrArg some (by kernel_rfl))
  f300 := Try.func161.trans (congrArg some (by kernel_rfl))
  f301 := Try.func162.trans (congrArg some (by kernel_rfl))
  f328 := Try.func167.trans (congrArg some (by kernel_rfl))
  f329 := Try.func168.trans (congrArg some (by kernel_rfl))
  f330 := Try.func169.trans (congrArg some (by kernel_rfl))
  f331 := Try.func170.trans (congrArg some (by kernel_rfl))
  f332 := Try.func171.trans (congrArg some (by kernel_rfl))
  f343 := Try.func175.trans (congrArg some (by kernel_rfl))
  t0 := Try.underlying0
  a0 := Try.isAgg0
  z0 := Try.sizeOf0
  v0 := Try.zeroValue0
  t3 := Try.underlying3
  a3 := Try.isAgg3
  z3 := Try.sizeOf3
  v3 := Try.zeroValue3
  t4 := Try.underlying4
  a4 := Try.isAgg4
  z4 := Try.sizeOf4
  v4 := Try.zeroValue4
  t5 := Try.underlying5
  a5 := Try.isAgg5
  z5 := Try.sizeOf5
  v5 := Try.zeroValue5
  t9 := Try.underlying9
  a9 := Try.isAgg9
  z9 := Try.sizeOf9
  v9 := Try.zeroValue9
  t28 := Try.underlying24
  a28 := Try.isAgg24
  z28 := Try.sizeOf24
  v28 := Try.zeroValue24
  t46 := Try.underlying155
  a46 := Try.isAgg155
  z46 := Try.sizeOf155
  v46 := Try.zeroValue155
  t51 := Try.underlying187
  a51 := Try.isAgg187
  z51 := Try.sizeOf187
  v51 := Try.zeroValue187
  t53 := Try.underlying189
  a53 := Try.isAgg189
  z53 := Try.sizeOf189
  v53 := Try.zeroValue189
  t131 := Try.underlying184
  a131 := Try.isAgg184
  z131 := Try.sizeOf184
  v131 := Try.zeroValue184
  t182 := Try.underlying179
  a182 := Try.isAgg179
  z182 := Try.sizeOf179
  v182 := Try.zeroValue179
  t183 := Try.underlying180
  a183 := Try.isAgg180
  z183 := Try.sizeOf180
  v183 := Try.zeroValue180
  t218 := Try.underlying190
  a218 := Try.isAgg190
  z218 := Try.sizeOf190
  v218 := Try.zeroValue190
  t222 := Try.underlying194
  a222 := Try.isAgg194
  z222 := Try.sizeOf194
  v222 := Try.zeroValue194
  t228 := Try.underlying197
  a228 := Try.isAgg197
  z228 := Try.sizeOf197
  v228 := Try.zeroValue197
  t229 := Try.underlying127
  a229 := Try.isAgg127
  z229 := Try.sizeOf127
  v229 := Try.zeroValue127 }
end Go.Proofs
end
