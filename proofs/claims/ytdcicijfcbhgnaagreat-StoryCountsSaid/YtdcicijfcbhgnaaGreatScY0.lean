import Derived.Test.YtdcicijfcbhgnaaGreatScF0
import Derived.Ground.NamesProg
import Derived.Shelf.Sort.Plain
import Derived.Test.YtdcicijfcbhgnaaGreatProg
set_option linter.all false
section
namespace Go.Proofs
open Go.Shelf
def Tryz.laysNm189_ren:Go.Shelf.Ren:=⟨fun | 189=>179 | 125=>184 | 257=>187 | 128=>189 | 129=>190 | 294=>193 | 295=>194 | 296=>195 | 297=>196 | 298=>197 | 299=>198 | 216=>199 | 300=>200 | 301=>201 | 328=>203 | 329=>204 | 330=>205 | 331=>206 | 332=>207 | 215=>208 | 343=>209 | n=>n,fun | 28=>37 | 3=>3 | 46=>185 | 0=>0 | 51=>215 | 53=>217 | 4=>4 | 183=>222 | 182=>221 | 131=>218 | 5=>5 | 9=>9 | 218=>227 | 222=>231 | 228=>233 | 229=>112 | n=>n,fun | n=>n⟩
theorem Tryz.laysNm189:Go.Proofs.Lays.n189 Tryz.prog Tryz.laysNm189_ren:={
 mixed:=by kernel_rfl
 f125:=Tryz.func184.trans (congrArg some (by kernel_rfl))
 f128:=Tryz.func189.trans (congrArg some (by kernel_rfl))
 f129:=Tryz.func190.trans (congrArg some (by kernel_rfl))
 f189:=Tryz.func179.trans (congrArg some (by kernel_rfl))
 f215:=Tryz.func208.trans (congrArg some (by kernel_rfl))
 f216:=Tryz.func199.trans (congrArg some (by kernel_rfl))
 f257:=Tryz.func187.trans (congrArg some (by kernel_rfl))
 f294:=Tryz.func193.trans (congrArg some (by kernel_rfl))
 f295:=Tryz.func194.trans (congrArg some (by kernel_rfl))
 f296:=Tryz.func195.trans (congrArg some (by kernel_rfl))
 f297:=Tryz.func196.trans (congrArg some (by kernel_rfl))
 f298:=Tryz.func197.trans (congrArg some (by kernel_rfl))
 f299:=Tryz.func198.trans (congrArg some (by kernel_rfl))
 f300:=Tryz.func200.trans (congrArg some (by kernel_rfl))
 f301:=Tryz.func201.trans (congrArg some (by kernel_rfl))
 f328:=Tryz.func203.trans (congrArg some (by kernel_rfl))
 f329:=Tryz.func204.trans (congrArg some (by kernel_rfl))
 f330:=Tryz.func205.trans (congrArg some (by kernel_rfl))
 f331:=Tryz.func206.trans (congrArg some (by kernel_rfl))
 f332:=Tryz.func207.trans (congrArg some (by kernel_rfl))
 f343:=Tryz.func209.trans (congrArg some (by kernel_rfl))
 t0:=Tryz.underlying0
 a0:=Tryz.isAgg0
 z0:=Tryz.sizeOf0
 v0:=Tryz.zeroValue0
 t3:=Tryz.underlying3
 a3:=Tryz.isAgg3
 z3:=Tryz.sizeOf3
 v3:=Tryz.zeroValue3
 t4:=Tryz.underlying4
 a4:=Tryz.isAgg4
 z4:=Tryz.sizeOf4
 v4:=Tryz.zeroValue4
 t5:=Tryz.underlying5
 a5:=Tryz.isAgg5
 z5:=Tryz.sizeOf5
 v5:=Tryz.zeroValue5
 t9:=Tryz.underlying9
 a9:=Tryz.isAgg9
 z9:=Tryz.sizeOf9
 v9:=Tryz.zeroValue9
 t28:=Tryz.underlying37
 a28:=Tryz.isAgg37
 z28:=Tryz.sizeOf37
 v28:=Tryz.zeroValue37
 t46:=Tryz.underlying185
 a46:=Tryz.isAgg185
 z46:=Tryz.sizeOf185
 v46:=Tryz.zeroValue185
 t51:=Tryz.underlying215
 a51:=Tryz.isAgg215
 z51:=Tryz.sizeOf215
 v51:=Tryz.zeroValue215
 t53:=Tryz.underlying217
 a53:=Tryz.isAgg217
 z53:=Tryz.sizeOf217
 v53:=Tryz.zeroValue217
 t131:=Tryz.underlying218
 a131:=Tryz.isAgg218
 z131:=Tryz.sizeOf218
 v131:=Tryz.zeroValue218
 t182:=Tryz.underlying221
 a182:=Tryz.isAgg221
 z182:=Tryz.sizeOf221
 v182:=Tryz.zeroValue221
 t183:=Tryz.underlying222
 a183:=Tryz.isAgg222
 z183:=Tryz.sizeOf222
 v183:=Tryz.zeroValue222
 t218:=Tryz.underlying227
 a218:=Tryz.isAgg227
 z218:=Tryz.sizeOf227
 v218:=Tryz.zeroValue227
 t222:=Tryz.underlying231
 a222:=Tryz.isAgg231
 z222:=Tryz.sizeOf231
 v222:=Tryz.zeroValue231
 t228:=Tryz.underlying233
 a228:=Tryz.isAgg233
 z228:=Tryz.sizeOf233
 v228:=Tryz.zeroValue233
 t229:=Tryz.underlying112
 a229:=Tryz.isAgg112
 z229:=Tryz.sizeOf112
 v229:=Tryz.zeroValue112 }
end Go.Proofs
end
