import Derived.Test.YthpoclbejpoklaaSbC2
set_option linter.all false
namespace Go.XM
open Go.Proofs
set_option maxRecDepth 1000000
theorem slowBad_plain (x : herbariumlaw11_Ask) : herbariumlaw11_SlowBad 60 x = some true := by kernel_rfl
end Go.XM
