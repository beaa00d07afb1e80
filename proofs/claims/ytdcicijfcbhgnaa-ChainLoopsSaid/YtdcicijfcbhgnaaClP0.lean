import Derived.Test.YtdcicijfcbhgnaaClC0
import Derived.KernelRfl
set_option linter.all false
section
namespace Go.XL
open Go.XM Go.Proofs
theorem cl_red (x : herbariumlaw9_Ask) : herbariumlaw9_ChainLoops 64 x = (if decide (((x.N.length : Nat) : Int) ≥ 0) then (herbariumlaw9_wakes 64).bind fun r => some r else some false) := by kernel_rfl
theorem cl_wakes : herbariumlaw9_wakes 64 = some true := by kernel_rfl
theorem chainLoops_pure (x : herbariumlaw9_Ask) : ∃ K, herbariumlaw9_ChainLoops K x = some true := by
  refine ⟨64, ?_⟩
  rw [cl_red, cl_wakes, if_pos]
  · rfl
  · simp
end Go.XL
end
