/-
Each summary of this part holds of the run, by the kernel's reckoning: part 6. No condition.
-/
import Derived.Test.YtfcklaeahpibhaaGreatDoorSums
import Derived.KernelRfl
set_option linter.unusedSimpArgs false
set_option linter.unusedVariables false
set_option maxRecDepth 1000000
namespace Go.Proofs.YtfcklaeahpibhaaGreatDoor
open Go Go.Ev
theorem c2878 : e2878.check Tryz.prog xk0 orc0 dz T2878 100000 = true := by kernel_rfl
theorem c3006 : e3006.check Tryz.prog xk0 orc0 dz T3006 100000 = true := by kernel_rfl
theorem c3121 : e3121.check Tryz.prog xk0 orc0 dz T3121 100000 = true := by kernel_rfl
theorem cTop : eTop.check Tryz.prog xk0 orc0 dz Ttop 100000 = true := by kernel_rfl
end Go.Proofs.YtfcklaeahpibhaaGreatDoor
