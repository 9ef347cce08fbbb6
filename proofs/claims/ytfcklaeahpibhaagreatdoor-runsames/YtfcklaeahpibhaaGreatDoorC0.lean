/-
Each summary of this part holds of the run, by the kernel's reckoning: part 0. No condition.
-/
import Derived.Test.YtfcklaeahpibhaaGreatDoorSums
import Derived.KernelRfl
set_option linter.unusedSimpArgs false
set_option linter.unusedVariables false
set_option maxRecDepth 1000000
namespace Go.Proofs.YtfcklaeahpibhaaGreatDoor
open Go Go.Ev
theorem c0 : e0.check Tryz.prog xk0 orc0 dz T0 100000 = true := by kernel_rfl
theorem c81 : e81.check Tryz.prog xk0 orc0 dz T81 100000 = true := by kernel_rfl
theorem c179 : e179.check Tryz.prog xk0 orc0 dz T179 100000 = true := by kernel_rfl
theorem c269 : e269.check Tryz.prog xk0 orc0 dz T269 100000 = true := by kernel_rfl
end Go.Proofs.YtfcklaeahpibhaaGreatDoor
