/-
Each summary of this part holds of the run, by the kernel's reckoning: part 5. No condition.
-/
import Derived.Test.YtfcklaeahpibhaaGreatDoorSums
import Derived.KernelRfl
set_option linter.unusedSimpArgs false
set_option linter.unusedVariables false
set_option maxRecDepth 1000000
namespace Go.Proofs.YtfcklaeahpibhaaGreatDoor
open Go Go.Ev
theorem c2337 : e2337.check Tryz.prog xk0 orc0 dz T2337 100000 = true := by kernel_rfl
theorem c2373 : e2373.check Tryz.prog xk0 orc0 dz T2373 100000 = true := by kernel_rfl
theorem c2377 : e2377.check Tryz.prog xk0 orc0 dz T2377 100000 = true := by kernel_rfl
theorem c2462 : e2462.check Tryz.prog xk0 orc0 dz T2462 100000 = true := by kernel_rfl
theorem c2629 : e2629.check Tryz.prog xk0 orc0 dz T2629 100000 = true := by kernel_rfl
theorem c2665 : e2665.check Tryz.prog xk0 orc0 dz T2665 100000 = true := by kernel_rfl
end Go.Proofs.YtfcklaeahpibhaaGreatDoor
