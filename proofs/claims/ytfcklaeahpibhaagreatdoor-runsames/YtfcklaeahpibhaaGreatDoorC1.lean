/-
Each summary of this part holds of the run, by the kernel's reckoning: part 1. No condition.
-/
import Derived.Test.YtfcklaeahpibhaaGreatDoorSums
import Derived.KernelRfl
set_option linter.unusedSimpArgs false
set_option linter.unusedVariables false
set_option maxRecDepth 1000000
namespace Go.Proofs.YtfcklaeahpibhaaGreatDoor
open Go Go.Ev
theorem c427 : e427.check Tryz.prog xk0 orc0 dz T427 100000 = true := by kernel_rfl
theorem c535 : e535.check Tryz.prog xk0 orc0 dz T535 100000 = true := by kernel_rfl
theorem c654 : e654.check Tryz.prog xk0 orc0 dz T654 100000 = true := by kernel_rfl
theorem c761 : e761.check Tryz.prog xk0 orc0 dz T761 100000 = true := by kernel_rfl
theorem c823 : e823.check Tryz.prog xk0 orc0 dz T823 100000 = true := by kernel_rfl
theorem c950 : e950.check Tryz.prog xk0 orc0 dz T950 100000 = true := by kernel_rfl
theorem c980 : e980.check Tryz.prog xk0 orc0 dz T980 100000 = true := by kernel_rfl
end Go.Proofs.YtfcklaeahpibhaaGreatDoor
