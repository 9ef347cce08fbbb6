/-
Each summary of this part holds of the run, by the kernel's reckoning: part 11. No condition.
-/
import Derived.Test.YtopiclpameaglaaGreatDoorSums
import Derived.KernelRfl
set_option linter.unusedSimpArgs false
set_option linter.unusedVariables false
set_option maxRecDepth 1000000
namespace Go.Proofs.YtopiclpameaglaaGreatDoor
open Go Go.Ev
theorem c4148 : e4148.check Tryz.prog xk0 orc0 dz T4148 100000 = true := by kernel_rfl
theorem c4456 : e4456.check Tryz.prog xk0 orc0 dz T4456 100000 = true := by kernel_rfl
theorem c4576 : e4576.check Tryz.prog xk0 orc0 dz T4576 100000 = true := by kernel_rfl
theorem c4587 : e4587.check Tryz.prog xk0 orc0 dz T4587 100000 = true := by kernel_rfl
theorem c4684 : e4684.check Tryz.prog xk0 orc0 dz T4684 100000 = true := by kernel_rfl
end Go.Proofs.YtopiclpameaglaaGreatDoor
