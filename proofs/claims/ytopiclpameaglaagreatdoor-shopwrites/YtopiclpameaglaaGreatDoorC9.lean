/-
Each summary of this part holds of the run, by the kernel's reckoning: part 9. No condition.
-/
import Derived.Test.YtopiclpameaglaaGreatDoorSums
import Derived.KernelRfl
set_option linter.unusedSimpArgs false
set_option linter.unusedVariables false
set_option maxRecDepth 1000000
namespace Go.Proofs.YtopiclpameaglaaGreatDoor
open Go Go.Ev
theorem c3544 : e3544.check Tryz.prog xk0 orc0 dz T3544 100000 = true := by kernel_rfl
theorem c3592 : e3592.check Tryz.prog xk0 orc0 dz T3592 100000 = true := by kernel_rfl
theorem c3730 : e3730.check Tryz.prog xk0 orc0 dz T3730 100000 = true := by kernel_rfl
end Go.Proofs.YtopiclpameaglaaGreatDoor
