/-
Each summary of this part holds of the run, by the kernel's reckoning: part 10. No condition.
-/
import Derived.Test.YtopiclpameaglaaGreatDoorSums
import Derived.KernelRfl
set_option linter.unusedSimpArgs false
set_option linter.unusedVariables false
set_option maxRecDepth 1000000
namespace Go.Proofs.YtopiclpameaglaaGreatDoor
open Go Go.Ev
theorem c3733 : e3733.check Tryz.prog xk0 orc0 dz T3733 100000 = true := by kernel_rfl
theorem c3912 : e3912.check Tryz.prog xk0 orc0 dz T3912 100000 = true := by kernel_rfl
end Go.Proofs.YtopiclpameaglaaGreatDoor
