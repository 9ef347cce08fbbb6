/-
Each summary of this part holds of the run, by the kernel's reckoning: part 7. No condition.
-/
import Derived.Test.YtopiclpameaglaaGreatDoorSums
import Derived.KernelRfl
set_option linter.unusedSimpArgs false
set_option linter.unusedVariables false
set_option maxRecDepth 1000000
namespace Go.Proofs.YtopiclpameaglaaGreatDoor
open Go Go.Ev
theorem c2352 : e2352.check Tryz.prog xk0 orc0 dz T2352 100000 = true := by kernel_rfl
theorem c2531 : e2531.check Tryz.prog xk0 orc0 dz T2531 100000 = true := by kernel_rfl
end Go.Proofs.YtopiclpameaglaaGreatDoor
