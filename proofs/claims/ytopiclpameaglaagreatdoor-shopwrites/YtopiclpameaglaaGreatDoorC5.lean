/-
Each summary of this part holds of the run, by the kernel's reckoning: part 5. No condition.
-/
import Derived.Test.YtopiclpameaglaaGreatDoorSums
import Derived.KernelRfl
set_option linter.unusedSimpArgs false
set_option linter.unusedVariables false
set_option maxRecDepth 1000000
namespace Go.Proofs.YtopiclpameaglaaGreatDoor
open Go Go.Ev
theorem c1712 : e1712.check Tryz.prog xk0 orc0 dz T1712 100000 = true := by kernel_rfl
theorem c2020 : e2020.check Tryz.prog xk0 orc0 dz T2020 100000 = true := by kernel_rfl
theorem c2140 : e2140.check Tryz.prog xk0 orc0 dz T2140 100000 = true := by kernel_rfl
theorem c2277 : e2277.check Tryz.prog xk0 orc0 dz T2277 100000 = true := by kernel_rfl
end Go.Proofs.YtopiclpameaglaaGreatDoor
