/-
Each summary of this part holds of the run, by the kernel's reckoning: part 8. No condition.
-/
import Derived.Test.YtopiclpameaglaaGreatDoorSums
import Derived.KernelRfl
set_option linter.unusedSimpArgs false
set_option linter.unusedVariables false
set_option maxRecDepth 1000000
namespace Go.Proofs.YtopiclpameaglaaGreatDoor
open Go Go.Ev
theorem c2767 : e2767.check Tryz.prog xk0 orc0 dz T2767 100000 = true := by kernel_rfl
theorem c3075 : e3075.check Tryz.prog xk0 orc0 dz T3075 100000 = true := by kernel_rfl
theorem c3195 : e3195.check Tryz.prog xk0 orc0 dz T3195 100000 = true := by kernel_rfl
theorem c3427 : e3427.check Tryz.prog xk0 orc0 dz T3427 100000 = true := by kernel_rfl
theorem c3467 : e3467.check Tryz.prog xk0 orc0 dz T3467 100000 = true := by kernel_rfl
end Go.Proofs.YtopiclpameaglaaGreatDoor
