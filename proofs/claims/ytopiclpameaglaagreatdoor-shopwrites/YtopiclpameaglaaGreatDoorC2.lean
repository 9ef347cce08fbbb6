/-
Each summary of this part holds of the run, by the kernel's reckoning: part 2. No condition.
-/
import Derived.Test.YtopiclpameaglaaGreatDoorSums
import Derived.KernelRfl
set_option linter.unusedSimpArgs false
set_option linter.unusedVariables false
set_option maxRecDepth 1000000
namespace Go.Proofs.YtopiclpameaglaaGreatDoor
open Go Go.Ev
theorem c592 : e592.check Tryz.prog xk0 orc0 dz T592 100000 = true := by kernel_rfl
theorem c900 : e900.check Tryz.prog xk0 orc0 dz T900 100000 = true := by kernel_rfl
theorem c1020 : e1020.check Tryz.prog xk0 orc0 dz T1020 100000 = true := by kernel_rfl
theorem c1176 : e1176.check Tryz.prog xk0 orc0 dz T1176 100000 = true := by kernel_rfl
end Go.Proofs.YtopiclpameaglaaGreatDoor
