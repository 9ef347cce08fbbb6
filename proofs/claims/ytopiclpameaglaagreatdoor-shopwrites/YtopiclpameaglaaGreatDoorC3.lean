/-
Each summary of this part holds of the run, by the kernel's reckoning: part 3. No condition.
-/
import Derived.Test.YtopiclpameaglaaGreatDoorSums
import Derived.KernelRfl
set_option linter.unusedSimpArgs false
set_option linter.unusedVariables false
set_option maxRecDepth 1000000
namespace Go.Proofs.YtopiclpameaglaaGreatDoor
open Go Go.Ev
theorem c1223 : e1223.check Tryz.prog xk0 orc0 dz T1223 100000 = true := by kernel_rfl
theorem c1294 : e1294.check Tryz.prog xk0 orc0 dz T1294 100000 = true := by kernel_rfl
end Go.Proofs.YtopiclpameaglaaGreatDoor
