/-
Each summary of this part holds of the run, by the kernel's reckoning: part 12. No condition.
-/
import Derived.Test.YtopiclpameaglaaGreatDoorSums
import Derived.KernelRfl
set_option linter.unusedSimpArgs false
set_option linter.unusedVariables false
set_option maxRecDepth 1000000
namespace Go.Proofs.YtopiclpameaglaaGreatDoor
open Go Go.Ev
theorem c4748 : e4748.check Tryz.prog xk0 orc0 dz T4748 100000 = true := by kernel_rfl
theorem c4959 : e4959.check Tryz.prog xk0 orc0 dz T4959 100000 = true := by kernel_rfl
theorem c5063 : e5063.check Tryz.prog xk0 orc0 dz T5063 100000 = true := by kernel_rfl
theorem cTop : eTop.check Tryz.prog xk0 orc0 dz Ttop 100000 = true := by kernel_rfl
end Go.Proofs.YtopiclpameaglaaGreatDoor
