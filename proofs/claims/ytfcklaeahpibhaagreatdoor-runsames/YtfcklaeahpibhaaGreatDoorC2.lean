/-
Each summary of this part holds of the run, by the kernel's reckoning: part 2. No condition.
-/
import Derived.Test.YtfcklaeahpibhaaGreatDoorSums
import Derived.KernelRfl
set_option linter.unusedSimpArgs false
set_option linter.unusedVariables false
set_option maxRecDepth 1000000
namespace Go.Proofs.YtfcklaeahpibhaaGreatDoor
open Go Go.Ev
theorem c1121 : e1121.check Tryz.prog xk0 orc0 dz T1121 100000 = true := by kernel_rfl
theorem c1173 : e1173.check Tryz.prog xk0 orc0 dz T1173 100000 = true := by kernel_rfl
theorem c1207 : e1207.check Tryz.prog xk0 orc0 dz T1207 100000 = true := by kernel_rfl
theorem c1216 : e1216.check Tryz.prog xk0 orc0 dz T1216 100000 = true := by kernel_rfl
end Go.Proofs.YtfcklaeahpibhaaGreatDoor
