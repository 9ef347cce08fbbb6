/-
Each summary of this part holds of the run, by the kernel's reckoning: part 3. No condition.
-/
import Derived.Test.YtfcklaeahpibhaaGreatDoorSums
import Derived.KernelRfl
set_option linter.unusedSimpArgs false
set_option linter.unusedVariables false
set_option maxRecDepth 1000000
namespace Go.Proofs.YtfcklaeahpibhaaGreatDoor
open Go Go.Ev
theorem c1219 : e1219.check Tryz.prog xk0 orc0 dz T1219 100000 = true := by kernel_rfl
theorem c1398 : e1398.check Tryz.prog xk0 orc0 dz T1398 100000 = true := by kernel_rfl
end Go.Proofs.YtfcklaeahpibhaaGreatDoor
