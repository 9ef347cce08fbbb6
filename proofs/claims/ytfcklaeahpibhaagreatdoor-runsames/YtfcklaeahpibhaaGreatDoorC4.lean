/-
Each summary of this part holds of the run, by the kernel's reckoning: part 4. No condition.
-/
import Derived.Test.YtfcklaeahpibhaaGreatDoorSums
import Derived.KernelRfl
set_option linter.unusedSimpArgs false
set_option linter.unusedVariables false
set_option maxRecDepth 1000000
namespace Go.Proofs.YtfcklaeahpibhaaGreatDoor
open Go Go.Ev
theorem c1634 : e1634.check Tryz.prog xk0 orc0 dz T1634 100000 = true := by kernel_rfl
theorem c1942 : e1942.check Tryz.prog xk0 orc0 dz T1942 100000 = true := by kernel_rfl
theorem c2062 : e2062.check Tryz.prog xk0 orc0 dz T2062 100000 = true := by kernel_rfl
theorem c2068 : e2068.check Tryz.prog xk0 orc0 dz T2068 100000 = true := by kernel_rfl
theorem c2148 : e2148.check Tryz.prog xk0 orc0 dz T2148 100000 = true := by kernel_rfl
end Go.Proofs.YtfcklaeahpibhaaGreatDoor
