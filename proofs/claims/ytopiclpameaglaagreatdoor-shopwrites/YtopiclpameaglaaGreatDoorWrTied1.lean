/-
What the start-up code stores, and where. No condition.
-/
import Derived.Test.YtopiclpameaglaaGreatDoorRows
import Derived.Test.YtopiclpameaglaaGreatDoorWrFacts1
import Derived.LaidByTextLater
import Derived.SevenTiedAt
import Derived.LaidSub
import Derived.LaidOnce
import Derived.KernelRfl
import Derived.Test.YtopiclpameaglaaGreatDoorWrTied0
set_option linter.unusedSimpArgs false
set_option linter.unusedVariables false
set_option maxRecDepth 1000000
namespace Go.Proofs.YtopiclpameaglaaGreatDoor
open Go Go.Ev
theorem tie_vars : varsNamedLaterB Tryz.prog 1232 tieL = true := by
  unfold varsNamedLaterB Program.callsLaidAlone
  simp only [isElem_named]
  kernel_rfl
end Go.Proofs.YtopiclpameaglaaGreatDoor
