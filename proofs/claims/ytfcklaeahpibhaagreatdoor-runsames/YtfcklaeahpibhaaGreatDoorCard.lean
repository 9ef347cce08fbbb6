/-
RunSames holds, as a tied card: which outcomes are equal, and which are alike, the program and the reference answer alike for all of them; the condition: the listed package-level variables hold what their initialisers lay, which the card ties to the program's text.
-/
import Derived.Test.YtfcklaeahpibhaaGreatDoorRow
import Derived.Test.YtfcklaeahpibhaaGreatDoorKnown
import Derived.Test.YtfcklaeahpibhaaGreatDoorTied2
import Derived.Test.YtfcklaeahpibhaaGreatDoorCards
import Derived.SevenTiedAt
set_option linter.unusedSimpArgs false
set_option linter.unusedVariables false
set_option maxRecDepth 1000000
namespace Go.Proofs.YtfcklaeahpibhaaGreatDoor
open Go Go.Ev Go.RowKit
theorem card_of (hk : ∀ {w : World}, w.heap[1]? = some (.cells ⟨asciiL⟩ 60 (0, 0)) → Calls Tryz.prog 4 #[] w fun e w' => e = .returned (.bool true) ∧ Below w.heap.size w w') : Rows.RunSamesCardSaid :=
  Claim7.holds_tied_plain_at .later [] [.data, .data, .data, .data, .handle, .sentinel, .sentinel, .listed, .data, .pinned, .pinned] true (true, "0ecab7281c6674534a0f7837971abd27de7627a5315f6da757c47b02d07fc621") true
    (row_holds hk) (fun _ h => by cases h) (by kernel_rfl) (fun _ h => by cases h) row_tied rfl ⟨rfl, rfl⟩ (by kernel_rfl) rfl
    (fun f fn hf hfn => by
      obtain rfl : f = 3 := Option.some.inj (fact_func.symm.trans hf) |>.symm
      obtain rfl : fn = Tryz.f3 := (Option.some.inj (Tryz.func3.symm.trans hfn)).symm
      exact ⟨by kernel_rfl, fun j t ht => by
        rw [Tryz.params3] at ht
        have hm : t ∈ [24, 24] := by simpa using Array.mem_of_getElem? ht
        have hall : ([24, 24].all fun u => !Tryz.prog.wantsStandIn u) = true := by kernel_rfl
        exact (show Tryz.prog.wantsStandIn t = false by simpa using List.all_eq_true.1 hall t hm)⟩)
    fact_goes
end Go.Proofs.YtfcklaeahpibhaaGreatDoor
namespace Go.Proofs.YtfcklaeahpibhaaGreatDoor
open Go
theorem runSames_holds : Rows.RunSamesCardSaid := card_of (fun h => known_c h)
#print axioms runSames_holds
end Go.Proofs.YtfcklaeahpibhaaGreatDoor
