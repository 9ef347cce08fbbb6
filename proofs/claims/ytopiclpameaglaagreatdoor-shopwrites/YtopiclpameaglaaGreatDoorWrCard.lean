/-
ShopWrites holds, as a tied card: the book of orders, that it is read as the orders, and the sums, the program and the reference answer alike for all lists of texts and all numbers; the condition: the listed package-level variables hold what the program's text lays.
-/
import Derived.Test.YtopiclpameaglaaGreatDoorWrRow
import Derived.Test.YtopiclpameaglaaGreatDoorKnown
import Derived.Test.YtopiclpameaglaaGreatDoorWrTied2
import Derived.Test.YtopiclpameaglaaGreatDoorCards
import Derived.SevenTiedAt
set_option linter.unusedSimpArgs false
set_option linter.unusedVariables false
set_option maxRecDepth 1000000
namespace Go.Proofs.YtopiclpameaglaaGreatDoor
open Go Go.Ev Go.RowKit
theorem card_of (hk : ∀ {w : World}, w.heap[9]? = some (.cells ⟨asciiL⟩ 328 (0, 0)) → Calls Tryz.prog 6 #[] w fun e w' => e = .returned (.bool true) ∧ Below w.heap.size w w') : Rows.ShopWritesCardSaid :=
  Claim7.holds_tied_plain_at .later [] [.data, .data, .data, .data, .handle, .sentinel, .sentinel, .listed, .data, .pinned, .pinned] true (true, "c4c820e1ec4c2c73eb09bf9cadbd69a24f2b350a66c87473702504aad8d1599a") true
    (row_holds hk) (fun _ h => by cases h) (by kernel_rfl) (fun _ h => by cases h) row_tied rfl ⟨rfl, rfl⟩ (by kernel_rfl) rfl
    (fun f fn hf hfn => by
      obtain rfl : f = 5 := Option.some.inj (fact_func.symm.trans hf) |>.symm
      obtain rfl : fn = Tryz.f5 := (Option.some.inj (Tryz.func5.symm.trans hfn)).symm
      exact ⟨by kernel_rfl, fun j t ht => by
        rw [Tryz.params5] at ht
        have hm : t ∈ [23, 3] := by simpa using Array.mem_of_getElem? ht
        have hall : ([23, 3].all fun u => !Tryz.prog.wantsStandIn u) = true := by kernel_rfl
        exact (show Tryz.prog.wantsStandIn t = false by simpa using List.all_eq_true.1 hall t hm)⟩)
    fact_goes
theorem shopWrites_holds : Rows.ShopWritesCardSaid := card_of (fun h => known_c h)
end Go.Proofs.YtopiclpameaglaaGreatDoor
#print axioms Go.Proofs.YtopiclpameaglaaGreatDoor.shopWrites_holds
