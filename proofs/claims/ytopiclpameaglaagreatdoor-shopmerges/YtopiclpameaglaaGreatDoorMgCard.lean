/-
ShopMerges holds, as a tied card: what two books are together the program and the reference answer alike for all texts; the condition: the listed package-level variables hold what the program's text lays.
-/
import Derived.Test.YtopiclpameaglaaGreatDoorMgRow
import Derived.Test.YtopiclpameaglaaGreatDoorKnown
import Derived.Test.YtopiclpameaglaaGreatDoorMgTied2
import Derived.Test.YtopiclpameaglaaGreatDoorCards
import Derived.SevenTiedAt
set_option linter.unusedSimpArgs false
set_option linter.unusedVariables false
set_option maxRecDepth 1000000
namespace Go.Proofs.YtopiclpameaglaaGreatDoor
open Go Go.Ev Go.RowKit
theorem card_of (hk : ∀ {w : World}, w.heap[9]? = some (.cells ⟨asciiL⟩ 328 (0, 0)) → Calls Tryz.prog 6 #[] w fun e w' => e = .returned (.bool true) ∧ Below w.heap.size w w') : Rows.ShopMergesCardSaid :=
  Claim7.holds_tied_plain_at .later [] [.data, .data, .data, .data, .handle, .sentinel, .sentinel, .listed, .data, .pinned, .pinned] true (true, "c4c820e1ec4c2c73eb09bf9cadbd69a24f2b350a66c87473702504aad8d1599a") true
    (row_holds hk) (fun _ h => by cases h) (by kernel_rfl) (fun _ h => by cases h) row_tied rfl ⟨rfl, rfl⟩ (by kernel_rfl) rfl
    (fun f fn hf hfn => by
      obtain rfl : f = 4 := Option.some.inj (fact_func.symm.trans hf) |>.symm
      obtain rfl : fn = Tryz.f4 := (Option.some.inj (Tryz.func4.symm.trans hfn)).symm
      exact ⟨by kernel_rfl, fun j t ht => by
        rw [Tryz.params4] at ht
        have hm : t ∈ [9, 9] := by simpa using Array.mem_of_getElem? ht
        have hall : ([9, 9].all fun u => !Tryz.prog.wantsStandIn u) = true := by kernel_rfl
        exact (show Tryz.prog.wantsStandIn t = false by simpa using List.all_eq_true.1 hall t hm)⟩)
    fact_goes
theorem shopMerges_holds : Rows.ShopMergesCardSaid := card_of (fun h => known_c h)
end Go.Proofs.YtopiclpameaglaaGreatDoor
#print axioms Go.Proofs.YtopiclpameaglaaGreatDoor.shopMerges_holds
