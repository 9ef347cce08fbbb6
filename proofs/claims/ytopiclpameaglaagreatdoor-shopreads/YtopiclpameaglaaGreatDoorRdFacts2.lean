/-
What the row asks of the program. No condition.
-/
import Derived.Test.YtopiclpameaglaaGreatDoorRdFacts0
import Derived.Test.YtopiclpameaglaaGreatDoorRdFacts1
import Derived.Test.YtopiclpameaglaaGreatDoorRows
set_option linter.unusedSimpArgs false
set_option linter.unusedVariables false
set_option maxRecDepth 1000000
namespace Go.Proofs.YtopiclpameaglaaGreatDoor
open Go
theorem k0 : (Rows.shopReadsRow.wf (OpenSpec.ofChange Rows.shopReadsSpec)) = true := by kernel_rfl
theorem k1 : (laidOutB Tryz.prog) = true := laidOut
theorem k2 : (mapsRowed Tryz.prog) = true := fact_mapsRowed
theorem k3 : (Tryz.f3.params.all (Tryz.prog.readableRec ·)) = true := by kernel_rfl
theorem k4 : (namedTie Tryz.prog Rows.shopReadsRow.named Rows.shopReadsSpec.vars) = true := by kernel_rfl
theorem k5 : ((Rows.shopReadsRow.stops == [])) = true := by kernel_rfl
theorem k6 : ((Tryz.prog.stops == [])) = true := by kernel_rfl
theorem k7 : ((Rows.shopReadsRow.knobs == [])) = true := by kernel_rfl
theorem k8 : ((Tryz.prog.stopKnobs == [])) = true := by kernel_rfl
theorem k9 : ((Rows.shopReadsRow.inPlace == Tryz.prog.inPlace 3)) = true := by rw [fact_inPlace]; exact beq_self_eq_true _
theorem k10 : ((Rows.shopReadsRow.unfollowed == Tryz.prog.unfollowed 3)) = true := by rw [fact_unfollowed]; rfl
theorem k11 : ((Rows.shopReadsRow.recurses == Tryz.prog.recurses 3)) = true := by rw [fact_recurses]; rfl
theorem k12 : ((Rows.shopReadsRow.named == Tryz.prog.varsNamed 3)) = true := by rw [fact_named]; exact beq_self_eq_true _
theorem k13 : ((Rows.shopReadsRow.maps == (Tryz.f3.params.toList ++ Rows.shopReadsSpec.plain.varTypes Tryz.prog).any (Tryz.prog.mapsRec ·))) = true := by kernel_rfl
theorem k14 : ((Rows.shopReadsRow.ifaces == (Tryz.f3.params.toList ++ Rows.shopReadsSpec.plain.varTypes Tryz.prog).any (Tryz.prog.ifacesRec ·))) = true := by kernel_rfl
theorem k15 : ((Rows.shopReadsRow.mapsOut == Tryz.prog.mapsAmong Tryz.f3.resultTypes.toList)) = true := by kernel_rfl
theorem k16 : ((Rows.shopReadsRow.loops == (Tryz.f3.params.toList ++ Rows.shopReadsSpec.plain.varTypes Tryz.prog).any (Tryz.prog.loopsFrom ·))) = true := by kernel_rfl
theorem k17 : ((Rows.shopReadsRow.wideKeys == (Tryz.f3.params.toList ++ Rows.shopReadsSpec.plain.varTypes Tryz.prog ++ Tryz.f3.resultTypes.toList).any (Tryz.prog.wideKeysFrom ·))) = true := by kernel_rfl
theorem k18 : (Rows.shopReadsSpec.vars.all (Tryz.prog.varReadable ·)) = true := by kernel_rfl
theorem k19 : (Tryz.f3.resultTypes.all (fun t => Tryz.prog.readableRec t && decide (t < Tryz.prog.types.size))) = true := by kernel_rfl
theorem k20 : ((Rows.shopReadsRow.ifacesOut == Tryz.f3.resultTypes.toList.any (Tryz.prog.ifacesRec ·))) = true := by kernel_rfl
theorem k21 : ((Rows.shopReadsRow.loopsOut == Tryz.f3.resultTypes.toList.any (Tryz.prog.loopsFrom ·))) = true := by kernel_rfl
theorem k22 : ((Rows.shopReadsRow.plainKeys == Tryz.prog.plainKeys)) = true := by kernel_rfl
theorem k23 : (Rows.shopReadsRow.shortTexts.isNone) = true := by kernel_rfl
theorem k24 : (Tryz.prog.stopsHeard) = true := fact_stopsHeard
theorem k25 : (Tryz.prog.mayEnter) = true := fact_mayEnter
theorem k26 : ((Rows.shopReadsRow.lifted == Tryz.prog.liftsFinal)) = true := by kernel_rfl
theorem k27 : ((Tryz.prog.make == some Rows.shopReadsRow.make)) = true := by kernel_rfl
theorem k28 : ((Rows.shopReadsRow.kinds == (if Rows.shopReadsRow.domain.isEmpty then [] else Tryz.f3.params.toList.map fun t => match Tryz.prog.underlying t with | some (.int k) => some k | _ => none))) = true := by kernel_rfl
theorem k29 : ((Rows.shopReadsRow.pinned == Rows.shopReadsRow.pinnedBy)) = true := by kernel_rfl
theorem k30 : ((Rows.shopReadsRow.veiled == (Tryz.f3.params.toList ++ Rows.shopReadsSpec.plain.varTypes Tryz.prog ++ Tryz.f3.resultTypes.toList).any (Tryz.prog.veiledRec ·))) = true := by kernel_rfl
theorem k31 : (Rows.shopReadsRow.veiledFits Tryz.prog Tryz.f3.params.toList (Tryz.f3.params.toList ++ Rows.shopReadsSpec.plain.varTypes Tryz.prog ++ Tryz.f3.resultTypes.toList)) = true := by kernel_rfl
theorem facts : joinedFacts Tryz.prog 3 Tryz.f3 Rows.shopReadsSpec Rows.shopReadsRow = true := by
  unfold joinedFacts
  simp only [Bool.and_eq_true]
  exact ⟨⟨⟨⟨⟨⟨⟨⟨⟨⟨⟨⟨⟨⟨⟨⟨⟨⟨⟨⟨⟨⟨⟨⟨⟨⟨⟨⟨⟨⟨⟨k0, k1⟩, k2⟩, k3⟩, k4⟩, k5⟩, k6⟩, k7⟩, k8⟩, k9⟩, k10⟩, k11⟩, k12⟩, k13⟩, k14⟩, k15⟩, k16⟩, k17⟩, k18⟩, k19⟩, k20⟩, k21⟩, k22⟩, k23⟩, k24⟩, k25⟩, k26⟩, k27⟩, k28⟩, k29⟩, k30⟩, k31⟩
end Go.Proofs.YtopiclpameaglaaGreatDoor
