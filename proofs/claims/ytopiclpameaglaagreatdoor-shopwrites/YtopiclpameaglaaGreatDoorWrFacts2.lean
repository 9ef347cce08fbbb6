/-
What the row asks of the program. No condition.
-/
import Derived.Test.YtopiclpameaglaaGreatDoorRdFacts0
import Derived.Test.YtopiclpameaglaaGreatDoorWrFacts1
import Derived.Test.YtopiclpameaglaaGreatDoorRows
set_option linter.unusedSimpArgs false
set_option linter.unusedVariables false
set_option maxRecDepth 1000000
namespace Go.Proofs.YtopiclpameaglaaGreatDoor
open Go
theorem k0 : (Rows.shopWritesRow.wf (OpenSpec.ofChange Rows.shopWritesSpec)) = true := by kernel_rfl
theorem k1 : (laidOutB Tryz.prog) = true := laidOut
theorem k2 : (mapsRowed Tryz.prog) = true := fact_mapsRowed
theorem k3 : (Tryz.f5.params.all (Tryz.prog.readableRec ·)) = true := by kernel_rfl
theorem k4 : (namedTie Tryz.prog Rows.shopWritesRow.named Rows.shopWritesSpec.vars) = true := by kernel_rfl
theorem k5 : ((Rows.shopWritesRow.stops == [])) = true := by kernel_rfl
theorem k6 : ((Tryz.prog.stops == [])) = true := by kernel_rfl
theorem k7 : ((Rows.shopWritesRow.knobs == [])) = true := by kernel_rfl
theorem k8 : ((Tryz.prog.stopKnobs == [])) = true := by kernel_rfl
theorem k9 : ((Rows.shopWritesRow.inPlace == Tryz.prog.inPlace 5)) = true := by rw [fact_inPlace]; exact beq_self_eq_true _
theorem k10 : ((Rows.shopWritesRow.unfollowed == Tryz.prog.unfollowed 5)) = true := by rw [fact_unfollowed]; rfl
theorem k11 : ((Rows.shopWritesRow.recurses == Tryz.prog.recurses 5)) = true := by rw [fact_recurses]; rfl
theorem k12 : ((Rows.shopWritesRow.named == Tryz.prog.varsNamed 5)) = true := by rw [fact_named]; exact beq_self_eq_true _
theorem k13 : ((Rows.shopWritesRow.maps == (Tryz.f5.params.toList ++ Rows.shopWritesSpec.plain.varTypes Tryz.prog).any (Tryz.prog.mapsRec ·))) = true := by kernel_rfl
theorem k14 : ((Rows.shopWritesRow.ifaces == (Tryz.f5.params.toList ++ Rows.shopWritesSpec.plain.varTypes Tryz.prog).any (Tryz.prog.ifacesRec ·))) = true := by kernel_rfl
theorem k15 : ((Rows.shopWritesRow.mapsOut == Tryz.prog.mapsAmong Tryz.f5.resultTypes.toList)) = true := by kernel_rfl
theorem k16 : ((Rows.shopWritesRow.loops == (Tryz.f5.params.toList ++ Rows.shopWritesSpec.plain.varTypes Tryz.prog).any (Tryz.prog.loopsFrom ·))) = true := by kernel_rfl
theorem k17 : ((Rows.shopWritesRow.wideKeys == (Tryz.f5.params.toList ++ Rows.shopWritesSpec.plain.varTypes Tryz.prog ++ Tryz.f5.resultTypes.toList).any (Tryz.prog.wideKeysFrom ·))) = true := by kernel_rfl
theorem k18 : (Rows.shopWritesSpec.vars.all (Tryz.prog.varReadable ·)) = true := by kernel_rfl
theorem k19 : (Tryz.f5.resultTypes.all (fun t => Tryz.prog.readableRec t && decide (t < Tryz.prog.types.size))) = true := by kernel_rfl
theorem k20 : ((Rows.shopWritesRow.ifacesOut == Tryz.f5.resultTypes.toList.any (Tryz.prog.ifacesRec ·))) = true := by kernel_rfl
theorem k21 : ((Rows.shopWritesRow.loopsOut == Tryz.f5.resultTypes.toList.any (Tryz.prog.loopsFrom ·))) = true := by kernel_rfl
theorem k22 : ((Rows.shopWritesRow.plainKeys == Tryz.prog.plainKeys)) = true := by kernel_rfl
theorem k23 : (Rows.shopWritesRow.shortTexts.isNone) = true := by kernel_rfl
theorem k24 : (Tryz.prog.stopsHeard) = true := fact_stopsHeard
theorem k25 : (Tryz.prog.mayEnter) = true := fact_mayEnter
theorem k26 : ((Rows.shopWritesRow.lifted == Tryz.prog.liftsFinal)) = true := by kernel_rfl
theorem k27 : ((Tryz.prog.make == some Rows.shopWritesRow.make)) = true := by kernel_rfl
theorem k28 : ((Rows.shopWritesRow.kinds == (if Rows.shopWritesRow.domain.isEmpty then [] else Tryz.f5.params.toList.map fun t => match Tryz.prog.underlying t with | some (.int k) => some k | _ => none))) = true := by kernel_rfl
theorem k29 : ((Rows.shopWritesRow.pinned == Rows.shopWritesRow.pinnedBy)) = true := by kernel_rfl
theorem k30 : ((Rows.shopWritesRow.veiled == (Tryz.f5.params.toList ++ Rows.shopWritesSpec.plain.varTypes Tryz.prog ++ Tryz.f5.resultTypes.toList).any (Tryz.prog.veiledRec ·))) = true := by kernel_rfl
theorem k31 : (Rows.shopWritesRow.veiledFits Tryz.prog Tryz.f5.params.toList (Tryz.f5.params.toList ++ Rows.shopWritesSpec.plain.varTypes Tryz.prog ++ Tryz.f5.resultTypes.toList)) = true := by kernel_rfl
theorem facts : joinedFacts Tryz.prog 5 Tryz.f5 Rows.shopWritesSpec Rows.shopWritesRow = true := by
  unfold joinedFacts
  simp only [Bool.and_eq_true]
  exact ⟨⟨⟨⟨⟨⟨⟨⟨⟨⟨⟨⟨⟨⟨⟨⟨⟨⟨⟨⟨⟨⟨⟨⟨⟨⟨⟨⟨⟨⟨⟨k0, k1⟩, k2⟩, k3⟩, k4⟩, k5⟩, k6⟩, k7⟩, k8⟩, k9⟩, k10⟩, k11⟩, k12⟩, k13⟩, k14⟩, k15⟩, k16⟩, k17⟩, k18⟩, k19⟩, k20⟩, k21⟩, k22⟩, k23⟩, k24⟩, k25⟩, k26⟩, k27⟩, k28⟩, k29⟩, k30⟩, k31⟩
end Go.Proofs.YtopiclpameaglaaGreatDoor
