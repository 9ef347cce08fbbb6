/-
Closed facts of the program's types. No condition.
-/
import Derived.Test.YtopiclpameaglaaGreatDoorRows
import Derived.JoinedOf
import Derived.KernelRfl
set_option linter.unusedSimpArgs false
set_option linter.unusedVariables false
set_option maxRecDepth 1000000
namespace Go.Proofs.YtopiclpameaglaaGreatDoor
open Go
theorem range_all {p : Nat → Bool} {a n : Nat} (h : (List.range' a n).all p = true) : ∀ t, a ≤ t → t < a + n → p t = true := fun t h1 h2 =>
  List.all_eq_true.1 h t (List.mem_range'.2 ⟨t - a, by omega, by omega⟩)
theorem types_all {p : Nat → Bool} (h0 : (List.range' 0 150).all p = true) (h1 : (List.range' 150 150).all p = true) (h2 : (List.range' 300 150).all p = true) (h3 : (List.range' 450 150).all p = true) (h4 : (List.range' 600 150).all p = true) (h5 : (List.range' 750 150).all p = true) (h6 : (List.range' 900 150).all p = true) (h7 : (List.range' 1050 139).all p = true) : (List.range 1189).all p = true := by
  refine List.all_eq_true.2 fun t ht => ?_
  have h := List.mem_range.1 ht
  by_cases k0 : t < 150
  · exact range_all h0 t (by omega) (by omega)
  · skip
    by_cases k1 : t < 300
    · exact range_all h1 t (by omega) (by omega)
    · skip
      by_cases k2 : t < 450
      · exact range_all h2 t (by omega) (by omega)
      · skip
        by_cases k3 : t < 600
        · exact range_all h3 t (by omega) (by omega)
        · skip
          by_cases k4 : t < 750
          · exact range_all h4 t (by omega) (by omega)
          · skip
            by_cases k5 : t < 900
            · exact range_all h5 t (by omega) (by omega)
            · skip
              by_cases k6 : t < 1050
              · exact range_all h6 t (by omega) (by omega)
              · skip
                exact range_all h7 t (by omega) (by omega)
theorem lo0 : (List.range' 0 150).all (rowFine Tryz.prog) = true := by kernel_rfl
theorem lo1 : (List.range' 150 150).all (rowFine Tryz.prog) = true := by kernel_rfl
theorem lo2 : (List.range' 300 150).all (rowFine Tryz.prog) = true := by kernel_rfl
theorem lo3 : (List.range' 450 150).all (rowFine Tryz.prog) = true := by kernel_rfl
theorem lo4 : (List.range' 600 150).all (rowFine Tryz.prog) = true := by kernel_rfl
theorem lo5 : (List.range' 750 150).all (rowFine Tryz.prog) = true := by kernel_rfl
theorem lo6 : (List.range' 900 150).all (rowFine Tryz.prog) = true := by kernel_rfl
theorem lo7 : (List.range' 1050 139).all (rowFine Tryz.prog) = true := by kernel_rfl
theorem types_size : Tryz.prog.types.size = 1189 := by kernel_rfl
theorem lo_globals : Tryz.prog.globals.all (fun g => decide (g.type < Tryz.prog.types.size)) = true := by kernel_rfl
theorem lo_funcs0 : (Tryz.prog.funcs.toList.all fun f => f.params.all fun t => decide (t < 1189)) = true := by kernel_rfl
theorem lo_funcs : Tryz.prog.funcs.all (fun f => f.params.all fun t => decide (t < Tryz.prog.types.size)) = true := by
  rw [← Array.all_toList, types_size]
  exact lo_funcs0
theorem laidOut : laidOutB Tryz.prog = true := by
  unfold laidOutB
  rw [lo_globals, lo_funcs, Bool.and_true, Bool.and_true, types_size]
  exact types_all lo0 lo1 lo2 lo3 lo4 lo5 lo6 lo7
/-- A map type's elements are types of the table. -/
def mapFine (P : Program) (n : Nat) (t : TypeId) : Bool := match P.underlying t with | some (.map _ e) => decide (e < n) | _ => true
theorem mr0 : (List.range' 0 150).all (mapFine Tryz.prog 1189) = true := by kernel_rfl
theorem mr1 : (List.range' 150 150).all (mapFine Tryz.prog 1189) = true := by kernel_rfl
theorem mr2 : (List.range' 300 150).all (mapFine Tryz.prog 1189) = true := by kernel_rfl
theorem mr3 : (List.range' 450 150).all (mapFine Tryz.prog 1189) = true := by kernel_rfl
theorem mr4 : (List.range' 600 150).all (mapFine Tryz.prog 1189) = true := by kernel_rfl
theorem mr5 : (List.range' 750 150).all (mapFine Tryz.prog 1189) = true := by kernel_rfl
theorem mr6 : (List.range' 900 150).all (mapFine Tryz.prog 1189) = true := by kernel_rfl
theorem mr7 : (List.range' 1050 139).all (mapFine Tryz.prog 1189) = true := by kernel_rfl
theorem fact_mapsRowed : mapsRowed Tryz.prog = true := by
  unfold mapsRowed
  rw [types_size]
  exact types_all mr0 mr1 mr2 mr3 mr4 mr5 mr6 mr7
theorem stopsHeard0 : (Tryz.prog.funcs.toList.all fun fn => (Stop.rowOf fn).isNone || !fn.norace) = true := by kernel_rfl
theorem fact_stopsHeard : Tryz.prog.stopsHeard = true := by
  unfold Program.stopsHeard
  rw [← Array.all_toList]
  exact stopsHeard0
theorem laysLater0 : (Tryz.prog.funcs.toList.any fun fn => fn.body.isNone && (fn.name == "runtime.SetFinalizer" || fn.name == "runtime.AddCleanup" || fn.origin == "runtime.AddCleanup")) = false := by kernel_rfl
theorem laysLater_no : Tryz.prog.laysLater = false := by
  unfold Program.laysLater
  rw [← Array.any_toList]
  exact laysLater0
theorem fact_mayEnter : Tryz.prog.mayEnter = true := by
  unfold Program.mayEnter
  simp only [laysLater_no]
  exact (by kernel_rfl)
end Go.Proofs.YtopiclpameaglaaGreatDoor
