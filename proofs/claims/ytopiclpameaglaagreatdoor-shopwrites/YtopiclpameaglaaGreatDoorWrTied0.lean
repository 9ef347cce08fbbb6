/-
What the program says of its start-up code, in words and by numbers. No condition.
-/
import Derived.Test.YtopiclpameaglaaGreatDoorRows
import Derived.Test.YtopiclpameaglaaGreatDoorWrFacts1
import Derived.LaidByTextLater
import Derived.SevenTiedAt
import Derived.LaidSub
import Derived.LaidOnce
import Derived.KernelRfl
set_option linter.unusedSimpArgs false
set_option linter.unusedVariables false
set_option maxRecDepth 1000000
namespace Go.Proofs.YtopiclpameaglaaGreatDoor
open Go Go.Ev
abbrev tieL : List (String × DataW Unit) := [("math/bits.deBruijn32tab", Rows.laid_math_bits_deBruijn32tab), ("math/bits.deBruijn64tab", Rows.laid_math_bits_deBruijn64tab), ("internal/strconv.uint64pow10", Rows.laid_internal_strconv_uint64pow10), ("unicode/utf8.acceptRanges", Rows.laid_unicode_utf8_acceptRanges), ("errors.errorType", Rows.laid_errors_errorType), ("strconv.ErrRange", Rows.laid_strconv_ErrRange), ("strconv.ErrSyntax", Rows.laid_strconv_ErrSyntax), ("unicode.White_Space", Rows.laid_unicode_White_Space), ("strings.asciiSpace", Rows.laid_strings_asciiSpace)]
abbrev tieK : List LaidKind := [.data, .data, .data, .data, .handle, .sentinel, .sentinel, .listed, .data]
theorem worded_list {P : Program} {w : String} {b : Bool} (h : (P.funcs.toList.any fun fn => fn.body.isNone && fn.name == w) = b) : P.worded w = b := by
  unfold Program.worded
  rw [← Array.any_toList]
  exact h
theorem word_yes : (Tryz.prog.funcs.toList.any fun fn => fn.body.isNone && fn.name == varsWordLater true) = true := by kernel_rfl
theorem word_no : (Tryz.prog.funcs.toList.any fun fn => fn.body.isNone && fn.name == varsWordLater !true) = false := by kernel_rfl
theorem word_root : (Tryz.prog.funcs.toList.any fun fn => fn.body.isNone && fn.name == rootWordLater) = true := by kernel_rfl
theorem tie_kinds : tieL.map (fun x => Tryz.prog.kindOfLater x.1) = tieK.map some := by kernel_rfl
theorem isVarsAt_0 : ((Tryz.prog.funcs.toList.drop 0).take 100).map (fun fn => fn.name == "gosem.cut.vars") = List.replicate 100 false := by kernel_rfl
theorem isVarsAt_100 : ((Tryz.prog.funcs.toList.drop 100).take 100).map (fun fn => fn.name == "gosem.cut.vars") = List.replicate 100 false := by kernel_rfl
theorem isVarsAt_200 : ((Tryz.prog.funcs.toList.drop 200).take 100).map (fun fn => fn.name == "gosem.cut.vars") = List.replicate 100 false := by kernel_rfl
theorem isVarsAt_300 : ((Tryz.prog.funcs.toList.drop 300).take 100).map (fun fn => fn.name == "gosem.cut.vars") = List.replicate 100 false := by kernel_rfl
theorem isVarsAt_400 : ((Tryz.prog.funcs.toList.drop 400).take 100).map (fun fn => fn.name == "gosem.cut.vars") = List.replicate 100 false := by kernel_rfl
theorem isVarsAt_500 : ((Tryz.prog.funcs.toList.drop 500).take 100).map (fun fn => fn.name == "gosem.cut.vars") = List.replicate 100 false := by kernel_rfl
theorem isVarsAt_600 : ((Tryz.prog.funcs.toList.drop 600).take 100).map (fun fn => fn.name == "gosem.cut.vars") = List.replicate 100 false := by kernel_rfl
theorem isVarsAt_700 : ((Tryz.prog.funcs.toList.drop 700).take 100).map (fun fn => fn.name == "gosem.cut.vars") = List.replicate 100 false := by kernel_rfl
theorem isVarsAt_800 : ((Tryz.prog.funcs.toList.drop 800).take 100).map (fun fn => fn.name == "gosem.cut.vars") = List.replicate 100 false := by kernel_rfl
theorem isVarsAt_900 : ((Tryz.prog.funcs.toList.drop 900).take 100).map (fun fn => fn.name == "gosem.cut.vars") = List.replicate 100 false := by kernel_rfl
theorem isVarsAt_1000 : ((Tryz.prog.funcs.toList.drop 1000).take 100).map (fun fn => fn.name == "gosem.cut.vars") = List.replicate 100 false := by kernel_rfl
theorem isVarsAt_1100 : ((Tryz.prog.funcs.toList.drop 1100).take 100).map (fun fn => fn.name == "gosem.cut.vars") = List.replicate 100 false := by kernel_rfl
theorem isVarsAt_1200 : ((Tryz.prog.funcs.toList.drop 1200).take 33).map (fun fn => fn.name == "gosem.cut.vars") = List.replicate 32 false ++ true :: List.replicate 0 false := by kernel_rfl
theorem isVars_eq : Tryz.prog.funcs.toList.map (fun fn => fn.name == "gosem.cut.vars") = List.replicate 1232 false ++ true :: List.replicate 0 false := by
  have h0 : Tryz.prog.funcs.toList.map (fun fn => fn.name == "gosem.cut.vars") = (Tryz.prog.funcs.toList.drop 0).map (fun fn => fn.name == "gosem.cut.vars") := rfl
  rw [h0]
  rw [map_part _ _ 0 100, isVarsAt_0]
  rw [map_part _ _ 100 100, isVarsAt_100]
  rw [map_part _ _ 200 100, isVarsAt_200]
  rw [map_part _ _ 300 100, isVarsAt_300]
  rw [map_part _ _ 400 100, isVarsAt_400]
  rw [map_part _ _ 500 100, isVarsAt_500]
  rw [map_part _ _ 600 100, isVarsAt_600]
  rw [map_part _ _ 700 100, isVarsAt_700]
  rw [map_part _ _ 800 100, isVarsAt_800]
  rw [map_part _ _ 900 100, isVarsAt_900]
  rw [map_part _ _ 1000 100, isVarsAt_1000]
  rw [map_part _ _ 1100 100, isVarsAt_1100]
  rw [map_part _ _ 1200 33, isVarsAt_1200]
  rw [List.drop_eq_nil_of_le (show Tryz.prog.funcs.toList.length ≤ 1200 + 33 by rw [funcs_size]; exact Nat.le_refl _)]
  rfl
noncomputable def isVarsT : Tr Unit := trSome ((List.replicate 1232 false ++ true :: List.replicate 0 false).map fun b => bif b then some () else none) 0 .lf
theorem isVars_run : ((List.range 1233).filter fun i => (isVarsT.get i).isSome) = [1232] := by kernel_rfl
theorem isVars_named : Tryz.prog.funcNamed "gosem.cut.vars" = some 1232 := funcNamed_of isVarsT size_eq (named_at isVars_eq) isVars_run
theorem isElemAt_0 : ((Tryz.prog.funcs.toList.drop 0).take 100).map (fun fn => fn.name == "(internal/reflectlite.rtype).Elem") = List.replicate 100 false := by kernel_rfl
theorem isElemAt_100 : ((Tryz.prog.funcs.toList.drop 100).take 100).map (fun fn => fn.name == "(internal/reflectlite.rtype).Elem") = List.replicate 100 false := by kernel_rfl
theorem isElemAt_200 : ((Tryz.prog.funcs.toList.drop 200).take 100).map (fun fn => fn.name == "(internal/reflectlite.rtype).Elem") = List.replicate 100 false := by kernel_rfl
theorem isElemAt_300 : ((Tryz.prog.funcs.toList.drop 300).take 100).map (fun fn => fn.name == "(internal/reflectlite.rtype).Elem") = List.replicate 100 false := by kernel_rfl
theorem isElemAt_400 : ((Tryz.prog.funcs.toList.drop 400).take 100).map (fun fn => fn.name == "(internal/reflectlite.rtype).Elem") = List.replicate 100 false := by kernel_rfl
theorem isElemAt_500 : ((Tryz.prog.funcs.toList.drop 500).take 100).map (fun fn => fn.name == "(internal/reflectlite.rtype).Elem") = List.replicate 100 false := by kernel_rfl
theorem isElemAt_600 : ((Tryz.prog.funcs.toList.drop 600).take 100).map (fun fn => fn.name == "(internal/reflectlite.rtype).Elem") = List.replicate 100 false := by kernel_rfl
theorem isElemAt_700 : ((Tryz.prog.funcs.toList.drop 700).take 100).map (fun fn => fn.name == "(internal/reflectlite.rtype).Elem") = List.replicate 100 false := by kernel_rfl
theorem isElemAt_800 : ((Tryz.prog.funcs.toList.drop 800).take 100).map (fun fn => fn.name == "(internal/reflectlite.rtype).Elem") = List.replicate 100 false := by kernel_rfl
theorem isElemAt_900 : ((Tryz.prog.funcs.toList.drop 900).take 100).map (fun fn => fn.name == "(internal/reflectlite.rtype).Elem") = List.replicate 100 false := by kernel_rfl
theorem isElemAt_1000 : ((Tryz.prog.funcs.toList.drop 1000).take 100).map (fun fn => fn.name == "(internal/reflectlite.rtype).Elem") = List.replicate 100 false := by kernel_rfl
theorem isElemAt_1100 : ((Tryz.prog.funcs.toList.drop 1100).take 100).map (fun fn => fn.name == "(internal/reflectlite.rtype).Elem") = List.replicate 100 false := by kernel_rfl
theorem isElemAt_1200 : ((Tryz.prog.funcs.toList.drop 1200).take 33).map (fun fn => fn.name == "(internal/reflectlite.rtype).Elem") = List.replicate 6 false ++ true :: List.replicate 26 false := by kernel_rfl
theorem isElem_eq : Tryz.prog.funcs.toList.map (fun fn => fn.name == "(internal/reflectlite.rtype).Elem") = List.replicate 1206 false ++ true :: List.replicate 26 false := by
  have h0 : Tryz.prog.funcs.toList.map (fun fn => fn.name == "(internal/reflectlite.rtype).Elem") = (Tryz.prog.funcs.toList.drop 0).map (fun fn => fn.name == "(internal/reflectlite.rtype).Elem") := rfl
  rw [h0]
  rw [map_part _ _ 0 100, isElemAt_0]
  rw [map_part _ _ 100 100, isElemAt_100]
  rw [map_part _ _ 200 100, isElemAt_200]
  rw [map_part _ _ 300 100, isElemAt_300]
  rw [map_part _ _ 400 100, isElemAt_400]
  rw [map_part _ _ 500 100, isElemAt_500]
  rw [map_part _ _ 600 100, isElemAt_600]
  rw [map_part _ _ 700 100, isElemAt_700]
  rw [map_part _ _ 800 100, isElemAt_800]
  rw [map_part _ _ 900 100, isElemAt_900]
  rw [map_part _ _ 1000 100, isElemAt_1000]
  rw [map_part _ _ 1100 100, isElemAt_1100]
  rw [map_part _ _ 1200 33, isElemAt_1200]
  rw [List.drop_eq_nil_of_le (show Tryz.prog.funcs.toList.length ≤ 1200 + 33 by rw [funcs_size]; exact Nat.le_refl _)]
  rfl
noncomputable def isElemT : Tr Unit := trSome ((List.replicate 1206 false ++ true :: List.replicate 26 false).map fun b => bif b then some () else none) 0 .lf
theorem isElem_run : ((List.range 1233).filter fun i => (isElemT.get i).isSome) = [1206] := by kernel_rfl
theorem isElem_named : Tryz.prog.funcNamed "(internal/reflectlite.rtype).Elem" = some 1206 := funcNamed_of isElemT size_eq (named_at isElem_eq) isElem_run
theorem varsId_eq : varsId Tryz.prog = 1232 := by unfold varsId; rw [isVars_named]; rfl
theorem pin_laid_unicode_CaseRanges_light : Tryz.pinned.checked.prog.pinnedFits "unicode.CaseRanges" = true := by
  unfold Program.pinnedFits
  rw [show Tryz.pinned.checked.prog.funcNamed "gosem.cut.vars" = some 1232 from isVars_named]
  kernel_rfl
theorem pin_laid_unicode_utf8_first_light : Tryz.pinned.checked.prog.pinnedFits "unicode/utf8.first" = true := by
  unfold Program.pinnedFits
  rw [show Tryz.pinned.checked.prog.funcNamed "gosem.cut.vars" = some 1232 from isVars_named]
  kernel_rfl
theorem tie_unsafe : Tryz.pinned.checked.prog.headLifts.contains "ownunsafe" = false := by kernel_rfl
end Go.Proofs.YtopiclpameaglaaGreatDoor
