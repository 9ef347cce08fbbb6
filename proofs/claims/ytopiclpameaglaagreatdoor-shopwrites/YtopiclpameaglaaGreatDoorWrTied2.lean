/-
What the start-up code leaves, and the tie of the row. No condition.
-/
import Derived.Test.YtopiclpameaglaaGreatDoorRows
import Derived.Test.YtopiclpameaglaaGreatDoorWrFacts1
import Derived.LaidByTextLater
import Derived.SevenTiedAt
import Derived.LaidSub
import Derived.LaidOnce
import Derived.KernelRfl
import Derived.Test.YtopiclpameaglaaGreatDoorWrTied1
set_option linter.unusedSimpArgs false
set_option linter.unusedVariables false
set_option maxRecDepth 1000000
namespace Go.Proofs.YtopiclpameaglaaGreatDoor
open Go Go.Ev
noncomputable def doorAt (P : Program) (g : FuncId) (n fuel M : Nat) (laid : List (String × DataW Unit)) (os : Os) (tape : Tape) : {x // varsId P = g → doorLeaves P n fuel M laid os tape = x} := by
  apply Subtype.mk
  intro h
  unfold doorLeaves
  rw [h]
theorem tie_run0 (os : Os) (tape : Tape) : (doorAt Tryz.prog 1232 103 8 257 tieL os tape).1 = some (tieL.filter fun x => x.2.handleName?.isNone, (funcsListed tieL).map (·.2.funcsOut)) := by kernel_rfl
theorem tie_run (os : Os) (tape : Tape) : doorLeaves Tryz.prog 103 8 257 tieL os tape = some (tieL.filter fun x => x.2.handleName?.isNone, (funcsListed tieL).map (·.2.funcsOut)) :=
  ((doorAt Tryz.prog 1232 103 8 257 tieL os tape).2 varsId_eq).trans (tie_run0 os tape)
theorem tie_all : Tryz.prog.laidByTextLater tieL tieK true :=
  Program.laidByTextLater_by_one 103 8 257 (worded_list word_yes) (worded_list word_no) (worded_list word_root) tie_kinds (by rw [isVars_named]; rfl) (by rw [varsId_eq]; exact tie_vars) tie_run
theorem tie_fits : Tryz.pinned.checked.prog.listedFits [("math/bits.deBruijn32tab", Rows.laid_math_bits_deBruijn32tab), ("math/bits.deBruijn64tab", Rows.laid_math_bits_deBruijn64tab), ("internal/strconv.uint64pow10", Rows.laid_internal_strconv_uint64pow10), ("unicode/utf8.acceptRanges", Rows.laid_unicode_utf8_acceptRanges), ("errors.errorType", Rows.laid_errors_errorType), ("strconv.ErrRange", Rows.laid_strconv_ErrRange), ("strconv.ErrSyntax", Rows.laid_strconv_ErrSyntax), ("unicode.White_Space", Rows.laid_unicode_White_Space), ("strings.asciiSpace", Rows.laid_strings_asciiSpace), ("unicode.CaseRanges", Rows.laid_unicode_CaseRanges), ("unicode/utf8.first", Rows.laid_unicode_utf8_first)] = true := by
  unfold Program.listedFits
  rw [tie_unsafe]
  kernel_rfl
theorem tie_row : Tryz.prog.laidByTextLater [("math/bits.deBruijn32tab", Rows.laid_math_bits_deBruijn32tab), ("math/bits.deBruijn64tab", Rows.laid_math_bits_deBruijn64tab), ("internal/strconv.uint64pow10", Rows.laid_internal_strconv_uint64pow10), ("unicode/utf8.acceptRanges", Rows.laid_unicode_utf8_acceptRanges), ("errors.errorType", Rows.laid_errors_errorType), ("strconv.ErrRange", Rows.laid_strconv_ErrRange), ("strconv.ErrSyntax", Rows.laid_strconv_ErrSyntax), ("unicode.White_Space", Rows.laid_unicode_White_Space), ("strings.asciiSpace", Rows.laid_strings_asciiSpace)] [.data, .data, .data, .data, .handle, .sentinel, .sentinel, .listed, .data] true :=
  Program.laidByTextLater.sub tie_all ["math/bits.deBruijn32tab", "math/bits.deBruijn64tab", "internal/strconv.uint64pow10", "unicode/utf8.acceptRanges", "errors.errorType", "strconv.ErrRange", "strconv.ErrSyntax", "unicode.White_Space", "strings.asciiSpace"] (by kernel_rfl) (by kernel_rfl)
theorem shopReads_row_tie : Rows.shopReadsRow.laidByTextAt .later Tryz.pinned [.data, .data, .data, .data, .handle, .sentinel, .sentinel, .listed, .data, .pinned, .pinned] true :=
  OpenClaim.laidByTextAt_pinned rfl rfl tie_row rfl rfl rfl rfl (fun y hy _e => by
    simp only [Rows.shopReadsRow, List.zip_cons_cons, List.zip_nil_right, List.mem_cons, List.mem_nil_iff, or_false] at hy
    rcases hy with rfl | rfl | rfl | rfl | rfl | rfl | rfl | rfl | rfl | rfl | rfl
    · cases _e
    · cases _e
    · cases _e
    · cases _e
    · cases _e
    · cases _e
    · cases _e
    · cases _e
    · cases _e
    · exact ⟨pin_laid_unicode_CaseRanges_light, by kernel_rfl⟩
    · exact ⟨pin_laid_unicode_utf8_first_light, by kernel_rfl⟩) tie_fits
theorem shopMerges_row_tie : Rows.shopMergesRow.laidByTextAt .later Tryz.pinned [.data, .data, .data, .data, .handle, .sentinel, .sentinel, .listed, .data, .pinned, .pinned] true :=
  OpenClaim.laidByTextAt_pinned rfl rfl tie_row rfl rfl rfl rfl (fun y hy _e => by
    simp only [Rows.shopMergesRow, List.zip_cons_cons, List.zip_nil_right, List.mem_cons, List.mem_nil_iff, or_false] at hy
    rcases hy with rfl | rfl | rfl | rfl | rfl | rfl | rfl | rfl | rfl | rfl | rfl
    · cases _e
    · cases _e
    · cases _e
    · cases _e
    · cases _e
    · cases _e
    · cases _e
    · cases _e
    · cases _e
    · exact ⟨pin_laid_unicode_CaseRanges_light, by kernel_rfl⟩
    · exact ⟨pin_laid_unicode_utf8_first_light, by kernel_rfl⟩) tie_fits
theorem row_tied : Rows.shopWritesRow.laidByTextAt .later Tryz.pinned [.data, .data, .data, .data, .handle, .sentinel, .sentinel, .listed, .data, .pinned, .pinned] true :=
  OpenClaim.laidByTextAt_pinned rfl rfl tie_row rfl rfl rfl rfl (fun y hy _e => by
    simp only [Rows.shopWritesRow, List.zip_cons_cons, List.zip_nil_right, List.mem_cons, List.mem_nil_iff, or_false] at hy
    rcases hy with rfl | rfl | rfl | rfl | rfl | rfl | rfl | rfl | rfl | rfl | rfl
    · cases _e
    · cases _e
    · cases _e
    · cases _e
    · cases _e
    · cases _e
    · cases _e
    · cases _e
    · cases _e
    · exact ⟨pin_laid_unicode_CaseRanges_light, by kernel_rfl⟩
    · exact ⟨pin_laid_unicode_utf8_first_light, by kernel_rfl⟩) tie_fits
theorem shopReadsUpto_row_tie : Rows.shopReadsUptoRow.laidByTextAt .later Tryz.pinned [.data, .data, .data, .data, .handle, .sentinel, .sentinel, .listed, .data, .pinned, .pinned] true :=
  OpenClaim.laidByTextAt_pinned rfl rfl tie_row rfl rfl rfl rfl (fun y hy _e => by
    simp only [Rows.shopReadsUptoRow, List.zip_cons_cons, List.zip_nil_right, List.mem_cons, List.mem_nil_iff, or_false] at hy
    rcases hy with rfl | rfl | rfl | rfl | rfl | rfl | rfl | rfl | rfl | rfl | rfl
    · cases _e
    · cases _e
    · cases _e
    · cases _e
    · cases _e
    · cases _e
    · cases _e
    · cases _e
    · cases _e
    · exact ⟨pin_laid_unicode_CaseRanges_light, by kernel_rfl⟩
    · exact ⟨pin_laid_unicode_utf8_first_light, by kernel_rfl⟩) tie_fits
theorem shopMergesUpto_row_tie : Rows.shopMergesUptoRow.laidByTextAt .later Tryz.pinned [.data, .data, .data, .data, .handle, .sentinel, .sentinel, .listed, .data, .pinned, .pinned] true :=
  OpenClaim.laidByTextAt_pinned rfl rfl tie_row rfl rfl rfl rfl (fun y hy _e => by
    simp only [Rows.shopMergesUptoRow, List.zip_cons_cons, List.zip_nil_right, List.mem_cons, List.mem_nil_iff, or_false] at hy
    rcases hy with rfl | rfl | rfl | rfl | rfl | rfl | rfl | rfl | rfl | rfl | rfl
    · cases _e
    · cases _e
    · cases _e
    · cases _e
    · cases _e
    · cases _e
    · cases _e
    · cases _e
    · cases _e
    · exact ⟨pin_laid_unicode_CaseRanges_light, by kernel_rfl⟩
    · exact ⟨pin_laid_unicode_utf8_first_light, by kernel_rfl⟩) tie_fits
end Go.Proofs.YtopiclpameaglaaGreatDoor
