/-
Books written, by the program and by the reference: both as one plain function says.
-/
import Derived.Test.YtopiclpameaglaaGreatDoorWalkM
import Derived.Test.YtopiclpameaglaaGreatDoorProg
import Derived.Shelf.Slices.In.CompactS
import Derived.Shelf.Slices.In.SortAlone
import Derived.Shelf.LaysM
import Derived.Shelf.Strings.Shaped
import Derived.Shelf.Strings.Builder1
import Derived.Shelf.Strconv.Itoa3
import Derived.KernelRfl
import Derived.Deep.RegionHeld3
import Derived.Laws.Concat
set_option linter.unusedSimpArgs false
set_option linter.unusedVariables false
namespace Go.Proofs.YtopiclpameaglaaGreatDoor
open Go.Shelf
def Tryz.laysWriteString_ren : Go.Shelf.Ren := ⟨fun | 166 => 36 | 240 => 49 | 276 => 84 | n => n, fun | 70 => 61 | 9 => 9 | 3 => 3 | 75 => 65 | 0 => 0 | 72 => 63 | 37 => 46 | 4 => 4 | 164 => 88 | 80 => 68 | 5 => 5 | n => n, fun | n => n⟩
theorem Tryz.laysWriteString : Go.Proofs.Lays.n166 Tryz.prog Tryz.laysWriteString_ren := {
  mixed := by kernel_rfl
  f166 := Tryz.func36.trans (congrArg some (by kernel_rfl))
  f240 := Tryz.func49.trans (congrArg some (by kernel_rfl))
  f276 := Tryz.func84.trans (congrArg some (by kernel_rfl))
  t0 := Tryz.underlying0
  a0 := Tryz.isAgg0
  z0 := Tryz.sizeOf0
  v0 := Tryz.zeroValue0
  t3 := Tryz.underlying3
  a3 := Tryz.isAgg3
  z3 := Tryz.sizeOf3
  v3 := Tryz.zeroValue3
  t4 := Tryz.underlying4
  a4 := Tryz.isAgg4
  z4 := Tryz.sizeOf4
  v4 := Tryz.zeroValue4
  t9 := Tryz.underlying9
  a9 := Tryz.isAgg9
  z9 := Tryz.sizeOf9
  v9 := Tryz.zeroValue9
  t20 := Tryz.underlying20
  a20 := Tryz.isAgg20
  z20 := Tryz.sizeOf20
  v20 := Tryz.zeroValue20
  t37 := Tryz.underlying46
  a37 := Tryz.isAgg46
  z37 := Tryz.sizeOf46
  v37 := Tryz.zeroValue46
  t70 := Tryz.underlying61
  a70 := Tryz.isAgg61
  z70 := Tryz.sizeOf61
  v70 := Tryz.zeroValue61
  t72 := Tryz.underlying63
  a72 := Tryz.isAgg63
  z72 := Tryz.sizeOf63
  v72 := Tryz.zeroValue63
  t75 := Tryz.underlying65
  a75 := Tryz.isAgg65
  z75 := Tryz.sizeOf65
  v75 := Tryz.zeroValue65
  t164 := Tryz.underlying88
  a164 := Tryz.isAgg88
  z164 := Tryz.sizeOf88
  v164 := Tryz.zeroValue88 }
theorem Tryz.extraWriteString : Builder.Extra Tryz.prog Tryz.laysWriteString_ren := {
  sizeBuilder := by kernel_rfl
  liesBuilder := by kernel_rfl
  t5 := Tryz.underlying5
  a5 := Tryz.isAgg5
  z5 := Tryz.sizeOf5
  v5 := Tryz.zeroValue5
  infoByte := by kernel_rfl
  cellsByte := by kernel_rfl
  sizeByte := by kernel_rfl
  neB5 := by decide }
end Go.Proofs.YtopiclpameaglaaGreatDoor

set_option maxRecDepth 1000000
namespace Go.Proofs.YtopiclpameaglaaGreatDoor
open Go Go.RowKit
/-! The book's length. -/
theorem dec_len : ∀ (k u : Nat), u < 10 ^ (k + 1) → (Lib.decDigits u).length ≤ k + 1
  | 0, u, h => by
    rw [Lib.decDigits, dif_pos (by simpa using h)]
    simp
  | k + 1, u, h => by
    rw [Lib.decDigits]
    split
    · simp
    · have := dec_len k (u / 10) (by rw [Nat.pow_succ] at h; omega)
      rw [List.length_append, List.length_singleton]
      omega
theorem itoa_len {n : Int} (h0 : 0 ≤ n) (h1 : n < 1000033) : (Lib.itoa n).length ≤ 7 := by
  unfold Lib.itoa
  rw [if_neg (by omega)]
  exact dec_len 6 n.toNat (by omega)
theorem line_len {s : ByteArray} (h : lineB s = true) : s.size ≤ 200 := by
  unfold lineB at h
  rw [Bool.and_eq_true, Bool.and_eq_true, decide_eq_true_iff, decide_eq_true_iff] at h
  exact h.1.2
theorem writtenL_len : ∀ (l : List ByteArray) (n : Int), l.all lineB = true → (writtenL n l).length ≤ 209 * l.length
  | [], _, _ => by simp [writtenL]
  | s :: r, n, h => by
    rw [List.all_cons, Bool.and_eq_true] at h
    have ih := writtenL_len r (sumB n s) h.2
    have h1 := itoa_len (sumB_in n s).1 (sumB_in n s).2
    have h2 := line_len h.1
    rw [size_list] at h2
    simp only [writtenL, List.length_append, List.length_cons]
    omega
theorem all_take {l : List ByteArray} (h : l.all lineB = true) (k : Nat) : (l.take k).all lineB = true := by
  rw [List.all_eq_true] at h ⊢
  exact fun x hx => h x (List.mem_of_mem_take hx)
theorem getD_mem {l : List ByteArray} {k : Nat} (hk : k < l.length) : l.getD k ByteArray.empty ∈ l := by
  rw [List.getD_eq_getElem?_getD, List.getElem?_eq_getElem hk]
  exact List.getElem_mem hk
theorem take_next {l : List ByteArray} {k : Nat} (hk : k < l.length) : l.take (k + 1) = l.take k ++ [l.getD k ByteArray.empty] := by
  rw [List.take_add_one, List.getElem?_eq_getElem hk]
  simp [List.getD_eq_getElem?_getD, hk]
/-- The line that an order makes in a book. -/
def orderL (n : Int) (s : ByteArray) : List UInt8 := Lib.itoa n ++ 32 :: (s.data.toList ++ [10])
theorem written_next {l : List ByteArray} {k : Nat} {n : Int} {s : ByteArray} (hk : k < l.length) (hs : s = l.getD k ByteArray.empty) (hn : sumB (sumsB 0 (l.take k)) s = n) : writtenL 0 (l.take (k + 1)) = writtenL 0 (l.take k) ++ orderL n s ∧ sumsB 0 (l.take (k + 1)) = n := by
  subst hs
  rw [take_next hk, writtenL_snoc, sumsB_snoc, hn]
  exact ⟨rfl, rfl⟩
theorem append_bytes (a b : ByteArray) : a ++ b = ofL (a.data.toList ++ b.data.toList) := by
  obtain ⟨⟨x⟩⟩ := a
  obtain ⟨⟨y⟩⟩ := b
  exact ByteArray.mk_append_mk x y
theorem append_three (n : Int) (s : ByteArray) : ((itoaB n ++ ⟨#[32]⟩) ++ s) ++ ⟨#[10]⟩ = ofL (orderL n s) := by
  rw [append_bytes, append_bytes, append_bytes]
  unfold itoaB orderL
  rw [ofL_list, ofL_list, ofL_list]
  congr 1
  show ((Lib.itoa n ++ [32]) ++ s.data.toList) ++ [10] = _
  simp
theorem itoaB_size {n : Int} (h0 : 0 ≤ n) (h1 : n < 1000033) : (itoaB n).size ≤ 7 := by
  unfold itoaB
  rw [ofL_size]
  exact itoa_len h0 h1
theorem size_append (a b : ByteArray) : (a ++ b).size = a.size + b.size := by
  rw [append_bytes, ofL_size, List.length_append, ← size_list, ← size_list]
section
variable {w : World} {v : Value} {l : List ByteArray}
/-! over -/
set_option maxHeartbeats 2000000 in
theorem over12_c (hS : Hid (Strs w v l)) : Calls Tryz.prog 12 #[v] w fun e w' => ∃ r, e = .returned (.bool r) ∧ w' = w := by
  obtain ⟨ad, c, rfl, HA⟩ := strs_open hS
  have hn := HA.out.1
  clear hS
  go_enter Tryz.func12, Tryz.ntmps12
  go_wp2
  go_loopw [3, 4] (fun nv iv wr => ∃ (z : Int) (k : Nat), k ≤ l.length ∧ nv = .int .i64 z ∧ iv = .int .i64 k ∧ wr = w) (fun _ iv _ => l.length - (intOf iv).toNat)
  case atStart => exact ⟨_, 0, by omega, rfl, rfl, rfl⟩
  case round =>
    obtain ⟨z, k, hk, rfl, rfl, rfl⟩ := hrel
    by_cases hlt : k < l.length
    · obtain ⟨b, o, rfl, k1⟩ := HA.out.2 k hlt
      have h1 := k1 k hlt
      clear k1
      obtain ⟨s, HS⟩ : ∃ s, Hid (s = l.getD k ByteArray.empty) := ⟨_, Lib.hid rfl⟩
      rw [← HS.out] at h1
      go_wp2
      go_roundw
      case rel => exact ⟨_, k + 1, by omega, rfl, by go_num, by first | trivial | rfl⟩
      case measure => simp [intOf]; omega
    · by_cases hc : l.length ≤ 100
      · have g1 : ¬ (100 : Int) < (l.length : Int) := by omega
        go_wp2
        all_goals go_ret
        all_goals refine ⟨?_, by first | trivial | rfl⟩
        all_goals first
          | (right; rfl)
          | (by_cases hz : (131072 : Int) < z
             · right; simp [hz]
             · left; simp [hz])
      · have g1 : (100 : Int) < (l.length : Int) := by omega
        go_wp2
        all_goals go_ret
        all_goals refine ⟨?_, by first | trivial | rfl⟩
        all_goals first
          | (right; rfl)
          | (by_cases hz : (131072 : Int) < z
             · right; simp [hz]
             · left; simp [hz])
/-! shop.Write -/
theorem line25_at {s : ByteArray} {b : Bool} (hk : Hid (KW w)) (h : Hid (lineB s = b)) : Calls Tryz.prog 25 #[.string s] w fun e w' => e = .returned (.bool (!b)) ∧ w' = w := by
  go_enter Tryz.func25, Tryz.ntmps25
  go_wp2_with (go_at_call 21; refine (line21_any hk h).mono ?_; rintro e w' ⟨rfl, rfl⟩)
  go_ret
  exact ⟨rfl, rfl⟩
theorem all_false_of {k : Nat} (hk : k < l.length) (h : lineB (l.getD k ByteArray.empty) = false) : l.all lineB = false := by
  rw [List.all_eq_false]
  exact ⟨_, getD_mem hk, by rw [h]; simp⟩
theorem all_true_of (h : ∀ j, j < l.length → lineB (l.getD j ByteArray.empty) = true) : l.all lineB = true := by
  rw [List.all_eq_true]
  intro x hx
  obtain ⟨j, hj, rfl⟩ := List.mem_iff_getElem.1 hx
  have := h j hj
  simpa [List.getD_eq_getElem?_getD, hj] using this
theorem lines_next {k : Nat} (h : ∀ j, j < k → lineB (l.getD j ByteArray.empty) = true) (hk : lineB (l.getD k ByteArray.empty) = true) : ∀ j, j < k + 1 → lineB (l.getD j ByteArray.empty) = true := fun j hj => by
  rcases Nat.lt_succ_iff_lt_or_eq.1 hj with h1 | rfl
  · exact h j h1
  · exact hk
set_option maxHeartbeats 2000000 in
theorem index35_c (hk : Hid (KW w)) (hS : Hid (Strs w v l)) : Calls Tryz.prog 35 #[v, .func (.func 25) #[] #[]] w fun e w' => ∃ z : Int, e = .returned (.int .i64 z) ∧ ((l.all lineB = true ∧ z = -1) ∨ (l.all lineB = false ∧ 0 ≤ z)) ∧ w' = w := by
  obtain ⟨ad, c, rfl, HA⟩ := strs_open hS
  have hn := HA.out.1
  clear hS
  go_enter Tryz.func35, Tryz.ntmps35
  go_wp2
  go_loopw [8] (fun iv wr => ∃ (k : Nat), k ≤ l.length ∧ iv = .int .i64 k ∧ Hid (∀ j, j < k → lineB (l.getD j ByteArray.empty) = true) ∧ wr = w) (fun iv _ => l.length - (intOf iv).toNat)
  case atStart => exact ⟨0, by omega, rfl, Lib.hid fun j hj => absurd hj (by omega), rfl⟩
  case round =>
    obtain ⟨k, hk', rfl, HL, rfl⟩ := hrel
    by_cases hlt : k < l.length
    · obtain ⟨b, o, rfl, k1⟩ := HA.out.2 k hlt
      have h1 := k1 k hlt
      clear k1
      obtain ⟨s, HS⟩ : ∃ s, Hid (s = l.getD k ByteArray.empty) := ⟨_, Lib.hid rfl⟩
      rw [← HS.out] at h1
      cases hL : lineB s
      · have HB := Lib.hid hL
        clear hL
        go_wp2_with (go_at_call 25; refine (line25_at hk HB).mono ?_; rintro e w' ⟨rfl, rfl⟩)
        go_ret
        exact ⟨_, rfl, .inr ⟨all_false_of hlt (by rw [← HS.out]; exact HB.out), by omega⟩, rfl⟩
      · have HB := Lib.hid hL
        clear hL
        go_wp2_with (go_at_call 25; refine (line25_at hk HB).mono ?_; rintro e w' ⟨rfl, rfl⟩)
        go_roundw
        case rel => exact ⟨k + 1, by omega, by go_num, Lib.hid (lines_next HL.out (by rw [← HS.out]; exact HB.out)), by first | trivial | rfl⟩
        case measure => simp [intOf]; omega
    · obtain rfl : k = l.length := by omega
      go_wp2
      go_ret
      exact ⟨_, rfl, .inl ⟨all_true_of HL.out, rfl⟩, rfl⟩
theorem contains24_at {r : Bool} (hk : Hid (KW w)) (hS : Hid (Strs w v l)) (h : Hid (l.all lineB = r)) : Calls Tryz.prog 24 #[v, .func (.func 25) #[] #[]] w fun e w' => e = .returned (.bool (!r)) ∧ w' = w := by
  cases r
  · go_enter Tryz.func24, Tryz.ntmps24
    go_wp2_with (go_at_call 35; refine (index35_c hk hS).mono ?_; rintro e w' ⟨z, rfl, hz, rfl⟩; have hz0 : 0 ≤ z := by (rcases hz with ⟨h1, _⟩ | ⟨_, h1⟩; exact absurd (h.out.symm.trans h1) (by simp); exact h1))
    go_ret
    exact ⟨rfl, rfl⟩
  · go_enter Tryz.func24, Tryz.ntmps24
    go_wp2_with (go_at_call 35; refine (index35_c hk hS).mono ?_; rintro e w' ⟨z, rfl, hz, rfl⟩; obtain rfl : z = -1 := by (rcases hz with ⟨_, h1⟩ | ⟨h1, _⟩; exact h1; exact absurd (h.out.symm.trans h1) (by simp)))
    go_ret
    exact ⟨rfl, rfl⟩
end
/-! The builder. -/
theorem row_below5 {w w' : World} {B n : Nat} {v : Value} {xs : List Value} (h : w.ownsRow B 5 1 v n xs) (hb : Below w.heap.size w w') : w'.ownsRow B 5 1 v n xs := by
  refine ⟨h.1, ?_⟩
  rcases h.2 with h0 | ⟨g, cap, cur, h1, h2, h3, h4⟩
  · exact .inl h0
  · refine .inr ⟨g, cap, cur, h1, h2, ?_, h4⟩
    rw [hb.block g (Array.getElem?_eq_some_iff.1 h3).1]
    exact h3
theorem at_below {w w' : World} {B b : Nat} {p : Value} {bs : List Value} (h : Lib.BuilderAt 63 5 B b p bs w) (hb : Below w.heap.size w w') : Lib.BuilderAt 63 5 B b p bs w' := by
  obtain ⟨hB, v, hbk, hown, hne⟩ := h
  refine ⟨hB, v, ?_, row_below5 hown hb, hne⟩
  rw [hb.block b (Array.getElem?_eq_some_iff.1 hbk).1]
  exact hbk
theorem builder_below {w w' : World} {B b : Nat} {bs : List Value} (h : Lib.IsBuilder 63 5 B b bs w) (hb : Below w.heap.size w w') : Lib.IsBuilder 63 5 B b bs w' := h.imp (at_below · hb) (at_below · hb)
theorem cells_append (l : List UInt8) (s : List UInt8) : Lib.byteCells l ++ Lib.strCells (ofL s) = Lib.byteCells (l ++ s) := by
  unfold Lib.byteCells Lib.strCells
  rw [ofL_list, List.map_append]
theorem writeString_at {w : World} {B b : Nat} {l : List UInt8} {s : ByteArray} {t : List UInt8} (h : Hid (Lib.IsBuilder 63 5 B b (Lib.byteCells l) w)) (hs : Hid (s = ofL t)) (hlen : Hid (l.length + s.size ≤ 140737488355328)) (hB : Hid (B ≤ w.heap.size)) :
    Calls Tryz.prog 36 #[.pointer (some ⟨b, 0, none⟩), .string s] w fun e w' => e = .returned (.tuple #[.int .i64 s.size, .nilIface]) ∧ Hid (Lib.IsBuilder 63 5 B b (Lib.byteCells (l ++ t)) w') ∧ Hid (Below B w w') :=
  (Any.Builder_WriteString Tryz.laysWriteString Tryz.extraWriteString B b (Lib.byteCells l) s w h.out (by rw [Lib.byteCells_length]; exact hlen.out) hB.out).mono fun e w' hp => by
    refine ⟨hp.1, Lib.hid (.inr ?_), Lib.hid hp.2.2⟩
    have h2 := hp.2.1
    rw [hs.out, cells_append] at h2
    exact h2
theorem builderString_at {w : World} {B b : Nat} {l : List UInt8} (h : Hid (Lib.IsBuilder 63 5 B b (Lib.byteCells l) w)) (hB : Hid (B ≤ w.heap.size)) :
    Calls Tryz.prog 37 #[.pointer (some ⟨b, 0, none⟩)] w fun e w' => e = .returned (.string (ofL l)) ∧ Hid (Below B w w') :=
  (Any.Builder_String_any Tryz.laysString Tryz.extraString B b l w h.out hB.out).mono fun e w' hp => ⟨hp.1, Lib.hid hp.2⟩
theorem bel_to {w0 w w' : World} (h : Hid (Below w0.heap.size w0 w)) (hb : Hid (Below w0.heap.size w w')) : Hid (Below w0.heap.size w0 w') := Lib.hid (h.out.trans hb.out)
section
variable {w : World} {v : Value} {l : List ByteArray}
set_option maxHeartbeats 8000000 in
theorem written26_c (hk : KW w) (hS : Strs w v l) (hl : l.length ≤ 60) (ha : l.all lineB = true) : Calls Tryz.prog 26 #[v] w fun e w' => e = .returned (.string (writtenB l)) ∧ Below w.heap.size w w' := by
  have HK := Lib.hid hk
  obtain ⟨ad, c, rfl, HA⟩ := strs_open (Lib.hid hS)
  have HSS : Hid (Strs w (.slice ad l.length c) l) := Lib.hid hS
  have HAL := Lib.hid ha
  have HST : Hid (Lib.IsBuilder 63 5 w.heap.size w.heap.size (Lib.byteCells []) (w.alloc (.cells #[.pointer none, .slice none 0 0] 63))) := Lib.hid (Lib.fresh_isBuilder 63 5 w)
  have HWS : Hid (Below w.heap.size w (w.alloc (.cells #[.pointer none, .slice none 0 0] 63))) := Lib.hid ((Below.refl _ _).alloc (Nat.le_refl _) _)
  clear hk hS ha
  go_enter Tryz.func26, Tryz.ntmps26
  go_wp2
  go_loopw [4, 9] (fun sv iv wr => ∃ (k : Nat) (n : Int), k ≤ l.length ∧ sv = .int .i64 n ∧ iv = .int .i64 k ∧ Hid (sumsB 0 (l.take k) = n) ∧ Hid (Lib.IsBuilder 63 5 w.heap.size w.heap.size (Lib.byteCells (writtenL 0 (l.take k))) wr) ∧ Hid (Below w.heap.size w wr)) (fun _ iv _ => l.length - (intOf iv).toNat)
  case atStart => exact ⟨0, 0, by omega, rfl, rfl, Lib.hid rfl, HST, HWS⟩
  case round =>
    clear HST HWS
    obtain ⟨k, n, hk', rfl, rfl, HN, HB, HW⟩ := hrel
    obtain ⟨wo, rfl⟩ : ∃ wo : World, wo = wr := ⟨_, rfl⟩
    have HK0 : Hid (KW wo) := Lib.hid (HK.out.below HW.out)
    by_cases hlt : k < l.length
    · obtain ⟨b, o, rfl, k1⟩ := HA.out.2 k hlt
      have h0 := k1 k hlt
      have hbl : b < w.heap.size := by
        rcases Nat.lt_or_ge b w.heap.size with h2 | h2
        · exact h2
        · simp [World.cell?, Array.getElem?_eq_none h2] at h0
      have h1 : wo.cell? ⟨b, o + k, none⟩ = some (.string (l.getD k ByteArray.empty)) := (HW.out.cell (p := ⟨b, o + k, none⟩) hbl).trans h0
      clear k1 h0
      obtain ⟨s, HS⟩ : ∃ s, Hid (s = l.getD k ByteArray.empty) := ⟨_, Lib.hid rfl⟩
      rw [← HS.out] at h1
      have hln : lineB s = true := by rw [HS.out]; exact List.all_eq_true.1 HAL.out _ (getD_mem hlt)
      have hs2 := line_len hln
      have HSO : Hid (s.size < 4294967281) := Lib.hid (by omega)
      obtain ⟨m, HM⟩ : ∃ m, Hid (sumB n s = m) := ⟨_, Lib.hid rfl⟩
      have hm0 : 0 ≤ m := by rw [← HM.out]; exact (sumB_in _ _).1
      have hm1 : m < 1000033 := by rw [← HM.out]; exact (sumB_in _ _).2
      obtain ⟨it, HI⟩ : ∃ it, Hid (itoaB m = it) := ⟨_, Lib.hid rfl⟩
      have hit : it.size ≤ 7 := by rw [← HI.out]; exact itoaB_size hm0 hm1
      obtain ⟨c1, HC1⟩ : ∃ c1, Hid (c1 = it ++ ⟨#[32]⟩) := ⟨_, Lib.hid rfl⟩
      obtain ⟨c2, HC2⟩ : ∃ c2, Hid (c2 = c1 ++ s) := ⟨_, Lib.hid rfl⟩
      obtain ⟨c3, HC3⟩ : ∃ c3, Hid (c3 = c2 ++ ⟨#[10]⟩) := ⟨_, Lib.hid rfl⟩
      have z1 : c1.size ≤ 8 := by rw [HC1.out, size_append]; show it.size + 1 ≤ 8; omega
      have z2 : c2.size ≤ 208 := by rw [HC2.out, size_append]; omega
      have z3 : c3.size ≤ 209 := by rw [HC3.out, size_append]; show c2.size + 1 ≤ 209; omega
      have e1 : ∀ W, (Op.stringOp .add it ⟨#[32]⟩).run Tryz.prog W = .ok (.string c1) W := fun W => by rw [HC1.out]; exact run_string_add_sum W _ _ (by show it.size + 1 ≤ _; omega)
      have e2 : ∀ W, (Op.stringOp .add c1 s).run Tryz.prog W = .ok (.string c2) W := fun W => by rw [HC2.out]; exact run_string_add_sum W _ _ (by omega)
      have e3 : ∀ W, (Op.stringOp .add c2 ⟨#[10]⟩).run Tryz.prog W = .ok (.string c3) W := fun W => by rw [HC3.out]; exact run_string_add_sum W _ _ (by show c2.size + 1 ≤ _; omega)
      have HC : Hid (c3 = ofL (orderL m s)) := Lib.hid (by rw [HC3.out, HC2.out, HC1.out, ← HI.out]; exact append_three m s)
      have HNX := Lib.hid (written_next (n := m) hlt HS.out (by rw [HN.out]; exact HM.out))
      have HLN : Hid ((writtenL 0 (l.take k)).length + c3.size ≤ 140737488355328) := Lib.hid (by
        have h3 := writtenL_len (l.take k) 0 (all_take HAL.out k)
        rw [List.length_take] at h3
        have h4 : min k l.length ≤ 60 := by omega
        have h5 := Nat.mul_le_mul_left 209 h4
        omega)
      clear hln
      go_wp2_with (first
        | (go_at_call 15; refine (sum15_at HK0 HSO HM).mono ?_; rintro e w1 ⟨rfl, HB1⟩; have HK1 := kw_next HK0 HB1; have HW1 := bel_next HW HB1; have HBB1 : Hid (Lib.IsBuilder 63 5 w.heap.size w.heap.size (Lib.byteCells (writtenL 0 (l.take k))) w1) := Lib.hid (builder_below HB.out HB1.out))
        | (go_at_call 22; refine (itoa_at HK1 hm0 hm1 HI).mono ?_; rintro e w2 ⟨rfl, HB2⟩; have HW2 := bel_next HW1 HB2; have HBB2 : Hid (Lib.IsBuilder 63 5 w.heap.size w.heap.size (Lib.byteCells (writtenL 0 (l.take k))) w2) := Lib.hid (builder_below HBB1.out HB2.out); have HZ2 : Hid (w.heap.size ≤ w2.heap.size) := Lib.hid HW2.out.size)
        | (go_at_call 36; refine (writeString_at HBB2 HC HLN HZ2).mono ?_; rintro e w3 ⟨rfl, HBB3, HB3⟩; have HW3 := bel_to HW2 HB3)
        | go_in)
      go_roundw
      case rel => exact ⟨k + 1, m, by omega, rfl, by go_num, Lib.hid HNX.out.2, Lib.hid (by rw [HNX.out.1]; exact HBB3.out), HW3⟩
      case measure => simp [intOf]; omega
    · obtain rfl : k = l.length := by omega
      have HZ : Hid (w.heap.size ≤ wo.heap.size) := Lib.hid HW.out.size
      go_wp2_with (go_at_call 37; refine (builderString_at HB HZ).mono ?_; rintro e w3 ⟨rfl, HB3⟩; have HW3 := bel_to HW HB3)
      go_ret
      exact ⟨by first | rfl | (rw [List.take_length]; rfl), HW3.out⟩
/-- The reference's. -/
theorem held_next {w0 W W' : World} {b o : Nat} {x : Value} (hb : b < w0.heap.size) (h : Hid (Below w0.heap.size w0 W)) (hc : W.cell? ⟨b, o, none⟩ = some x) (h2 : Hid (Below W.heap.size W W')) : W'.cell? ⟨b, o, none⟩ = some x :=
  (h2.out.cell (p := ⟨b, o, none⟩) (Nat.lt_of_lt_of_le hb h.out.size)).trans hc
theorem itoa_held {w0 W : World} {b o : Nat} {x : Value} {n : Int} {t : ByteArray} (hb : Hid (b < w0.heap.size)) (hk : Hid (KW w0)) (h : Hid (Below w0.heap.size w0 W)) (hc : W.cell? ⟨b, o, none⟩ = some x) (h0 : 0 ≤ n) (h1 : n < 1000033) (ht : Hid (itoaB n = t)) :
    Calls Tryz.prog 22 #[.int .i64 n] W fun e W' => e = .returned (.string t) ∧ Hid (Below w0.heap.size w0 W') ∧ W'.cell? ⟨b, o, none⟩ = some x :=
  (itoa_at (Lib.hid (hk.out.below h.out)) h0 h1 ht).mono fun e W' hp => ⟨hp.1, bel_next h hp.2, held_next hb.out h hc hp.2⟩
theorem hid_drew {w0 W : World} (h : Hid (Below w0.heap.size w0 W)) : Hid (Below w0.heap.size w0 W.drew) := ⟨h.out.os, h.out.tape, h.out.output, h.out.size, h.out.block⟩
set_option maxHeartbeats 8000000 in
theorem written27_c (hk : KW w) (hS : Strs w v l) (hl : l.length ≤ 60) (ha : l.all lineB = true) : Calls Tryz.prog 27 #[v] w fun e w' => e = .returned (.string (writtenB l)) ∧ Below w.heap.size w w' := by
  have HK := Lib.hid hk
  obtain ⟨ad, c, rfl, HA⟩ := strs_open (Lib.hid hS)
  have HAL := Lib.hid ha
  have HWS : Hid (Below w.heap.size w w) := Lib.hid (Below.refl _ _)
  clear hk hS ha
  go_enter Tryz.func27, Tryz.ntmps27
  go_wp2
  go_loopw [3, 4, 5] (fun ov sv iv wr => ∃ (k : Nat) (n : Int) (out : ByteArray), k ≤ l.length ∧ ov = .string out ∧ sv = .int .i64 n ∧ iv = .int .i64 k ∧ Hid (sumsB 0 (l.take k) = n) ∧ Hid (out = ofL (writtenL 0 (l.take k))) ∧ Hid (Below w.heap.size w wr)) (fun _ _ iv _ => l.length - (intOf iv).toNat)
  case atStart => exact ⟨0, 0, ⟨#[]⟩, by omega, rfl, rfl, rfl, Lib.hid rfl, Lib.hid rfl, HWS⟩
  case round =>
    clear HWS
    obtain ⟨k, n, out, hk', rfl, rfl, rfl, HN, HO, HW⟩ := hrel
    obtain ⟨wo, rfl⟩ : ∃ wo : World, wo = wr := ⟨_, rfl⟩
    have HK0 : Hid (KW wo) := Lib.hid (HK.out.below HW.out)
    by_cases hlt : k < l.length
    · obtain ⟨b, o, rfl, k1⟩ := HA.out.2 k hlt
      have h0 := k1 k hlt
      have hbl : b < w.heap.size := by
        rcases Nat.lt_or_ge b w.heap.size with h2 | h2
        · exact h2
        · simp [World.cell?, Array.getElem?_eq_none h2] at h0
      have h1 : wo.cell? ⟨b, o + k, none⟩ = some (.string (l.getD k ByteArray.empty)) := (HW.out.cell (p := ⟨b, o + k, none⟩) hbl).trans h0
      clear k1 h0
      obtain ⟨s, HS⟩ : ∃ s, Hid (s = l.getD k ByteArray.empty) := ⟨_, Lib.hid rfl⟩
      rw [← HS.out] at h1
      have HBL := Lib.hid hbl
      clear hbl
      have hln : lineB s = true := by rw [HS.out]; exact List.all_eq_true.1 HAL.out _ (getD_mem hlt)
      have hs2 := line_len hln
      have HSO : Hid (s.size < 4294967281) := Lib.hid (by omega)
      obtain ⟨m, HM⟩ : ∃ m, Hid (sumB n s = m) := ⟨_, Lib.hid rfl⟩
      have hm0 : 0 ≤ m := by rw [← HM.out]; exact (sumB_in _ _).1
      have hm1 : m < 1000033 := by rw [← HM.out]; exact (sumB_in _ _).2
      obtain ⟨it, HI⟩ : ∃ it, Hid (itoaB m = it) := ⟨_, Lib.hid rfl⟩
      have hit : it.size ≤ 7 := by rw [← HI.out]; exact itoaB_size hm0 hm1
      have hout : out.size ≤ 12540 := by
        rw [HO.out, ofL_size]
        have h3 := writtenL_len (l.take k) 0 (all_take HAL.out k)
        rw [List.length_take] at h3
        have h4 : min k l.length ≤ 60 := by omega
        have h5 := Nat.mul_le_mul_left 209 h4
        omega
      obtain ⟨c1, HC1⟩ : ∃ c1, Hid (c1 = it ++ ⟨#[32]⟩) := ⟨_, Lib.hid rfl⟩
      obtain ⟨c2, HC2⟩ : ∃ c2, Hid (c2 = c1 ++ s) := ⟨_, Lib.hid rfl⟩
      obtain ⟨c3, HC3⟩ : ∃ c3, Hid (c3 = c2 ++ ⟨#[10]⟩) := ⟨_, Lib.hid rfl⟩
      obtain ⟨c4, HC4⟩ : ∃ c4, Hid (c4 = out ++ c3) := ⟨_, Lib.hid rfl⟩
      have z1 : c1.size ≤ 8 := by rw [HC1.out, size_append]; show it.size + 1 ≤ 8; omega
      have z2 : c2.size ≤ 208 := by rw [HC2.out, size_append]; omega
      have z3 : c3.size ≤ 209 := by rw [HC3.out, size_append]; show c2.size + 1 ≤ 209; omega
      have e1 : ∀ W, (Op.stringOp .add it ⟨#[32]⟩).run Tryz.prog W = .ok (.string c1) W := fun W => by rw [HC1.out]; exact run_string_add_sum W _ _ (by show it.size + 1 ≤ _; omega)
      have e2 : ∀ W, (Op.stringOp .add c1 s).run Tryz.prog W = .ok (.string c2) W := fun W => by rw [HC2.out]; exact run_string_add_sum W _ _ (by omega)
      have e3 : ∀ W, (Op.stringOp .add c2 ⟨#[10]⟩).run Tryz.prog W = .ok (.string c3) W := fun W => by rw [HC3.out]; exact run_string_add_sum W _ _ (by show c2.size + 1 ≤ _; omega)
      have e4 : ∀ W, (Op.stringOp .add out c3).run Tryz.prog W = .ok (.string c4) W := fun W => by rw [HC4.out]; exact run_string_add_sum W _ _ (by omega)
      have HC : Hid (c4 = ofL (writtenL 0 (l.take k) ++ orderL m s)) := Lib.hid (by
        rw [HC4.out, HC3.out, HC2.out, HC1.out, ← HI.out, append_three, HO.out, append_bytes, ofL_list, ofL_list])
      have HNX := Lib.hid (written_next (n := m) hlt HS.out (by rw [HN.out]; exact HM.out))
      clear hln
      go_wp2_with (go_at_call 16; refine (sum16_at HK0 HSO HM).mono ?_; rintro e w1 ⟨rfl, HB1⟩; have HW1 := bel_next HW HB1; have h2 := held_next HBL.out HW h1 HB1)
      go_region_held3 (fun W => Hid (Below w.heap.size w W) ∧ W.cell? ⟨b, o + k, none⟩ = some (.string s))
        ((refine ⟨?_, ?_⟩ <;> first | assumption | exact hid_drew HW1 | exact hid_drew hW | go_simp))
        (first
          | (go_at_call 22; refine (itoa_held HBL HK (by first | assumption | exact hid_drew HW1) (by first | assumption | go_simp) hm0 hm1 HI).mono ?_; rintro e W ⟨rfl, hW, g1⟩))
      all_goals go_wp2
      all_goals go_roundw
      all_goals first
        | (refine ⟨k + 1, m, c4, by omega, rfl, rfl, by go_num, Lib.hid HNX.out.2, Lib.hid (by rw [HNX.out.1]; exact HC.out), ?_⟩; assumption)
        | (simp [intOf]; omega)
    · obtain rfl : k = l.length := by omega
      go_wp2
      go_ret
      exact ⟨by rw [HO.out]; first | rfl | (rw [List.take_length]; rfl), HW.out⟩
end
end Go.Proofs.YtopiclpameaglaaGreatDoor

set_option maxRecDepth 1000000
namespace Go.Proofs.YtopiclpameaglaaGreatDoor
open Go Go.RowKit
def PostWr (m : ByteArray × Int) (w : World) (e : Ending) (w' : World) : Prop := e = .returned (.tuple #[.string m.1, .int .i64 m.2]) ∧ Below w.heap.size w w'
theorem postWr_mk {m : ByteArray × Int} {s : ByteArray} {x : Int} {w w' : World} (h : m = (s, x)) (hb : Below w.heap.size w w') : PostWr m w (.returned (.tuple #[.string s, .int .i64 x])) w' := by
  subst h
  exact ⟨rfl, hb⟩
section
variable {w : World} {v : Value} {l : List ByteArray}
theorem writeB_1 (h : ¬ l.length ≤ 60) : writeB l = (⟨#[]⟩, 3) := by
  unfold writeB
  rw [if_pos (by omega)]
theorem writeB_2 (h : l.length ≤ 60) (ha : l.all lineB = false) : writeB l = (⟨#[]⟩, 1) := by
  unfold writeB
  rw [if_neg (by omega), ha]
  rfl
theorem writeB_3 (h : l.length ≤ 60) (ha : l.all lineB = true) : writeB l = (writtenB l, 0) := by
  unfold writeB
  rw [if_neg (by omega), ha]
  rfl
theorem written26_at {t : ByteArray} (hk : Hid (KW w)) (hS : Hid (Strs w v l)) (hl : Hid (l.length ≤ 60)) (ha : Hid (l.all lineB = true)) (ht : Hid (writtenB l = t)) : Calls Tryz.prog 26 #[v] w fun e w' => e = .returned (.string t) ∧ Hid (Below w.heap.size w w') :=
  (written26_c hk.out hS.out hl.out ha.out).mono fun e w' hp => ⟨by rw [← ht.out]; exact hp.1, Lib.hid hp.2⟩
theorem written27_at {t : ByteArray} (hk : Hid (KW w)) (hS : Hid (Strs w v l)) (hl : Hid (l.length ≤ 60)) (ha : Hid (l.all lineB = true)) (ht : Hid (writtenB l = t)) : Calls Tryz.prog 27 #[v] w fun e w' => e = .returned (.string t) ∧ Hid (Below w.heap.size w w') :=
  (written27_c hk.out hS.out hl.out ha.out).mono fun e w' hp => ⟨by rw [← ht.out]; exact hp.1, Lib.hid hp.2⟩
set_option maxHeartbeats 2000000 in
theorem write13_c (HK : Hid (KW w)) (HS : Hid (Strs w v l)) : Calls Tryz.prog 13 #[v] w (PostWr (writeB l) w) := by
  obtain ⟨ad, c, rfl, HA⟩ := strs_open HS
  by_cases hl : l.length ≤ 60
  · have g1 : ¬ (60 : Int) < (l.length : Int) := by omega
    cases ha : l.all lineB
    · have HM := Lib.hid (writeB_2 hl ha)
      have HAL := Lib.hid ha
      clear ha
      go_enter Tryz.func13, Tryz.ntmps13
      go_wp2_with (go_at_call 24; refine (contains24_at HK HS HAL).mono ?_; rintro e w' ⟨rfl, rfl⟩)
      go_ret2
      exact postWr_mk HM.out (Below.refl _ _)
    · have HM := Lib.hid (writeB_3 hl ha)
      have HAL := Lib.hid ha
      have HL := Lib.hid hl
      obtain ⟨t, HT⟩ : ∃ t, Hid (writtenB l = t) := ⟨_, Lib.hid rfl⟩
      clear ha
      go_enter Tryz.func13, Tryz.ntmps13
      go_wp2_with (first
        | (go_at_call 24; refine (contains24_at HK HS HAL).mono ?_; rintro e w' ⟨rfl, rfl⟩)
        | (go_at_call 26; refine (written26_at HK HS HL HAL HT).mono ?_; rintro e w1 ⟨rfl, HB⟩)
        | go_in)
      go_ret2
      exact postWr_mk (by rw [HM.out, HT.out]) HB.out
  · have g1 : (60 : Int) < (l.length : Int) := by omega
    have HM := Lib.hid (writeB_1 hl)
    go_enter Tryz.func13, Tryz.ntmps13
    go_wp2
    go_ret2
    exact postWr_mk HM.out (Below.refl _ _)
set_option maxHeartbeats 2000000 in
theorem write14_c (HK : Hid (KW w)) (HS : Hid (Strs w v l)) : Calls Tryz.prog 14 #[v] w (PostWr (writeB l) w) := by
  obtain ⟨ad, c, rfl, HA⟩ := strs_open HS
  by_cases hl : l.length ≤ 60
  · have g1 : ¬ (60 : Int) < (l.length : Int) := by omega
    have HL := Lib.hid hl
    go_enter Tryz.func14, Tryz.ntmps14
    go_wp2
    go_loopw [4] (fun iv wr => ∃ (k : Nat), k ≤ l.length ∧ iv = .int .i64 k ∧ Hid (∀ j, j < k → lineB (l.getD j ByteArray.empty) = true) ∧ wr = w) (fun iv _ => l.length - (intOf iv).toNat)
    case atStart => exact ⟨0, by omega, rfl, Lib.hid fun j hj => absurd hj (by omega), rfl⟩
    case round =>
      obtain ⟨k, hk', rfl, HLL, rfl⟩ := hrel
      by_cases hlt : k < l.length
      · obtain ⟨b, o, rfl, k1⟩ := HA.out.2 k hlt
        have h1 := k1 k hlt
        clear k1
        obtain ⟨s, HSS⟩ : ∃ s, Hid (s = l.getD k ByteArray.empty) := ⟨_, Lib.hid rfl⟩
        rw [← HSS.out] at h1
        cases hL : lineB s
        · have HB := Lib.hid hL
          have HM := Lib.hid (writeB_2 hl (all_false_of hlt (by rw [← HSS.out]; exact hL)))
          clear hL
          go_wp2_with (go_at_call 23; refine (line23_any HK HB).mono ?_; rintro e w' ⟨rfl, rfl⟩)
          go_ret2
          exact postWr_mk HM.out (Below.refl _ _)
        · have HB := Lib.hid hL
          clear hL
          go_wp2_with (go_at_call 23; refine (line23_any HK HB).mono ?_; rintro e w' ⟨rfl, rfl⟩)
          go_roundw
          case rel => exact ⟨k + 1, by omega, by go_num, Lib.hid (lines_next HLL.out (by rw [← HSS.out]; exact HB.out)), by first | trivial | rfl⟩
          case measure => simp [intOf]; omega
      · obtain rfl : k = l.length := by omega
        have HAL := Lib.hid (all_true_of HLL.out)
        have HM := Lib.hid (writeB_3 hl HAL.out)
        obtain ⟨t, HT⟩ : ∃ t, Hid (writtenB l = t) := ⟨_, Lib.hid rfl⟩
        go_wp2_with (go_at_call 27; refine (written27_at HK HS HL HAL HT).mono ?_; rintro e w1 ⟨rfl, HB⟩)
        go_ret2
        exact postWr_mk (by rw [HM.out, HT.out]) HB.out
  · have g1 : (60 : Int) < (l.length : Int) := by omega
    have HM := Lib.hid (writeB_1 hl)
    go_enter Tryz.func14, Tryz.ntmps14
    go_wp2
    go_ret2
    exact postWr_mk HM.out (Below.refl _ _)
theorem write13_at {s : ByteArray} {x : Int} (hk : Hid (KW w)) (hS : Hid (Strs w v l)) (h : Hid (writeB l = (s, x))) : Calls Tryz.prog 13 #[v] w fun e w' => e = .returned (.tuple #[.string s, .int .i64 x]) ∧ Hid (Below w.heap.size w w') :=
  (write13_c hk hS).mono fun e w' hp => by
    rw [h.out] at hp
    exact ⟨hp.1, Lib.hid hp.2⟩
theorem write14_at {s : ByteArray} {x : Int} (hk : Hid (KW w)) (hS : Hid (Strs w v l)) (h : Hid (writeB l = (s, x))) : Calls Tryz.prog 14 #[v] w fun e w' => e = .returned (.tuple #[.string s, .int .i64 x]) ∧ Hid (Below w.heap.size w w') :=
  (write14_c hk hS).mono fun e w' hp => by
    rw [h.out] at hp
    exact ⟨hp.1, Lib.hid hp.2⟩
theorem writeB_cases {s : ByteArray} {x : Int} (h : writeB l = (s, x)) : (x = 3 ∨ x = 1) ∨ (x = 0 ∧ s.size ≤ 131072 ∧ readB 60 0 s [] = (l, ⟨#[]⟩)) := by
  by_cases hl : l.length ≤ 60
  · cases ha : l.all lineB
    · rw [writeB_2 hl ha] at h
      simp only [Prod.mk.injEq] at h
      exact .inl (.inr h.2.symm)
    · rw [writeB_3 hl ha] at h
      simp only [Prod.mk.injEq] at h
      obtain ⟨rfl, rfl⟩ := h
      refine .inr ⟨rfl, ?_, read_write ha hl⟩
      unfold writtenB
      rw [ofL_size]
      have h3 := writtenL_len l 0 ha
      have h5 := Nat.mul_le_mul_left 209 hl
      omega
  · rw [writeB_1 hl] at h
    simp only [Prod.mk.injEq] at h
    exact .inl (.inl h.2.symm)
/-- The sums, whatever else has come. -/
theorem sum15_held {w0 W : World} {b o : Nat} {x : Value} {n m : Int} {s : ByteArray} (hb : Hid (b < w0.heap.size)) (h : Hid (Below w0.heap.size w0 W)) (hc : W.cell? ⟨b, o, none⟩ = some x) (hs : Hid (s.size ≤ 9223372036854775807)) (hm : Hid (sumB n s = m)) :
    Calls Tryz.prog 15 #[.int .i64 n, .string s] W fun e W' => e = .returned (.int .i64 m) ∧ Hid (Below w0.heap.size w0 W') ∧ W'.cell? ⟨b, o, none⟩ = some x :=
  (sum15_big hs hm).mono fun e W' hp => ⟨hp.1, bel_next h hp.2, held_next hb.out h hc hp.2⟩
theorem sum16_held {w0 W : World} {b o : Nat} {x : Value} {n m : Int} {s : ByteArray} (hb : Hid (b < w0.heap.size)) (h : Hid (Below w0.heap.size w0 W)) (hc : W.cell? ⟨b, o, none⟩ = some x) (hs : Hid (s.size ≤ 9223372036854775807)) (hm : Hid (sumB n s = m)) :
    Calls Tryz.prog 16 #[.int .i64 n, .string s] W fun e W' => e = .returned (.int .i64 m) ∧ Hid (Below w0.heap.size w0 W') ∧ W'.cell? ⟨b, o, none⟩ = some x :=
  (sum16_big hs hm).mono fun e W' hp => ⟨hp.1, bel_next h hp.2, held_next hb.out h hc hp.2⟩
theorem strs_back {w0 W : World} (h : Hid (Strs w0 v l)) (hb : Hid (Below w0.heap.size w0 W)) : Hid (Strs W v l) := Lib.hid (h.out.below hb.out)
set_option maxHeartbeats 8000000 in
theorem law5_c {n : Int} (hk : KW w) (hkn : KnownAt w) (hS : Strs w v l) (hz : ∀ k, k < l.length → (l.getD k ByteArray.empty).size ≤ 9223372036854775807) : Calls Tryz.prog 5 #[v, .int .i64 n] w (PostB true w) := by
  have HK := Lib.hid hk
  have HKN := Lib.hid hkn
  have HSS := Lib.hid hS
  have HZ := Lib.hid hz
  have HW : Hid (Below w.heap.size w w) := Lib.hid (Below.refl _ _)
  obtain ⟨ad, c, rfl, HA⟩ := strs_open HSS
  obtain ⟨⟨s, x⟩, HR⟩ : ∃ p, Hid (writeB l = p) := ⟨_, Lib.hid rfl⟩
  have hn := HA.out.1
  clear hk hkn hS hz
  go_enter Tryz.func5, Tryz.ntmps5
  go_wp2_with (first
    | (go_at_call 12; refine (over12_c HSS).mono ?_; rintro e w' ⟨r, rfl, hw'⟩; obtain rfl := hw'.symm)
    | (go_at_call 6; refine (known_at6 HKN HW).mono ?_; rintro e w4 ⟨rfl, HB4⟩)
    | (go_at_call 13; refine (write13_at HK HSS HR).mono ?_; rintro e w1 ⟨rfl, HB1⟩; have HK1 := kw_next HK HB1; have HW1 := bel_next HW HB1; have HS1 := strs_back HSS HW1)
    | (go_at_call 14; refine (write14_at HK1 HS1 HR).mono ?_; rintro e w2 ⟨rfl, HB2⟩; have HK2 := kw_next HK1 HB2; have HW2 := bel_next HW1 HB2)
    | go_in)
  · go_ret
    exact postB_mk rfl HB4.out
  · go_loopw [9] (fun iv wr => ∃ (k : Nat), k ≤ l.length ∧ iv = .int .i64 k ∧ Hid (Below w.heap.size w wr)) (fun iv _ => l.length - (intOf iv).toNat)
    case atStart => exact ⟨0, by omega, rfl, HW2⟩
    case round =>
      obtain ⟨k, hk', rfl, HX⟩ := hrel
      obtain ⟨wo, rfl⟩ : ∃ wo : World, wo = wr := ⟨_, rfl⟩
      by_cases hlt : k < l.length
      · obtain ⟨b, o, rfl, k1⟩ := HA.out.2 k hlt
        have h0 := k1 k hlt
        have hbl : b < w.heap.size := by
          rcases Nat.lt_or_ge b w.heap.size with h2 | h2
          · exact h2
          · simp [World.cell?, Array.getElem?_eq_none h2] at h0
        have h1 : wo.cell? ⟨b, o + k, none⟩ = some (.string (l.getD k ByteArray.empty)) := (HX.out.cell (p := ⟨b, o + k, none⟩) hbl).trans h0
        clear k1 h0
        obtain ⟨t, HT⟩ : ∃ t, Hid (t = l.getD k ByteArray.empty) := ⟨_, Lib.hid rfl⟩
        have HTZ : Hid (t.size ≤ 9223372036854775807) := Lib.hid (by rw [HT.out]; exact HZ.out k hlt)
        rw [← HT.out] at h1
        have HBL := Lib.hid hbl
        clear hbl
        obtain ⟨m, HM⟩ : ∃ m, Hid (sumB n t = m) := ⟨_, Lib.hid rfl⟩
        go_wp2
        go_region_held3 (fun W => Hid (Below w.heap.size w W) ∧ W.cell? ⟨b, o + k, none⟩ = some (.string t))
          ((refine ⟨?_, ?_⟩ <;> first | assumption | exact hid_drew HX | exact hid_drew hW | go_simp))
          (first
            | (go_at_call 15; refine (sum15_held HBL (by first | assumption | exact hid_drew HX) (by first | assumption | go_simp) HTZ HM).mono ?_; rintro e W ⟨rfl, hW, g1⟩)
            | (go_at_call 16; refine (sum16_held HBL (by first | assumption | exact hid_drew HX) (by first | assumption | go_simp) HTZ HM).mono ?_; rintro e W ⟨rfl, hW, g1⟩))
        all_goals go_wp2
        all_goals go_roundw
        all_goals first
          | (refine ⟨k + 1, by omega, by go_num, ?_⟩; assumption)
          | (simp [intOf]; omega)
      · rcases writeB_cases HR.out with (rfl | rfl) | ⟨rfl, hsz, hrd⟩
        · go_wp2_with (go_at_call 6; refine (known_at6 HKN HX).mono ?_; rintro e w4 ⟨rfl, HB4⟩; have HW4 := bel_next HX HB4)
          go_ret
          exact postB_mk rfl HW4.out
        · go_wp2_with (go_at_call 6; refine (known_at6 HKN HX).mono ?_; rintro e w4 ⟨rfl, HB4⟩; have HW4 := bel_next HX HB4)
          go_ret
          exact postB_mk rfl HW4.out
        · have HSZ := Lib.hid hsz
          have HRD := Lib.hid hrd
          have HKX : Hid (KW wo) := Lib.hid (HK.out.below HX.out)
          clear hsz hrd
          go_wp2_with (first
            | (go_at_call 7; refine (read7_at HKX HSZ HRD).mono ?_; rintro e w3 ⟨v3, rfl, HS3, HB3⟩; have HW3 := bel_next HX HB3; have HT3 := strs_back HSS HW3)
            | (go_at_call 9; refine (same_at HS3 HT3).mono ?_; rintro e w4 ⟨rfl, HB4⟩; have HW4 := bel_next HW3 HB4)
            | (go_at_call 6; refine (known_at6 HKN HW4).mono ?_; rintro e w5 ⟨rfl, HB5⟩; have HW5 := bel_next HW4 HB5)
            | go_in)
          go_ret
          exact postB_mk rfl HW5.out
end
end Go.Proofs.YtopiclpameaglaaGreatDoor
