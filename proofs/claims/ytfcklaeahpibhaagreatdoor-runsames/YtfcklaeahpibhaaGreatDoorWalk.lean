/-
The law itself walked: two outcomes of the reader are compared by both sides alike; the condition: known() answers true.
-/
import Derived.Test.YtfcklaeahpibhaaGreatDoorProg
import Derived.WalkKit
import Derived.WalkMore
import Derived.LoopTactic
import Derived.Deep.LoopGhost
import Derived.Deep.QuietTactic
import Derived.Deep.Draws
import Derived.BigQuiet
import Derived.Outline
import Derived.Below
import Derived.Lib.Hide
import Derived.KernelRfl
import Derived.Lib.Strings
import Derived.Lib.SmallJoins
import Derived.Deep.RegionHeld3
import Derived.StillTactics
import Derived.Laws.Pointers
import Derived.WalkSpells
import Derived.SliceStrings
import Derived.ChangeSame
set_option linter.unusedSimpArgs false
set_option linter.unusedVariables false
set_option maxRecDepth 1000000
namespace Go.Proofs.YtfcklaeahpibhaaGreatDoor
open Go Go.RowKit
/-- Two lists of texts are equal. -/
def eqT (xs ys : List ByteArray) : Bool := decide (xs = ys)
theorem toList_ne {s t : ByteArray} (h : ¬ s = t) : (s.toList == t.toList) = false := by
  rw [beq_eq_false_iff_ne]
  intro e
  rw [Lib.toList_data, Lib.toList_data] at e
  apply h
  obtain ⟨⟨a⟩⟩ := s
  obtain ⟨⟨b⟩⟩ := t
  simp only at e
  rw [e]
theorem eqT_true {xs ys : List ByteArray} {n : Nat} (hx : xs.length = n) (hy : ys.length = n) (h : ∀ j, j < n → xs.getD j ByteArray.empty = ys.getD j ByteArray.empty) : eqT xs ys = true := by
  unfold eqT
  rw [decide_eq_true_iff]
  refine List.ext_getElem (hx.trans hy.symm) fun i h1 h2 => ?_
  have := h i (by omega)
  simpa [List.getD_eq_getElem?_getD, h1, h2] using this
theorem eqT_false {xs ys : List ByteArray} {k : Nat} (h : xs.getD k ByteArray.empty ≠ ys.getD k ByteArray.empty) : eqT xs ys = false := by
  unfold eqT
  rw [decide_eq_false_iff_not]
  rintro rfl
  exact h rfl
theorem eqT_len {xs ys : List ByteArray} (h : xs.length ≠ ys.length) : eqT xs ys = false := by
  unfold eqT
  rw [decide_eq_false_iff_not]
  rintro rfl
  exact h rfl
theorem all_next {xs ys : List ByteArray} {k : Nat} (h : ∀ j, j < k → xs.getD j ByteArray.empty = ys.getD j ByteArray.empty) (he : xs.getD k ByteArray.empty = ys.getD k ByteArray.empty) :
    ∀ j, j < k + 1 → xs.getD j ByteArray.empty = ys.getD j ByteArray.empty := fun j hj => by
  rcases Nat.lt_succ_iff_lt_or_eq.1 hj with h1 | rfl
  · exact h j h1
  · exact he
/-- What a comparison of texts leaves. -/
def PostT (xs ys : List ByteArray) (w : World) (e : Ending) (w' : World) : Prop := e = .returned (.bool (eqT xs ys)) ∧ ∃ m, w' = w.drewN m
theorem postT_mk {xs ys : List ByteArray} {w : World} {b : Bool} (h : eqT xs ys = b) (m : Nat) : PostT xs ys w (.returned (.bool b)) (w.drewN m) := ⟨by rw [h], m, rfl⟩
theorem postT_mk2 {xs ys : List ByteArray} {w : World} {b : Bool} (h : eqT xs ys = b) (m n : Nat) : PostT xs ys w (.returned (.bool b)) ((w.drewN m).drewN n) := ⟨by rw [h], m + n, by rw [World.drewN_drewN]⟩
theorem same_row (b1 o1 c1 b2 o2 c2 n : Nat) (xs ys : List ByteArray) (w : World) (hn : n ≤ 9223372036854775807) (hx : xs.length = n) (hy : ys.length = n)
    (k1 : ∀ j, j < n → w.cell? ⟨b1, o1 + j, none⟩ = some (.string (xs.getD j ByteArray.empty))) (k2 : ∀ j, j < n → w.cell? ⟨b2, o2 + j, none⟩ = some (.string (ys.getD j ByteArray.empty))) :
    Calls Tryz.prog 10 #[.slice (some ⟨b1, o1, none⟩) n c1, .slice (some ⟨b2, o2, none⟩) n c2] w (PostT xs ys w) := by
  go_enter Tryz.func10, Tryz.ntmps10
  go_wp2
  go_loopw [5] (fun i wr => ∃ (k m : Nat), k ≤ n ∧ i = .int .i64 k ∧ (∀ j, j < k → xs.getD j ByteArray.empty = ys.getD j ByteArray.empty) ∧ wr = w.drewN m) (fun i _ => n - (intOf i).toNat)
  case atStart => exact ⟨0, 0, by omega, rfl, fun j hj => absurd hj (by omega), rfl⟩
  case round =>
    obtain ⟨k, m, hk, rfl, hall, rfl⟩ := hrel
    have HA := Lib.hid hall
    clear hall
    by_cases hlt : k < n
    · have h1 := k1 k hlt
      have h2 := k2 k hlt
      have H1 := Lib.hid k1
      have H2 := Lib.hid k2
      clear k1 k2
      obtain ⟨s, HS⟩ : ∃ s, Hid (s = xs.getD k ByteArray.empty) := ⟨_, rfl⟩
      obtain ⟨t, HT⟩ : ∃ t, Hid (t = ys.getD k ByteArray.empty) := ⟨_, rfl⟩
      rw [← HS.out] at h1
      rw [← HT.out] at h2
      by_cases he : s = t
      · obtain rfl := he
        go_wp2
        go_quiet (fail)
        go_wp2
        go_roundw
        case rel => exact ⟨k + 1, _, by omega, by go_num, all_next HA.out (HS.out.symm.trans HT.out), rfl⟩
        case measure => simp [intOf]; omega
      · have hne := toList_ne he
        go_wp2
        go_quiet (fail)
        go_wp2
        go_ret
        exact postT_mk2 (b := false) (eqT_false fun e => he (HS.out.trans (e.trans HT.out.symm))) m nq
    · obtain rfl : k = n := by omega
      go_wp2
      go_ret
      exact postT_mk (eqT_true hx hy HA.out) m
theorem equal_row (b1 o1 c1 b2 o2 c2 n : Nat) (xs ys : List ByteArray) (w : World) (hn : n ≤ 9223372036854775807) (hx : xs.length = n) (hy : ys.length = n)
    (k1 : ∀ j, j < n → w.cell? ⟨b1, o1 + j, none⟩ = some (.string (xs.getD j ByteArray.empty))) (k2 : ∀ j, j < n → w.cell? ⟨b2, o2 + j, none⟩ = some (.string (ys.getD j ByteArray.empty))) :
    Calls Tryz.prog 11 #[.slice (some ⟨b1, o1, none⟩) n c1, .slice (some ⟨b2, o2, none⟩) n c2] w (PostT xs ys w) := by
  go_enter Tryz.func11, Tryz.ntmps11
  go_wp2
  go_loopw [13] (fun i wr => ∃ (k m : Nat), k ≤ n ∧ i = .int .i64 k ∧ (∀ j, j < k → xs.getD j ByteArray.empty = ys.getD j ByteArray.empty) ∧ wr = w.drewN m) (fun i _ => n - (intOf i).toNat)
  case atStart => exact ⟨0, 0, by omega, rfl, fun j hj => absurd hj (by omega), rfl⟩
  case round =>
    obtain ⟨k, m, hk, rfl, hall, rfl⟩ := hrel
    have HA := Lib.hid hall
    clear hall
    by_cases hlt : k < n
    · have h1 := k1 k hlt
      have h2 := k2 k hlt
      have H1 := Lib.hid k1
      have H2 := Lib.hid k2
      clear k1 k2
      obtain ⟨s, HS⟩ : ∃ s, Hid (s = xs.getD k ByteArray.empty) := ⟨_, rfl⟩
      obtain ⟨t, HT⟩ : ∃ t, Hid (t = ys.getD k ByteArray.empty) := ⟨_, rfl⟩
      rw [← HS.out] at h1
      rw [← HT.out] at h2
      by_cases he : s = t
      · obtain rfl := he
        go_wp2
        go_quiet (fail)
        go_wp2
        go_roundw
        case rel => exact ⟨k + 1, _, by omega, by go_num, all_next HA.out (HS.out.symm.trans HT.out), rfl⟩
        case measure => simp [intOf]; omega
      · have hne := toList_ne he
        go_wp2
        go_quiet (fail)
        go_wp2
        go_ret
        exact postT_mk2 (b := false) (eqT_false fun e => he (HS.out.trans (e.trans HT.out.symm))) m nq
    · obtain rfl : k = n := by omega
      go_wp2
      go_ret
      exact postT_mk (eqT_true hx hy HA.out) m
theorem same_len (a1 a2 : Option Addr) (n1 n2 c1 c2 : Nat) (xs ys : List ByteArray) (w : World) (hx : xs.length = n1) (hy : ys.length = n2) (hne : n1 ≠ n2) :
    Calls Tryz.prog 10 #[.slice a1 n1 c1, .slice a2 n2 c2] w (PostT xs ys w) := by
  have h1 : ((n1 : Int) == (n2 : Int)) = false := by simp; omega
  have HE := Lib.hid (eqT_len (xs := xs) (ys := ys) (by omega))
  clear hx hy hne
  go_enter Tryz.func10, Tryz.ntmps10
  go_wp2
  go_ret
  exact postT_mk HE.out 0
theorem same_zero (a1 a2 : Option Addr) (c1 c2 : Nat) (w : World) :
    Calls Tryz.prog 10 #[.slice a1 0 c1, .slice a2 0 c2] w (PostT [] [] w) := by
  go_enter Tryz.func10, Tryz.ntmps10
  go_wp2
  refine wp_loop_rounds 1 ?_
  rw [rounds_succ]
  go_wp2
  go_ret
  exact postT_mk (xs := []) (ys := []) (b := true) rfl 0
theorem equal_len (a1 a2 : Option Addr) (n1 n2 c1 c2 : Nat) (xs ys : List ByteArray) (w : World) (hx : xs.length = n1) (hy : ys.length = n2) (hne : n1 ≠ n2) :
    Calls Tryz.prog 11 #[.slice a1 n1 c1, .slice a2 n2 c2] w (PostT xs ys w) := by
  have h1 : ((n1 : Int) == (n2 : Int)) = false := by simp; omega
  have HE := Lib.hid (eqT_len (xs := xs) (ys := ys) (by omega))
  clear hx hy hne
  go_enter Tryz.func11, Tryz.ntmps11
  go_wp2
  go_ret
  exact postT_mk HE.out 0
theorem equal_zero (a1 a2 : Option Addr) (c1 c2 : Nat) (w : World) :
    Calls Tryz.prog 11 #[.slice a1 0 c1, .slice a2 0 c2] w (PostT [] [] w) := by
  go_enter Tryz.func11, Tryz.ntmps11
  go_wp2
  refine wp_loop_rounds 1 ?_
  rw [rounds_succ]
  go_wp2
  go_ret
  exact postT_mk (xs := []) (ys := []) (b := true) rfl 0
/-- A slice of strings, as a list of them. -/
def Strs (w : World) (v : Value) (xs : List ByteArray) : Prop :=
  xs.length ≤ 9223372036854775807 ∧ ∃ ad c, v = .slice ad xs.length c ∧ (xs.length = 0 ∨ ∃ b o, ad = some ⟨b, o, none⟩ ∧ ∀ j, j < xs.length → w.cell? ⟨b, o + j, none⟩ = some (.string (xs.getD j ByteArray.empty)))
theorem same_c {w : World} {v1 v2 : Value} {xs ys : List ByteArray} (h1 : Strs w v1 xs) (h2 : Strs w v2 ys) : Calls Tryz.prog 10 #[v1, v2] w (PostT xs ys w) := by
  obtain ⟨hn, a1, c1, rfl, h1⟩ := h1
  obtain ⟨_, a2, c2, rfl, h2⟩ := h2
  by_cases hl : xs.length = ys.length
  · by_cases h0 : xs.length = 0
    · obtain rfl := List.eq_nil_of_length_eq_zero h0
      obtain rfl := List.eq_nil_of_length_eq_zero (hl.symm.trans h0)
      exact same_zero a1 a2 c1 c2 w
    · obtain ⟨b1, o1, rfl, k1⟩ := h1.resolve_left h0
      obtain ⟨b2, o2, rfl, k2⟩ := h2.resolve_left (by omega)
      rw [← hl] at k2 ⊢
      exact same_row b1 o1 c1 b2 o2 c2 xs.length xs ys w hn rfl hl.symm k1 k2
  · exact same_len a1 a2 _ _ c1 c2 xs ys w rfl rfl hl
theorem equal_c {w : World} {v1 v2 : Value} {xs ys : List ByteArray} (h1 : Strs w v1 xs) (h2 : Strs w v2 ys) : Calls Tryz.prog 11 #[v1, v2] w (PostT xs ys w) := by
  obtain ⟨hn, a1, c1, rfl, h1⟩ := h1
  obtain ⟨_, a2, c2, rfl, h2⟩ := h2
  by_cases hl : xs.length = ys.length
  · by_cases h0 : xs.length = 0
    · obtain rfl := List.eq_nil_of_length_eq_zero h0
      obtain rfl := List.eq_nil_of_length_eq_zero (hl.symm.trans h0)
      exact equal_zero a1 a2 c1 c2 w
    · obtain ⟨b1, o1, rfl, k1⟩ := h1.resolve_left h0
      obtain ⟨b2, o2, rfl, k2⟩ := h2.resolve_left (by omega)
      rw [← hl] at k2 ⊢
      exact equal_row b1 o1 c1 b2 o2 c2 xs.length xs ys w hn rfl hl.symm k1 k2
  · exact equal_len a1 a2 _ _ c1 c2 xs ys w rfl rfl hl
end Go.Proofs.YtfcklaeahpibhaaGreatDoor

set_option maxRecDepth 1000000
namespace Go.Proofs.YtfcklaeahpibhaaGreatDoor
open Go Go.RowKit
theorem Strs.below {w w' : World} {v : Value} {xs : List ByteArray} (h : Strs w v xs) (hb : Below w.heap.size w w') : Strs w' v xs := by
  obtain ⟨hn, a, c, rfl, h⟩ := h
  refine ⟨hn, a, c, rfl, h.imp id ?_⟩
  rintro ⟨b, o, rfl, k⟩
  refine ⟨b, o, rfl, fun j hj => ?_⟩
  have h1 := k j hj
  have hlt : b < w.heap.size := by
    rcases Nat.lt_or_ge b w.heap.size with h2 | h2
    · exact h2
    · simp [World.cell?, Array.getElem?_eq_none h2] at h1
  rw [hb.cell (p := ⟨b, o + j, none⟩) hlt]
  exact h1
/-- An outcome. -/
structure Oc where
  k : Int
  y : Int
  v : Value
  xs : List ByteArray
  s : ByteArray
def Oc.val (a : Oc) : Value := .agg #[.int .i64 a.k, .int .i64 a.y, a.v, .string a.s]
def Oc.ok (w : World) (a : Oc) : Prop := Strs w a.v a.xs
def sameO (a b : Oc) : Bool := decide (a.k = b.k) && decide (a.y = b.y) && eqT a.xs b.xs && decide (a.s = b.s)
/-- What a question leaves: the answer; nothing old has turned. -/
def PostB (r : Bool) (w : World) (e : Ending) (w' : World) : Prop := e = .returned (.bool r) ∧ Below w.heap.size w w'
theorem postB_mk {r b : Bool} {w w' : World} (h : r = b) (hb : Below w.heap.size w w') : PostB r w (.returned (.bool b)) w' := ⟨by rw [h], hb⟩
theorem below2 (w : World) (o1 o2 : Obj) (n : Nat) : Below w.heap.size w (((w.alloc o1).alloc o2).drewN n) :=
  let h := ((Below.refl w.heap.size w).alloc (Nat.le_refl _) o1).alloc (by simp) o2
  ⟨h.os, h.tape, h.output, h.size, h.block⟩
theorem Strs.two {w : World} {v : Value} {xs : List ByteArray} (h : Strs w v xs) (o1 o2 : Obj) : Strs ((w.alloc o1).alloc o2) v xs := h.below (below2 w o1 o2 0)
theorem equal_at {w : World} {v1 v2 : Value} {xs ys : List ByteArray} {b : Bool} (h1 : Hid (Strs w v1 xs)) (h2 : Hid (Strs w v2 ys)) (he : Hid (eqT xs ys = b)) (o1 o2 : Obj) :
    Calls Tryz.prog 11 #[v1, v2] ((w.alloc o1).alloc o2) fun e w' => e = .returned (.bool b) ∧ ∃ m, w' = ((w.alloc o1).alloc o2).drewN m :=
  (equal_c (h1.out.two o1 o2) (h2.out.two o1 o2)).mono fun e w' h => by rw [← he.out]; exact h
theorem same_at {w : World} {v1 v2 : Value} {xs ys : List ByteArray} {b : Bool} (h1 : Hid (Strs w v1 xs)) (h2 : Hid (Strs w v2 ys)) (he : Hid (eqT xs ys = b)) (o1 o2 : Obj) :
    Calls Tryz.prog 10 #[v1, v2] ((w.alloc o1).alloc o2) fun e w' => e = .returned (.bool b) ∧ ∃ m, w' = ((w.alloc o1).alloc o2).drewN m :=
  (same_c (h1.out.two o1 o2) (h2.out.two o1 o2)).mono fun e w' h => by rw [← he.out]; exact h
set_option maxHeartbeats 1000000 in
theorem same5_1 (k1 k2 y1 y2 : Int) (v1 v2 : Value) (s1 s2 : ByteArray) (xs ys : List ByteArray) (w : World) (h1 : Hid (Strs w v1 xs)) (h2 : Hid (Strs w v2 ys)) (h : ¬ k1 = k2) :
    Calls Tryz.prog 5 #[.agg #[.int .i64 k1, .int .i64 y1, v1, .string s1], .agg #[.int .i64 k2, .int .i64 y2, v2, .string s2]] w (PostB false w) := by
  have hk : (k1 == k2) = false := by simpa using h
  clear h
  go_enter Tryz.func5, Tryz.ntmps5
  go_wp2
  go_ret
  exact postB_mk rfl (below2 _ _ _ 0)
set_option maxHeartbeats 1000000 in
theorem same5_2 (k1 y1 y2 : Int) (v1 v2 : Value) (s1 s2 : ByteArray) (xs ys : List ByteArray) (w : World) (h1 : Hid (Strs w v1 xs)) (h2 : Hid (Strs w v2 ys)) (h : ¬ y1 = y2) :
    Calls Tryz.prog 5 #[.agg #[.int .i64 k1, .int .i64 y1, v1, .string s1], .agg #[.int .i64 k1, .int .i64 y2, v2, .string s2]] w (PostB false w) := by
  have hk : (y1 == y2) = false := by simpa using h
  clear h
  go_enter Tryz.func5, Tryz.ntmps5
  go_wp2
  go_ret
  exact postB_mk rfl (below2 _ _ _ 0)
set_option maxHeartbeats 1000000 in
theorem same5_3 (k1 y1 : Int) (v1 v2 : Value) (s1 s2 : ByteArray) (xs ys : List ByteArray) (w : World) (h1 : Hid (Strs w v1 xs)) (h2 : Hid (Strs w v2 ys)) (he : Hid (eqT xs ys = false)) :
    Calls Tryz.prog 5 #[.agg #[.int .i64 k1, .int .i64 y1, v1, .string s1], .agg #[.int .i64 k1, .int .i64 y1, v2, .string s2]] w (PostB false w) := by
  go_enter Tryz.func5, Tryz.ntmps5
  go_wp2_with (go_at_call 11; refine (equal_at h1 h2 he _ _).mono ?_; rintro e w' ⟨rfl, m, rfl⟩)
  go_ret
  exact postB_mk rfl (below2 _ _ _ m)
set_option maxHeartbeats 1000000 in
theorem same5_4 (k1 y1 : Int) (v1 v2 : Value) (s1 s2 : ByteArray) (xs ys : List ByteArray) (w : World) (h1 : Hid (Strs w v1 xs)) (h2 : Hid (Strs w v2 ys)) (he : Hid (eqT xs ys = true)) (h : ¬ s1 = s2) :
    Calls Tryz.prog 5 #[.agg #[.int .i64 k1, .int .i64 y1, v1, .string s1], .agg #[.int .i64 k1, .int .i64 y1, v2, .string s2]] w (PostB false w) := by
  have hs := toList_ne h
  clear h
  go_enter Tryz.func5, Tryz.ntmps5
  go_wp2_with (go_at_call 11; refine (equal_at h1 h2 he _ _).mono ?_; rintro e w' ⟨rfl, m, rfl⟩)
  go_ret
  exact postB_mk rfl (below2 _ _ _ m)
set_option maxHeartbeats 1000000 in
theorem same5_5 (k1 y1 : Int) (v1 v2 : Value) (s1 : ByteArray) (xs ys : List ByteArray) (w : World) (h1 : Hid (Strs w v1 xs)) (h2 : Hid (Strs w v2 ys)) (he : Hid (eqT xs ys = true)) :
    Calls Tryz.prog 5 #[.agg #[.int .i64 k1, .int .i64 y1, v1, .string s1], .agg #[.int .i64 k1, .int .i64 y1, v2, .string s1]] w (PostB true w) := by
  go_enter Tryz.func5, Tryz.ntmps5
  go_wp2_with (go_at_call 11; refine (equal_at h1 h2 he _ _).mono ?_; rintro e w' ⟨rfl, m, rfl⟩)
  go_ret
  exact postB_mk rfl (below2 _ _ _ m)
set_option maxHeartbeats 1000000 in
theorem same6_1 (k1 k2 y1 y2 : Int) (v1 v2 : Value) (s1 s2 : ByteArray) (xs ys : List ByteArray) (w : World) (h1 : Hid (Strs w v1 xs)) (h2 : Hid (Strs w v2 ys)) (h : ¬ k1 = k2) :
    Calls Tryz.prog 6 #[.agg #[.int .i64 k1, .int .i64 y1, v1, .string s1], .agg #[.int .i64 k2, .int .i64 y2, v2, .string s2]] w (PostB false w) := by
  have hk : (k1 == k2) = false := by simpa using h
  clear h
  go_enter Tryz.func6, Tryz.ntmps6
  go_wp2
  go_ret
  exact postB_mk rfl (below2 _ _ _ 0)
set_option maxHeartbeats 1000000 in
theorem same6_2 (k1 y1 y2 : Int) (v1 v2 : Value) (s1 s2 : ByteArray) (xs ys : List ByteArray) (w : World) (h1 : Hid (Strs w v1 xs)) (h2 : Hid (Strs w v2 ys)) (h : ¬ y1 = y2) :
    Calls Tryz.prog 6 #[.agg #[.int .i64 k1, .int .i64 y1, v1, .string s1], .agg #[.int .i64 k1, .int .i64 y2, v2, .string s2]] w (PostB false w) := by
  have hk : (y1 == y2) = false := by simpa using h
  clear h
  go_enter Tryz.func6, Tryz.ntmps6
  go_wp2
  go_ret
  exact postB_mk rfl (below2 _ _ _ 0)
set_option maxHeartbeats 1000000 in
theorem same6_3 (k1 y1 : Int) (v1 v2 : Value) (s1 s2 : ByteArray) (xs ys : List ByteArray) (w : World) (h1 : Hid (Strs w v1 xs)) (h2 : Hid (Strs w v2 ys)) (h : ¬ s1 = s2) :
    Calls Tryz.prog 6 #[.agg #[.int .i64 k1, .int .i64 y1, v1, .string s1], .agg #[.int .i64 k1, .int .i64 y1, v2, .string s2]] w (PostB false w) := by
  have hs := toList_ne h
  clear h
  go_enter Tryz.func6, Tryz.ntmps6
  go_wp2
  go_ret
  exact postB_mk rfl (below2 _ _ _ 0)
set_option maxHeartbeats 1000000 in
theorem same6_4 (k1 y1 : Int) (v1 v2 : Value) (s1 : ByteArray) (xs ys : List ByteArray) (w : World) (h1 : Hid (Strs w v1 xs)) (h2 : Hid (Strs w v2 ys)) (he : Hid (eqT xs ys = false)) :
    Calls Tryz.prog 6 #[.agg #[.int .i64 k1, .int .i64 y1, v1, .string s1], .agg #[.int .i64 k1, .int .i64 y1, v2, .string s1]] w (PostB false w) := by
  go_enter Tryz.func6, Tryz.ntmps6
  go_wp2_with (go_at_call 10; refine (same_at h1 h2 he _ _).mono ?_; rintro e w' ⟨rfl, m, rfl⟩)
  go_ret
  exact postB_mk rfl (below2 _ _ _ m)
set_option maxHeartbeats 1000000 in
theorem same6_5 (k1 y1 : Int) (v1 v2 : Value) (s1 : ByteArray) (xs ys : List ByteArray) (w : World) (h1 : Hid (Strs w v1 xs)) (h2 : Hid (Strs w v2 ys)) (he : Hid (eqT xs ys = true)) :
    Calls Tryz.prog 6 #[.agg #[.int .i64 k1, .int .i64 y1, v1, .string s1], .agg #[.int .i64 k1, .int .i64 y1, v2, .string s1]] w (PostB true w) := by
  go_enter Tryz.func6, Tryz.ntmps6
  go_wp2_with (go_at_call 10; refine (same_at h1 h2 he _ _).mono ?_; rintro e w' ⟨rfl, m, rfl⟩)
  go_ret
  exact postB_mk rfl (below2 _ _ _ m)
theorem sameF5 {w : World} {a b : Oc} (ha : a.ok w) (hb : b.ok w) : Calls Tryz.prog 5 #[a.val, b.val] w (PostB (sameO a b) w) := by
  obtain ⟨k1, y1, v1, xs, s1⟩ := a
  obtain ⟨k2, y2, v2, ys, s2⟩ := b
  have H1 : Hid (Strs w v1 xs) := Lib.hid ha
  have H2 : Hid (Strs w v2 ys) := Lib.hid hb
  unfold sameO Oc.val
  simp only
  by_cases h : k1 = k2
  · subst h
    by_cases h : y1 = y2
    · subst h
      cases he : eqT xs ys
      · rw [decide_eq_true rfl, decide_eq_true rfl]; exact same5_3 _ _ _ _ _ _ _ _ _ H1 H2 (Lib.hid he)
      · by_cases h : s1 = s2
        · subst h
          rw [decide_eq_true rfl, decide_eq_true rfl, decide_eq_true rfl]; exact same5_5 _ _ _ _ _ _ _ _ H1 H2 (Lib.hid he)
        · rw [decide_eq_false h, Bool.and_false]; exact same5_4 _ _ _ _ _ _ _ _ _ H1 H2 (Lib.hid he) h
    · rw [decide_eq_false h]; simp only [Bool.and_false, Bool.false_and]; exact same5_2 _ _ _ _ _ _ _ _ _ _ H1 H2 h
  · rw [decide_eq_false h]; simp only [Bool.false_and]; exact same5_1 _ _ _ _ _ _ _ _ _ _ _ H1 H2 h
theorem sameF6 {w : World} {a b : Oc} (ha : a.ok w) (hb : b.ok w) : Calls Tryz.prog 6 #[a.val, b.val] w (PostB (sameO a b) w) := by
  obtain ⟨k1, y1, v1, xs, s1⟩ := a
  obtain ⟨k2, y2, v2, ys, s2⟩ := b
  have H1 : Hid (Strs w v1 xs) := Lib.hid ha
  have H2 : Hid (Strs w v2 ys) := Lib.hid hb
  unfold sameO Oc.val
  simp only
  by_cases h : k1 = k2
  · subst h
    by_cases h : y1 = y2
    · subst h
      by_cases h : s1 = s2
      · subst h
        cases he : eqT xs ys
        · rw [decide_eq_true rfl, decide_eq_true rfl]; exact same6_4 _ _ _ _ _ _ _ _ H1 H2 (Lib.hid he)
        · rw [decide_eq_true rfl, decide_eq_true rfl, decide_eq_true rfl]; exact same6_5 _ _ _ _ _ _ _ _ H1 H2 (Lib.hid he)
      · rw [decide_eq_false h, Bool.and_false]; exact same6_3 _ _ _ _ _ _ _ _ _ H1 H2 h
    · rw [decide_eq_false h]; simp only [Bool.and_false, Bool.false_and]; exact same6_2 _ _ _ _ _ _ _ _ _ _ H1 H2 h
  · rw [decide_eq_false h]; simp only [Bool.false_and]; exact same6_1 _ _ _ _ _ _ _ _ _ _ _ H1 H2 h
end Go.Proofs.YtfcklaeahpibhaaGreatDoor

set_option maxRecDepth 1000000
namespace Go.Proofs.YtfcklaeahpibhaaGreatDoor
open Go Go.RowKit
def alikeO (a b : Oc) : Bool := decide (a.k = 2) || decide (b.k = 2) || sameO a b
theorem below_two {w w' : World} {o1 o2 : Obj} (h : Below ((w.alloc o1).alloc o2).heap.size ((w.alloc o1).alloc o2) w') : Below w.heap.size w w' :=
  (below2 w o1 o2 0).trans (h.mono (by simp; omega))
theorem bcell2 {W w1 : World} (hb : Below W.heap.size W w1) : (∀ b o, b < W.heap.size → w1.cell? ⟨b, o, none⟩ = W.cell? ⟨b, o, none⟩) ∧ (∀ b o, b < W.heap.size → w1.frozen? ⟨b, o, none⟩ = W.frozen? ⟨b, o, none⟩) :=
  ⟨fun b o h => hb.cell (p := ⟨b, o, none⟩) h, fun b o h => hb.frozen (p := ⟨b, o, none⟩) h⟩
theorem sameF5_at {w : World} {k1 y1 k2 y2 : Int} {v1 v2 : Value} {xs ys : List ByteArray} {s1 s2 : ByteArray} {r : Bool} (h1 : Hid (Strs w v1 xs)) (h2 : Hid (Strs w v2 ys)) (hr : Hid (sameO ⟨k1, y1, v1, xs, s1⟩ ⟨k2, y2, v2, ys, s2⟩ = r)) (o1 o2 : Obj) :
    Calls Tryz.prog 5 #[.agg #[.int .i64 k1, .int .i64 y1, v1, .string s1], .agg #[.int .i64 k2, .int .i64 y2, v2, .string s2]] ((w.alloc o1).alloc o2) fun e w' => e = .returned (.bool r) ∧ Hid (Below ((w.alloc o1).alloc o2).heap.size ((w.alloc o1).alloc o2) w') :=
  (sameF5 (a := ⟨k1, y1, v1, xs, s1⟩) (b := ⟨k2, y2, v2, ys, s2⟩) (h1.out.two o1 o2) (h2.out.two o1 o2)).mono fun e w' h => ⟨by rw [← hr.out]; exact h.1, Lib.hid h.2⟩
theorem sameF6_at {w : World} {k1 y1 k2 y2 : Int} {v1 v2 : Value} {xs ys : List ByteArray} {s1 s2 : ByteArray} {r : Bool} (h1 : Hid (Strs w v1 xs)) (h2 : Hid (Strs w v2 ys)) (hr : Hid (sameO ⟨k1, y1, v1, xs, s1⟩ ⟨k2, y2, v2, ys, s2⟩ = r)) (o1 o2 : Obj) :
    Calls Tryz.prog 6 #[.agg #[.int .i64 k1, .int .i64 y1, v1, .string s1], .agg #[.int .i64 k2, .int .i64 y2, v2, .string s2]] ((w.alloc o1).alloc o2) fun e w' => e = .returned (.bool r) ∧ Hid (Below ((w.alloc o1).alloc o2).heap.size ((w.alloc o1).alloc o2) w') :=
  (sameF6 (a := ⟨k1, y1, v1, xs, s1⟩) (b := ⟨k2, y2, v2, ys, s2⟩) (h1.out.two o1 o2) (h2.out.two o1 o2)).mono fun e w' h => ⟨by rw [← hr.out]; exact h.1, Lib.hid h.2⟩
set_option maxHeartbeats 1000000 in
theorem alike7_1 (y1 k2 y2 : Int) (v1 v2 : Value) (s1 s2 : ByteArray) (w : World) :
    Calls Tryz.prog 7 #[.agg #[.int .i64 2, .int .i64 y1, v1, .string s1], .agg #[.int .i64 k2, .int .i64 y2, v2, .string s2]] w (PostB true w) := by
  go_enter Tryz.func7, Tryz.ntmps7
  go_wp2
  go_ret
  exact postB_mk rfl (below2 _ _ _ 0)
set_option maxHeartbeats 1000000 in
theorem alike7_2 (k1 y1 y2 : Int) (v1 v2 : Value) (s1 s2 : ByteArray) (w : World) (h : ¬ k1 = 2) :
    Calls Tryz.prog 7 #[.agg #[.int .i64 k1, .int .i64 y1, v1, .string s1], .agg #[.int .i64 2, .int .i64 y2, v2, .string s2]] w (PostB true w) := by
  have hk : (k1 == 2) = false := by simpa using h
  clear h
  go_enter Tryz.func7, Tryz.ntmps7
  go_wp2
  go_ret
  exact postB_mk rfl (below2 _ _ _ 0)
set_option maxHeartbeats 1000000 in
theorem alike7_3 (k1 y1 k2 y2 : Int) (v1 v2 : Value) (s1 s2 : ByteArray) (xs ys : List ByteArray) (r : Bool) (w : World) (h1 : Hid (Strs w v1 xs)) (h2 : Hid (Strs w v2 ys)) (h : ¬ k1 = 2) (h' : ¬ k2 = 2) (hr : Hid (sameO ⟨k1, y1, v1, xs, s1⟩ ⟨k2, y2, v2, ys, s2⟩ = r)) :
    Calls Tryz.prog 7 #[.agg #[.int .i64 k1, .int .i64 y1, v1, .string s1], .agg #[.int .i64 k2, .int .i64 y2, v2, .string s2]] w (PostB r w) := by
  have hk : (k1 == 2) = false := by simpa using h
  have hk' : (k2 == 2) = false := by simpa using h'
  clear h h'
  go_enter Tryz.func7, Tryz.ntmps7
  go_wp2_with (go_at_call 5; refine (sameF5_at h1 h2 hr _ _).mono ?_; rintro e w' ⟨rfl, hb⟩)
  go_ret
  exact postB_mk rfl (below_two hb.out)
set_option maxHeartbeats 1000000 in
theorem alike8_1 (k1 y1 k2 y2 : Int) (v1 v2 : Value) (s1 s2 : ByteArray) (xs ys : List ByteArray) (w : World) (h1 : Hid (Strs w v1 xs)) (h2 : Hid (Strs w v2 ys)) (hr : Hid (sameO ⟨k1, y1, v1, xs, s1⟩ ⟨k2, y2, v2, ys, s2⟩ = true)) :
    Calls Tryz.prog 8 #[.agg #[.int .i64 k1, .int .i64 y1, v1, .string s1], .agg #[.int .i64 k2, .int .i64 y2, v2, .string s2]] w (PostB true w) := by
  go_enter Tryz.func8, Tryz.ntmps8
  go_wp2_with (go_at_call 6; refine (sameF6_at h1 h2 hr _ _).mono ?_; rintro e w' ⟨rfl, hb⟩)
  go_ret
  exact postB_mk rfl (below_two hb.out)
set_option maxHeartbeats 1000000 in
theorem alike8_2 (y1 k2 y2 : Int) (v1 v2 : Value) (s1 s2 : ByteArray) (xs ys : List ByteArray) (w : World) (h1 : Hid (Strs w v1 xs)) (h2 : Hid (Strs w v2 ys)) (hr : Hid (sameO ⟨2, y1, v1, xs, s1⟩ ⟨k2, y2, v2, ys, s2⟩ = false)) :
    Calls Tryz.prog 8 #[.agg #[.int .i64 2, .int .i64 y1, v1, .string s1], .agg #[.int .i64 k2, .int .i64 y2, v2, .string s2]] w (PostB true w) := by
  go_enter Tryz.func8, Tryz.ntmps8
  go_wp2_with (go_at_call 6; refine (sameF6_at h1 h2 hr _ _).mono ?_; rintro e w' ⟨rfl, hb⟩; obtain ⟨hc, hf⟩ := bcell2 hb.out)
  go_ret
  exact postB_mk rfl (below_two hb.out)
set_option maxHeartbeats 1000000 in
theorem alike8_3 (k1 y1 y2 : Int) (v1 v2 : Value) (s1 s2 : ByteArray) (xs ys : List ByteArray) (w : World) (h1 : Hid (Strs w v1 xs)) (h2 : Hid (Strs w v2 ys)) (h : ¬ k1 = 2) (hr : Hid (sameO ⟨k1, y1, v1, xs, s1⟩ ⟨2, y2, v2, ys, s2⟩ = false)) :
    Calls Tryz.prog 8 #[.agg #[.int .i64 k1, .int .i64 y1, v1, .string s1], .agg #[.int .i64 2, .int .i64 y2, v2, .string s2]] w (PostB true w) := by
  have hk : (k1 == 2) = false := by simpa using h
  clear h
  go_enter Tryz.func8, Tryz.ntmps8
  go_wp2_with (go_at_call 6; refine (sameF6_at h1 h2 hr _ _).mono ?_; rintro e w' ⟨rfl, hb⟩; obtain ⟨hc, hf⟩ := bcell2 hb.out)
  go_ret
  exact postB_mk rfl (below_two hb.out)
set_option maxHeartbeats 1000000 in
theorem alike8_4 (k1 y1 k2 y2 : Int) (v1 v2 : Value) (s1 s2 : ByteArray) (xs ys : List ByteArray) (w : World) (h1 : Hid (Strs w v1 xs)) (h2 : Hid (Strs w v2 ys)) (h : ¬ k1 = 2) (h' : ¬ k2 = 2) (hr : Hid (sameO ⟨k1, y1, v1, xs, s1⟩ ⟨k2, y2, v2, ys, s2⟩ = false)) :
    Calls Tryz.prog 8 #[.agg #[.int .i64 k1, .int .i64 y1, v1, .string s1], .agg #[.int .i64 k2, .int .i64 y2, v2, .string s2]] w (PostB false w) := by
  have hk : (k1 == 2) = false := by simpa using h
  have hk' : (k2 == 2) = false := by simpa using h'
  clear h h'
  go_enter Tryz.func8, Tryz.ntmps8
  go_wp2_with (go_at_call 6; refine (sameF6_at h1 h2 hr _ _).mono ?_; rintro e w' ⟨rfl, hb⟩; obtain ⟨hc, hf⟩ := bcell2 hb.out)
  go_ret
  exact postB_mk rfl (below_two hb.out)
theorem alikeF7 {w : World} {a b : Oc} (ha : a.ok w) (hb : b.ok w) : Calls Tryz.prog 7 #[a.val, b.val] w (PostB (alikeO a b) w) := by
  obtain ⟨k1, y1, v1, xs, s1⟩ := a
  obtain ⟨k2, y2, v2, ys, s2⟩ := b
  have H1 : Hid (Strs w v1 xs) := Lib.hid ha
  have H2 : Hid (Strs w v2 ys) := Lib.hid hb
  unfold alikeO Oc.val
  simp only
  by_cases h : k1 = 2
  · subst h; rw [decide_eq_true rfl]; simp only [Bool.true_or]; exact alike7_1 _ _ _ _ _ _ _ _
  · rw [decide_eq_false h]
    by_cases h' : k2 = 2
    · subst h'; rw [decide_eq_true rfl]; simp only [Bool.true_or, Bool.or_true]; exact alike7_2 _ _ _ _ _ _ _ _ h
    · rw [decide_eq_false h']; simp only [Bool.false_or]; exact alike7_3 _ _ _ _ _ _ _ _ _ _ _ _ H1 H2 h h' (Lib.hid rfl)
theorem alikeF8 {w : World} {a b : Oc} (ha : a.ok w) (hb : b.ok w) : Calls Tryz.prog 8 #[a.val, b.val] w (PostB (alikeO a b) w) := by
  obtain ⟨k1, y1, v1, xs, s1⟩ := a
  obtain ⟨k2, y2, v2, ys, s2⟩ := b
  have H1 : Hid (Strs w v1 xs) := Lib.hid ha
  have H2 : Hid (Strs w v2 ys) := Lib.hid hb
  unfold alikeO Oc.val
  simp only
  cases hs : sameO ⟨k1, y1, v1, xs, s1⟩ ⟨k2, y2, v2, ys, s2⟩
  · by_cases h : k1 = 2
    · subst h; rw [decide_eq_true rfl]; simp only [Bool.true_or]; exact alike8_2 _ _ _ _ _ _ _ _ _ _ H1 H2 (Lib.hid hs)
    · rw [decide_eq_false h]
      by_cases h' : k2 = 2
      · subst h'; rw [decide_eq_true rfl]; simp only [Bool.true_or, Bool.or_true]; exact alike8_3 _ _ _ _ _ _ _ _ _ _ H1 H2 h (Lib.hid hs)
      · rw [decide_eq_false h']; simp only [Bool.false_or]; exact alike8_4 _ _ _ _ _ _ _ _ _ _ _ H1 H2 h h' (Lib.hid hs)
  · simp only [Bool.or_true]; exact alike8_1 _ _ _ _ _ _ _ _ _ _ _ H1 H2 (Lib.hid hs)
end Go.Proofs.YtfcklaeahpibhaaGreatDoor

set_option maxRecDepth 1000000
namespace Go.Proofs.YtfcklaeahpibhaaGreatDoor
open Go Go.RowKit
/-- The world behind the law's two boxes. -/
def boxes (w : World) (k1 y1 k2 y2 : Int) (v1 v2 : Value) (s1 s2 : ByteArray) : World :=
  (w.alloc (.cells #[.int .i64 k1, .int .i64 y1, v1, .string s1] 24)).alloc (.cells #[.int .i64 k2, .int .i64 y2, v2, .string s2] 24)
/-- What holds on all ways through the law's last question. -/
def Kept (w0 W : World) : Prop := Below w0.heap.size w0 W
/-- The boxes' cells. -/
def BoxAt (W : World) (n : Nat) (k1 y1 : Int) (v1 : Value) (s1 : ByteArray) : Prop :=
  W.cell? ⟨n, 0, none⟩ = some (.int .i64 k1) ∧ W.cell? ⟨n, 1, none⟩ = some (.int .i64 y1) ∧ W.cell? ⟨n, 2, none⟩ = some v1 ∧ W.cell? ⟨n, 3, none⟩ = some (.string s1)
theorem boxAt_of {W : World} {n : Nat} {k1 y1 : Int} {v1 : Value} {s1 : ByteArray} {t : TypeId} (h : W.heap[n]? = some (.cells #[.int .i64 k1, .int .i64 y1, v1, .string s1] t)) : BoxAt W n k1 y1 v1 s1 := by
  unfold BoxAt World.cell?
  simp only [h]
  exact ⟨rfl, rfl, rfl, rfl⟩
theorem boxes_heap (w : World) (k1 y1 k2 y2 : Int) (v1 v2 : Value) (s1 s2 : ByteArray) :
    (boxes w k1 y1 k2 y2 v1 v2 s1 s2).heap = (w.heap.push (.cells #[.int .i64 k1, .int .i64 y1, v1, .string s1] 24)).push (.cells #[.int .i64 k2, .int .i64 y2, v2, .string s2] 24) := rfl
theorem boxes_size (w : World) (k1 y1 k2 y2 : Int) (v1 v2 : Value) (s1 s2 : ByteArray) : (boxes w k1 y1 k2 y2 v1 v2 s1 s2).heap.size = w.heap.size + 2 := by
  rw [boxes_heap, Array.size_push, Array.size_push]
theorem box1 {w : World} {k1 y1 k2 y2 : Int} {v1 v2 : Value} {s1 s2 : ByteArray} {W : World} (h : Kept (boxes w k1 y1 k2 y2 v1 v2 s1 s2) W) : BoxAt W w.heap.size k1 y1 v1 s1 := by
  refine boxAt_of (t := 24) ?_
  rw [h.block _ (by rw [boxes_size]; omega), boxes_heap, Array.getElem?_push, if_neg (by rw [Array.size_push]; omega), Array.getElem?_push, if_pos rfl]
theorem box2 {w : World} {k1 y1 k2 y2 : Int} {v1 v2 : Value} {s1 s2 : ByteArray} {W : World} (h : Kept (boxes w k1 y1 k2 y2 v1 v2 s1 s2) W) : BoxAt W (w.heap.size + 1) k2 y2 v2 s2 := by
  refine boxAt_of (t := 24) ?_
  rw [h.block _ (by rw [boxes_size]; omega), boxes_heap, Array.getElem?_push, if_pos (by rw [Array.size_push])]
theorem Kept.strs {w : World} {k1 y1 k2 y2 : Int} {v1 v2 : Value} {s1 s2 : ByteArray} {W : World} (h : Kept (boxes w k1 y1 k2 y2 v1 v2 s1 s2) W) {v : Value} {xs : List ByteArray} (hs : Strs w v xs) : Strs W v xs := (hs.two _ _).below h
theorem Kept.old {w : World} {k1 y1 k2 y2 : Int} {v1 v2 : Value} {s1 s2 : ByteArray} {W : World} (h : Kept (boxes w k1 y1 k2 y2 v1 v2 s1 s2) W) : Below w.heap.size w W := below_two h
theorem Kept.next {w0 W W' : World} (h : Kept w0 W) (h' : Below W.heap.size W W') : Kept w0 W' := h.trans (h'.mono h.size)
/-- What a call on a way leaves. -/
def PostW (w : World) (k1 y1 k2 y2 : Int) (v1 v2 : Value) (s1 s2 : ByteArray) (r : Bool) (e : Ending) (W : World) : Prop :=
  e = .returned (.bool r) ∧ Hid (Kept (boxes w k1 y1 k2 y2 v1 v2 s1 s2) W) ∧
    (W.cell? ⟨w.heap.size, 0, none⟩ = some (.int .i64 k1) ∧ W.cell? ⟨w.heap.size, 1, none⟩ = some (.int .i64 y1) ∧ W.cell? ⟨w.heap.size, 2, none⟩ = some v1 ∧ W.cell? ⟨w.heap.size, 3, none⟩ = some (.string s1)) ∧
    (W.cell? ⟨w.heap.size + 1, 0, none⟩ = some (.int .i64 k2) ∧ W.cell? ⟨w.heap.size + 1, 1, none⟩ = some (.int .i64 y2) ∧ W.cell? ⟨w.heap.size + 1, 2, none⟩ = some v2 ∧ W.cell? ⟨w.heap.size + 1, 3, none⟩ = some (.string s2))
theorem postW_of {w : World} {k1 y1 k2 y2 : Int} {v1 v2 : Value} {s1 s2 : ByteArray} {W : World} {r r' : Bool} {e : Ending} {W' : World} (h : Hid (Kept (boxes w k1 y1 k2 y2 v1 v2 s1 s2) W)) (hr : r' = r) (hp : PostB r' W e W') : PostW w k1 y1 k2 y2 v1 v2 s1 s2 r e W' :=
  ⟨by rw [← hr]; exact hp.1, Lib.hid (h.out.next hp.2), box1 (h.out.next hp.2), box2 (h.out.next hp.2)⟩
section
variable {w : World} {k1 y1 k2 y2 : Int} {v1 v2 : Value} {s1 s2 : ByteArray} {xs ys : List ByteArray} {W : World} {r : Bool}
theorem way5 (h1 : Hid (Strs w v1 xs)) (h2 : Hid (Strs w v2 ys)) (hr : Hid (sameO ⟨k1, y1, v1, xs, s1⟩ ⟨k2, y2, v2, ys, s2⟩ = r)) (h : Hid (Kept (boxes w k1 y1 k2 y2 v1 v2 s1 s2) W)) :
    Calls Tryz.prog 5 #[.agg #[.int .i64 k1, .int .i64 y1, v1, .string s1], .agg #[.int .i64 k2, .int .i64 y2, v2, .string s2]] W (PostW w k1 y1 k2 y2 v1 v2 s1 s2 r) :=
  (sameF5 (a := ⟨k1, y1, v1, xs, s1⟩) (b := ⟨k2, y2, v2, ys, s2⟩) (h.out.strs h1.out) (h.out.strs h2.out)).mono fun _ _ hp => postW_of h hr.out hp
theorem way6 (h1 : Hid (Strs w v1 xs)) (h2 : Hid (Strs w v2 ys)) (hr : Hid (sameO ⟨k1, y1, v1, xs, s1⟩ ⟨k2, y2, v2, ys, s2⟩ = r)) (h : Hid (Kept (boxes w k1 y1 k2 y2 v1 v2 s1 s2) W)) :
    Calls Tryz.prog 6 #[.agg #[.int .i64 k1, .int .i64 y1, v1, .string s1], .agg #[.int .i64 k2, .int .i64 y2, v2, .string s2]] W (PostW w k1 y1 k2 y2 v1 v2 s1 s2 r) :=
  (sameF6 (a := ⟨k1, y1, v1, xs, s1⟩) (b := ⟨k2, y2, v2, ys, s2⟩) (h.out.strs h1.out) (h.out.strs h2.out)).mono fun _ _ hp => postW_of h hr.out hp
theorem way7 (h1 : Hid (Strs w v1 xs)) (h2 : Hid (Strs w v2 ys)) (hr : Hid (alikeO ⟨k1, y1, v1, xs, s1⟩ ⟨k2, y2, v2, ys, s2⟩ = r)) (h : Hid (Kept (boxes w k1 y1 k2 y2 v1 v2 s1 s2) W)) :
    Calls Tryz.prog 7 #[.agg #[.int .i64 k1, .int .i64 y1, v1, .string s1], .agg #[.int .i64 k2, .int .i64 y2, v2, .string s2]] W (PostW w k1 y1 k2 y2 v1 v2 s1 s2 r) :=
  (alikeF7 (a := ⟨k1, y1, v1, xs, s1⟩) (b := ⟨k2, y2, v2, ys, s2⟩) (h.out.strs h1.out) (h.out.strs h2.out)).mono fun _ _ hp => postW_of h hr.out hp
theorem way8 (h1 : Hid (Strs w v1 xs)) (h2 : Hid (Strs w v2 ys)) (hr : Hid (alikeO ⟨k1, y1, v1, xs, s1⟩ ⟨k2, y2, v2, ys, s2⟩ = r)) (h : Hid (Kept (boxes w k1 y1 k2 y2 v1 v2 s1 s2) W)) :
    Calls Tryz.prog 8 #[.agg #[.int .i64 k1, .int .i64 y1, v1, .string s1], .agg #[.int .i64 k2, .int .i64 y2, v2, .string s2]] W (PostW w k1 y1 k2 y2 v1 v2 s1 s2 r) :=
  (alikeF8 (a := ⟨k1, y1, v1, xs, s1⟩) (b := ⟨k2, y2, v2, ys, s2⟩) (h.out.strs h1.out) (h.out.strs h2.out)).mono fun _ _ hp => postW_of h hr.out hp
/-- known(), wherever nothing old has turned. -/
def KnownAt (w : World) : Prop := ∀ W, Below w.heap.size w W → Calls Tryz.prog 4 #[] W (PostB true W)
theorem way4 (hk : Hid (KnownAt w)) (h : Hid (Kept (boxes w k1 y1 k2 y2 v1 v2 s1 s2) W)) : Calls Tryz.prog 4 #[] W (PostW w k1 y1 k2 y2 v1 v2 s1 s2 true) :=
  (hk.out W h.out.old).mono fun _ _ hp => postW_of h rfl hp
end
theorem kept_drew {w0 W : World} (h : Hid (Kept w0 W)) : Hid (Kept w0 W.drew) := ⟨h.out.os, h.out.tape, h.out.output, h.out.size, h.out.block⟩
set_option maxHeartbeats 4000000 in
theorem law_c (k1 y1 k2 y2 : Int) (a1 a2 : Option Addr) (n1 n2 c1 c2 : Nat) (s1 s2 : ByteArray) (xs ys : List ByteArray) (r1 r2 : Bool) (w : World)
    (hm1 : n1 ≤ 9223372036854775807) (hm2 : n2 ≤ 9223372036854775807)
    (hc1 : ∀ k, k < n1 → ∃ b o x, a1 = some ⟨b, o, none⟩ ∧ b < w.heap.size ∧ w.cell? ⟨b, o + k, none⟩ = some (.string x))
    (hc2 : ∀ k, k < n2 → ∃ b o x, a2 = some ⟨b, o, none⟩ ∧ b < w.heap.size ∧ w.cell? ⟨b, o + k, none⟩ = some (.string x))
    (h1 : Hid (Strs w (.slice a1 n1 c1) xs)) (h2 : Hid (Strs w (.slice a2 n2 c2) ys)) (HK : Hid (KnownAt w))
    (hr1 : Hid (sameO ⟨k1, y1, .slice a1 n1 c1, xs, s1⟩ ⟨k2, y2, .slice a2 n2 c2, ys, s2⟩ = r1)) (hr2 : Hid (alikeO ⟨k1, y1, .slice a1 n1 c1, xs, s1⟩ ⟨k2, y2, .slice a2 n2 c2, ys, s2⟩ = r2)) :
    Calls Tryz.prog 3 #[.agg #[.int .i64 k1, .int .i64 y1, .slice a1 n1 c1, .string s1], .agg #[.int .i64 k2, .int .i64 y2, .slice a2 n2 c2, .string s2]] w (PostB true w) := by
  have HC1 := Lib.hid hc1
  have HC2 := Lib.hid hc2
  clear hc1 hc2
  go_enter Tryz.func3, Tryz.ntmps3
  go_wp2
  go_loop [5, 6] (fun nv iv => ∃ (z : Int) (k : Nat), k ≤ n1 ∧ nv = .int .i64 z ∧ iv = .int .i64 k) (fun _ iv => n1 - (intOf iv).toNat)
  case atStart => exact ⟨_, 0, by omega, rfl, rfl⟩
  case round =>
    obtain ⟨z, k, hk, rfl, rfl⟩ := hrel
    by_cases hlt : k < n1
    · obtain ⟨b, o, x, rfl, hb, hcell⟩ := HC1.out k hlt
      go_wp2
      go_round
      case rel => exact ⟨_, k + 1, by omega, rfl, by go_num⟩
      case measure => simp [intOf]; omega
    · go_wp2
      go_loop [5, 7] (fun nv iv => ∃ (z : Int) (k : Nat), k ≤ n2 ∧ nv = .int .i64 z ∧ iv = .int .i64 k) (fun _ iv => n2 - (intOf iv).toNat)
      case atStart => exact ⟨_, 0, by omega, rfl, rfl⟩
      case round =>
        clear hlt hk
        obtain ⟨z, k, hk, rfl, rfl⟩ := hrel
        by_cases hlt : k < n2
        · obtain ⟨b, o, x, rfl, hb, hcell⟩ := HC2.out k hlt
          go_wp2
          go_round
          case rel => exact ⟨_, k + 1, by omega, rfl, by go_num⟩
          case measure => simp [intOf]; omega
        · have HB : Hid (Kept (boxes w k1 y1 k2 y2 (.slice a1 n1 c1) (.slice a2 n2 c2) s1 s2) (boxes w k1 y1 k2 y2 (.slice a1 n1 c1) (.slice a2 n2 c2) s1 s2)) := Lib.hid (Below.refl _ _)
          go_wp2_with (go_at_call 4; refine (way4 HK HB).mono ?_; rintro e W ⟨rfl, hW, ⟨g1, g2, g3, g4⟩, ⟨g5, g6, g7, g8⟩⟩)
          · go_ret
            exact postB_mk rfl hW.out.old
          · have HB2 : Hid (Kept (boxes w k1 y1 k2 y2 (.slice a1 n1 c1) (.slice a2 n2 c2) s1 s2) ((w.alloc (.cells #[.int .i64 k1, .int .i64 y1, .slice a1 n1 c1, .string s1] 24)).alloc (.cells #[.int .i64 k2, .int .i64 y2, .slice a2 n2 c2, .string s2] 24))) := HB
            clear HB
            go_region_held3 (fun W => Hid (Kept (boxes w k1 y1 k2 y2 (.slice a1 n1 c1) (.slice a2 n2 c2) s1 s2) W) ∧ W.cell? ⟨w.heap.size, 0, none⟩ = some (.int .i64 k1) ∧ W.cell? ⟨w.heap.size, 1, none⟩ = some (.int .i64 y1) ∧ W.cell? ⟨w.heap.size, 2, none⟩ = some (.slice a1 n1 c1) ∧ W.cell? ⟨w.heap.size, 3, none⟩ = some (.string s1) ∧
              W.cell? ⟨w.heap.size + 1, 0, none⟩ = some (.int .i64 k2) ∧ W.cell? ⟨w.heap.size + 1, 1, none⟩ = some (.int .i64 y2) ∧ W.cell? ⟨w.heap.size + 1, 2, none⟩ = some (.slice a2 n2 c2) ∧ W.cell? ⟨w.heap.size + 1, 3, none⟩ = some (.string s2))
              ((refine ⟨?_, ?_, ?_, ?_, ?_, ?_, ?_, ?_, ?_⟩ <;> first | assumption | exact kept_drew HB2 | exact kept_drew hW | go_simp))
              (first
                | (go_at_call 5; refine (way5 h1 h2 hr1 (by first | assumption | exact kept_drew HB2)).mono ?_; rintro e W ⟨rfl, hW, ⟨g1, g2, g3, g4⟩, ⟨g5, g6, g7, g8⟩⟩)
                | (go_at_call 6; refine (way6 h1 h2 hr1 (by first | assumption | exact kept_drew HB2)).mono ?_; rintro e W ⟨rfl, hW, ⟨g1, g2, g3, g4⟩, ⟨g5, g6, g7, g8⟩⟩)
                | (go_at_call 7; refine (way7 h1 h2 hr2 (by first | assumption | exact kept_drew HB2)).mono ?_; rintro e W ⟨rfl, hW, ⟨g1, g2, g3, g4⟩, ⟨g5, g6, g7, g8⟩⟩)
                | (go_at_call 8; refine (way8 h1 h2 hr2 (by first | assumption | exact kept_drew HB2)).mono ?_; rintro e W ⟨rfl, hW, ⟨g1, g2, g3, g4⟩, ⟨g5, g6, g7, g8⟩⟩)
                | (go_at_call 4; refine (way4 HK (by first | assumption | exact kept_drew HB2)).mono ?_; rintro e W ⟨rfl, hW, ⟨g1, g2, g3, g4⟩, ⟨g5, g6, g7, g8⟩⟩))
            all_goals go_wp2
            all_goals go_ret
            all_goals exact postB_mk rfl (Kept.old (Hid.out (by assumption)))
end Go.Proofs.YtfcklaeahpibhaaGreatDoor

set_option maxRecDepth 1000000
namespace Go.Proofs.YtfcklaeahpibhaaGreatDoor
open Go Go.RowKit Go.ChangeShapes Go.WideShapes
theorem cells24 : Tryz.prog.cellsOf 24 = 4 := by kernel_rfl
theorem cells9 : Tryz.prog.cellsOf 9 = 1 := by kernel_rfl
theorem addr_add {a : Addr} (h : a.spot = none) (k : Nat) : a.add k = ⟨a.block, a.off + k, none⟩ := by
  unfold Addr.add
  split
  · next hk => subst hk; cases a; simp only at h; subst h; rfl
  · rfl
theorem open_out {H : Type} {enc : TypeId × Value → H} {W : World} {base b0 : Nat} {sp : Nat → Bool} {held : Bool} {v : Value} {d : DataW H} {p : List MemPlace}
    (hv : Value.okWide Tryz.prog W .any b0 24 v) (h : DataW.Trod enc Tryz.prog W base sp held 24 v d p) :
    ∃ (k y : Int) (ad : Option Addr) (n c : Nat) (s : ByteArray) (xs : List ByteArray), v = .agg #[.int .i64 k, .int .i64 y, .slice ad n c, .string s] ∧ n ≤ 9223372036854775807 ∧ Strs W (.slice ad n c) xs ∧
      (∀ k, k < n → ∃ b o x, ad = some ⟨b, o, none⟩ ∧ b < W.heap.size ∧ W.cell? ⟨b, o + k, none⟩ = some (.string x)) := by
  obtain ⟨v0, v1, v2, v3, z0, z1, z2, z3, m, rfl, _, _, h0, h1, h2, h3⟩ := Joins.open_agg4 Tryz.underlying24 (by kernel_rfl) cells24 hv h
  obtain ⟨k, e0, _, _⟩ := DataW.trod_int Tryz.underlying3 h0
  obtain ⟨y, e1, _, _⟩ := DataW.trod_int Tryz.underlying3 h1
  obtain ⟨s, e3, _, _⟩ := DataW.trod_string Tryz.underlying9 h3
  simp only [List.cons.injEq, and_true] at e0 e1 e3
  subst e0 e1 e3
  rcases open_strings Tryz.underlying22 Tryz.underlying9 cells9 h2 with ⟨e2, _⟩ | ⟨a, len, cap, ss, e2, _, hlc, hm, hss, _, hc, _⟩
  · simp only [List.cons.injEq, and_true] at e2
    subst e2
    exact ⟨k, y, none, 0, 0, s, [], rfl, by omega, ⟨by simp, none, 0, rfl, .inl rfl⟩, fun k hk => absurd hk (by omega)⟩
  · simp only [List.cons.injEq, and_true] at e2
    subst e2
    unfold maxLen at hm
    have hle : len ≤ ss.length := by rw [hss]; split <;> omega
    have hcell : ∀ j, j < len → a.spot = none ∧ a.block < W.heap.size ∧ W.cell? ⟨a.block, a.off + j, none⟩ = some (.string (ss.getD j ByteArray.empty)) := by
      intro j hj
      have hs : a.spot = none := by
        have := hc 0 (by omega)
        unfold Addr.add at this
        rw [if_pos rfl] at this
        unfold World.cell? at this
        split at this
        · split at this
          · cases this
          · next hn => simpa using hn
        · cases this
      have h5 := hc j (by omega)
      rw [addr_add hs] at h5
      refine ⟨hs, ?_, h5⟩
      rcases Nat.lt_or_ge a.block W.heap.size with h6 | h6
      · exact h6
      · simp [World.cell?, Array.getElem?_eq_none h6] at h5
    have hlen : (ss.take len).length = len := by rw [List.length_take]; omega
    refine ⟨k, y, some a, len, cap, s, ss.take len, rfl, by omega, ⟨by rw [hlen]; omega, some a, cap, by rw [hlen], ?_⟩, fun j hj => ?_⟩
    · by_cases h0 : len = 0
      · exact .inl (by rw [hlen]; exact h0)
      · refine .inr ⟨a.block, a.off, ?_, fun j hj => ?_⟩
        · have := (hcell 0 (by omega)).1
          cases a; simp only at this; subst this; rfl
        · rw [hlen] at hj
          rw [(hcell j hj).2.2]
          congr 2
          rw [List.getD_eq_getElem?_getD, List.getD_eq_getElem?_getD, List.getElem?_take, if_pos hj]
    · obtain ⟨hs, hb, hx⟩ := hcell j hj
      exact ⟨a.block, a.off, _, by cases a; simp only at hs; subst hs; rfl, hb, hx⟩
theorem law_of {H : Type} {enc : TypeId × Value → H} {W : World} {base b0 : Nat} {sp : Nat → Bool} {held : Bool} {v1 v2 : Value} {d1 d2 : DataW H} {p1 p2 : List MemPlace}
    (hv1 : Value.okWide Tryz.prog W .any b0 24 v1) (h1 : DataW.Trod enc Tryz.prog W base sp held 24 v1 d1 p1) (hv2 : Value.okWide Tryz.prog W .any b0 24 v2) (h2 : DataW.Trod enc Tryz.prog W base sp held 24 v2 d2 p2) (hk : KnownAt W) :
    Calls Tryz.prog 3 #[v1, v2] W (PostB true W) := by
  obtain ⟨k1, y1, a1, n1, c1, s1, xs, rfl, hn1, hs1, hc1⟩ := open_out hv1 h1
  obtain ⟨k2, y2, a2, n2, c2, s2, ys, rfl, hn2, hs2, hc2⟩ := open_out hv2 h2
  exact law_c k1 y1 k2 y2 a1 a2 n1 n2 c1 c2 s1 s2 xs ys _ _ W hn1 hn2 hc1 hc2 (Lib.hid hs1) (Lib.hid hs2) (Lib.hid hk) (Lib.hid rfl) (Lib.hid rfl)
end Go.Proofs.YtfcklaeahpibhaaGreatDoor
