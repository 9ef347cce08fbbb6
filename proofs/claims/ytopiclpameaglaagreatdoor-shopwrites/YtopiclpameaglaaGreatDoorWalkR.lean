/-
Books read, by the program and by the reference: both as one plain function says; the condition for the law: known() answers true.
-/
import Derived.Test.YtopiclpameaglaaGreatDoorBase
import Derived.Lib.IndexMore
import Derived.Lib.ItoaNum
import Derived.Test.YtopiclpameaglaaGreatDoorProg
import Derived.WalkKit
import Derived.WalkMore
import Derived.LoopTactic
import Derived.Deep.LoopGhost
import Derived.Deep.QuietTactic
import Derived.Deep.Draws
import Derived.BigQuiet
import Derived.Outline
import Derived.Below
import Derived.Lib.Hide
import Derived.KernelRfl
import Derived.Lib.Strings
import Derived.Shelf.Strings.Cut
import Derived.Shelf.Strings.Search3
import Derived.Shelf.Strconv.Itoa3
import Derived.Lib.ConvBytes
import Derived.Lib.SmallJoins
import Derived.Maps.AppendAt
import Derived.Maps.RangeWalk
import Derived.Laws.MakeOwn
set_option linter.unusedSimpArgs false
set_option linter.unusedVariables false
set_option maxRecDepth 1000000
namespace Go.Proofs.YtopiclpameaglaaGreatDoor
open Go
/-- A text out of its bytes. -/
def ofL (l : List UInt8) : ByteArray := ⟨l.toArray⟩
theorem ofL_list (l : List UInt8) : (ofL l).data.toList = l := by unfold ofL; rfl
theorem ofL_data (s : ByteArray) : ofL s.data.toList = s := by
  obtain ⟨⟨l⟩⟩ := s
  rfl
theorem ofL_size (l : List UInt8) : (ofL l).size = l.length := by unfold ofL; rfl
theorem size_list (s : ByteArray) : s.size = s.data.toList.length := by
  obtain ⟨⟨l⟩⟩ := s
  rfl
theorem ofL_inj {a b : List UInt8} (h : ofL a = ofL b) : a = b := by
  have := congrArg (fun s => s.data.toList) h
  simpa only [ofL_list] using this
/-- The sums of a book. -/
def normS (b : Int) : Int := (b.tmod 1000033 + 1000033) % 1000033
def stepS (n : Int) (c : UInt8) : Int := (n * 263 + (c.toNat : Int) + 1) % 1000033
def sumL (b : Int) (l : List UInt8) : Int := l.foldl stepS (normS b)
def sumB (b : Int) (s : ByteArray) : Int := sumL b s.data.toList
theorem normS_in (b : Int) : 0 ≤ normS b ∧ normS b < 1000033 := by unfold normS; omega
theorem stepS_in (n : Int) (c : UInt8) : 0 ≤ stepS n c ∧ stepS n c < 1000033 := by unfold stepS; omega
theorem fold_in : ∀ (l : List UInt8) (n : Int), 0 ≤ n ∧ n < 1000033 → 0 ≤ l.foldl stepS n ∧ l.foldl stepS n < 1000033
  | [], _, h => h
  | c :: l, n, _ => fold_in l (stepS n c) (stepS_in n c)
theorem sumL_in (b : Int) (l : List UInt8) : 0 ≤ sumL b l ∧ sumL b l < 1000033 := fold_in l _ (normS_in b)
theorem sumB_in (b : Int) (s : ByteArray) : 0 ≤ sumB b s ∧ sumB b s < 1000033 := sumL_in b _
theorem sumL_next (b : Int) (l : List UInt8) (k : Nat) (hk : k < l.length) : sumL b (l.take (k + 1)) = stepS (sumL b (l.take k)) (l.getD k 0) := by
  unfold sumL
  rw [List.take_add_one, List.foldl_append, List.getElem?_eq_getElem hk]
  simp [List.getD_eq_getElem?_getD, hk]
/-- What is ahead of the first sign, what is behind it, and whether it is there. -/
def cutB (s sep : ByteArray) : ByteArray × ByteArray × Bool := (ofL (Lib.cut s.data.toList sep.data.toList).1, ofL (Lib.cut s.data.toList sep.data.toList).2.1, (Lib.cut s.data.toList sep.data.toList).2.2)
theorem cut_length (s sep : List UInt8) : (Lib.cut s sep).1.length ≤ s.length ∧ (Lib.cut s sep).2.1.length ≤ s.length := by
  unfold Lib.cut
  split
  · simp only [List.length_take, List.length_drop]; omega
  · simp
theorem cutB_size {s sep a b : ByteArray} {c : Bool} (h : cutB s sep = (a, b, c)) : a.size ≤ s.size ∧ b.size ≤ s.size := by
  have hl := cut_length s.data.toList sep.data.toList
  unfold cutB at h
  simp only [Prod.mk.injEq] at h
  obtain ⟨rfl, rfl, _⟩ := h
  rw [ofL_size, ofL_size, size_list s]
  exact hl
/-- Whether a text may stand in a book. -/
def lineB (s : ByteArray) : Bool := decide (1 ≤ s.size) && decide (s.size ≤ 200) && !(Lib.contains s.data.toList [10])
def itoaB (n : Int) : ByteArray := ofL (Lib.itoa n)
/-- The next order of a book: the sum, what is left, the order. -/
def nextR (sum : Int) (book : ByteArray) : Option (Int × ByteArray × ByteArray) :=
  bif (cutB book ⟨#[10]⟩).2.2 && ((cutB (cutB book ⟨#[10]⟩).1 ⟨#[32]⟩).2.2 && (lineB (cutB (cutB book ⟨#[10]⟩).1 ⟨#[32]⟩).2.1 && decide ((cutB (cutB book ⟨#[10]⟩).1 ⟨#[32]⟩).1 = itoaB (sumB sum (cutB (cutB book ⟨#[10]⟩).1 ⟨#[32]⟩).2.1))))
  then some (sumB sum (cutB (cutB book ⟨#[10]⟩).1 ⟨#[32]⟩).2.1, (cutB book ⟨#[10]⟩).2.1, (cutB (cutB book ⟨#[10]⟩).1 ⟨#[32]⟩).2.1) else none
section
variable {sum sm : Int} {book line rest n order it : ByteArray} {is ok : Bool}
theorem nextR_eq (h1 : cutB book ⟨#[10]⟩ = (line, rest, is)) (h2 : cutB line ⟨#[32]⟩ = (n, order, ok)) (h4 : sumB sum order = sm) (h5 : itoaB sm = it) :
    nextR sum book = bif is && (ok && (lineB order && decide (n = it))) then some (sm, rest, order) else none := by
  unfold nextR
  simp only [h1, h2, h4, h5]
theorem nextR_1 (h1 : cutB book ⟨#[10]⟩ = (line, rest, false)) : nextR sum book = none := by
  unfold nextR
  simp only [h1, Bool.false_and, cond_false]
theorem nextR_2 (h1 : cutB book ⟨#[10]⟩ = (line, rest, is)) (h2 : cutB line ⟨#[32]⟩ = (n, order, false)) : nextR sum book = none := by
  unfold nextR
  simp only [h1, h2, Bool.false_and, Bool.and_false, cond_false]
theorem nextR_3 (h1 : cutB book ⟨#[10]⟩ = (line, rest, is)) (h2 : cutB line ⟨#[32]⟩ = (n, order, ok)) (h3 : lineB order = false) : nextR sum book = none := by
  unfold nextR
  simp only [h1, h2, h3, Bool.false_and, Bool.and_false, cond_false]
theorem nextR_4 (h1 : cutB book ⟨#[10]⟩ = (line, rest, is)) (h2 : cutB line ⟨#[32]⟩ = (n, order, ok)) (h4 : sumB sum order = sm) (h5 : itoaB sm = it) (h6 : ¬ n = it) : nextR sum book = none := by
  rw [nextR_eq h1 h2 h4 h5, decide_eq_false h6]
  simp only [Bool.and_false, cond_false]
theorem nextR_5 (h1 : cutB book ⟨#[10]⟩ = (line, rest, true)) (h2 : cutB line ⟨#[32]⟩ = (n, order, true)) (h3 : lineB order = true) (h4 : sumB sum order = sm) (h5 : itoaB sm = it) (h6 : n = it) : nextR sum book = some (sm, rest, order) := by
  rw [nextR_eq h1 h2 h4 h5, decide_eq_true h6, h3]
  rfl
end
/-- The orders of a book, and what is left of it. -/
def readB : Nat → Int → ByteArray → List ByteArray → List ByteArray × ByteArray
  | 0, _, book, outs => (outs, book)
  | k + 1, sum, book, outs => match nextR sum book with
    | none => (outs, book)
    | some x => readB k x.1 x.2.1 (outs ++ [x.2.2])
theorem readB_stop {k : Nat} {sum : Int} {book : ByteArray} {outs : List ByteArray} (hk : k < 60) (h : nextR sum book = none) : readB (60 - k) sum book outs = (outs, book) := by
  rw [show 60 - k = (59 - k) + 1 by omega]
  unfold readB
  rw [h]
theorem readB_next {k : Nat} {sum sm : Int} {book rest order : ByteArray} {outs : List ByteArray} (hk : k < 60) (h : nextR sum book = some (sm, rest, order)) : readB (60 - k) sum book outs = readB (60 - (k + 1)) sm rest (outs ++ [order]) := by
  rw [show 60 - k = (60 - (k + 1)) + 1 by omega]
  conv => lhs; unfold readB
  rw [h]
theorem readB_len : ∀ (k : Nat) (sum : Int) (book : ByteArray) (outs : List ByteArray), (readB k sum book outs).1.length ≤ outs.length + k ∧ (readB k sum book outs).2.size ≤ book.size
  | 0, _, _, _ => ⟨Nat.le_refl _, Nat.le_refl _⟩
  | k + 1, sum, book, outs => by
    unfold readB
    cases h : nextR sum book with
    | none => exact ⟨by show outs.length ≤ _; omega, Nat.le_refl _⟩
    | some x =>
      have ih := readB_len k x.1 x.2.1 (outs ++ [x.2.2])
      have hx : x.2.1.size ≤ book.size := by
        unfold nextR at h
        cases hc : (cutB book ⟨#[10]⟩).2.2 && ((cutB (cutB book ⟨#[10]⟩).1 ⟨#[32]⟩).2.2 && (lineB (cutB (cutB book ⟨#[10]⟩).1 ⟨#[32]⟩).2.1 && decide ((cutB (cutB book ⟨#[10]⟩).1 ⟨#[32]⟩).1 = itoaB (sumB sum (cutB (cutB book ⟨#[10]⟩).1 ⟨#[32]⟩).2.1))))
        · rw [hc] at h; cases h
        · rw [hc] at h
          obtain rfl := Option.some.inj h
          exact (cutB_size (a := (cutB book ⟨#[10]⟩).1) (b := (cutB book ⟨#[10]⟩).2.1) (c := (cutB book ⟨#[10]⟩).2.2) rfl).2
      rw [List.length_append, List.length_singleton] at ih
      exact ⟨by show (readB k x.1 x.2.1 (outs ++ [x.2.2])).1.length ≤ _; omega, Nat.le_trans ih.2 hx⟩
/-- Where two lists of texts part first, as far as both go. -/
def diffAt (ks ls : List ByteArray) : Option Nat := (List.range (min ks.length ls.length)).find? fun i => !decide (ks.getD i ByteArray.empty = ls.getD i ByteArray.empty)
theorem find_range {p : Nat → Bool} {n i : Nat} (hi : i < n) (h : ∀ j, j < i → p j = false) (hp : p i = true) : (List.range n).find? p = some i := by
  rw [List.find?_range_eq_some]
  exact ⟨hp, List.mem_range.2 hi, fun j hj => by rw [h j hj]; rfl⟩
theorem diffAt_some {ks ls : List ByteArray} {i : Nat} (h1 : i < ks.length) (h2 : i < ls.length) (h : ∀ j, j < i → ks.getD j ByteArray.empty = ls.getD j ByteArray.empty) (hn : ¬ ks.getD i ByteArray.empty = ls.getD i ByteArray.empty) : diffAt ks ls = some i :=
  find_range (by omega) (fun j hj => by rw [decide_eq_true (h j hj)]; rfl) (by rw [decide_eq_false hn]; rfl)
theorem diffAt_none {ks ls : List ByteArray} (h : ∀ j, j < min ks.length ls.length → ks.getD j ByteArray.empty = ls.getD j ByteArray.empty) : diffAt ks ls = none := by
  unfold diffAt
  rw [List.find?_eq_none]
  intro j hj
  rw [decide_eq_true (h j (List.mem_range.1 hj))]
  simp
/-- Two books together: the book, how many orders, the error. -/
def mergeB (a b : ByteArray) : ByteArray × Int × Int :=
  if ¬ (readB 60 0 a []).2 = ⟨#[]⟩ ∨ ¬ (readB 60 0 b []).2 = ⟨#[]⟩ then (⟨#[]⟩, 0, 11)
  else match diffAt (readB 60 0 a []).1 (readB 60 0 b []).1 with
    | some i => (⟨#[]⟩, (i : Int), 8)
    | none => if (readB 60 0 a []).1.length < (readB 60 0 b []).1.length then (b, ((readB 60 0 b []).1.length : Int), 0) else (a, ((readB 60 0 a []).1.length : Int), 0)
/-- The book of orders. -/
def writtenL : Int → List ByteArray → List UInt8
  | _, [] => []
  | n, s :: r => Lib.itoa (sumB n s) ++ 32 :: (s.data.toList ++ 10 :: writtenL (sumB n s) r)
def sumsB (n : Int) (l : List ByteArray) : Int := l.foldl sumB n
theorem writtenL_snoc : ∀ (l : List ByteArray) (n : Int) (s : ByteArray), writtenL n (l ++ [s]) = writtenL n l ++ (Lib.itoa (sumB (sumsB n l) s) ++ 32 :: (s.data.toList ++ [10]))
  | [], n, s => by simp [writtenL, sumsB]
  | x :: l, n, s => by
    have ih := writtenL_snoc l (sumB n x) s
    simp only [List.cons_append, writtenL, ih, sumsB, List.foldl_cons, List.append_assoc]
theorem sumsB_snoc (l : List ByteArray) (n : Int) (s : ByteArray) : sumsB n (l ++ [s]) = sumB (sumsB n l) s := by
  unfold sumsB
  rw [List.foldl_append]
  rfl
def writtenB (l : List ByteArray) : ByteArray := ofL (writtenL 0 l)
/-- The book of orders, and the error. -/
def writeB (l : List ByteArray) : ByteArray × Int :=
  if 60 < l.length then (⟨#[]⟩, 3) else bif l.all lineB then (writtenB l, 0) else (⟨#[]⟩, 1)
/-- The first place of a sign. -/
theorem index_one : ∀ (a b : List UInt8) (c : UInt8), c ∉ a → Lib.index (a ++ c :: b) [c] = a.length
  | [], b, c, _ => by simp [Lib.index, List.isPrefixOf]
  | x :: a, b, c, h => by
    have hx : ¬ c = x := fun e => h (by simp [e])
    have h1 : ([c] : List UInt8).isPrefixOf (x :: (a ++ c :: b)) = false := by simp [List.isPrefixOf, hx]
    have ih := index_one a b c (fun hm => h (by simp [hm]))
    show Lib.index (x :: (a ++ c :: b)) [c] = _
    unfold Lib.index
    rw [h1, ih]
    have : (((a.length : Nat) : Int) == -1) = false := by rw [beq_eq_false_iff_ne]; omega
    simp [this]
theorem cut_one (a b : List UInt8) (c : UInt8) (h : c ∉ a) : Lib.cut (a ++ c :: b) [c] = (a, b, true) := by
  unfold Lib.cut
  rw [index_one a b c h, if_pos (by omega)]
  simp
theorem not_mem_of_index : ∀ (a : List UInt8) (c : UInt8), Lib.index a [c] < 0 → c ∉ a
  | [], _, _ => by simp
  | x :: a, c, h => by
    unfold Lib.index at h
    by_cases hx : c = x
    · subst hx
      rw [if_pos (by simp [List.isPrefixOf])] at h
      omega
    · rw [if_neg (by simp [List.isPrefixOf, hx])] at h
      have h2 : Lib.index a [c] < 0 := by
        split at h
        · next he =>
          have := eq_of_beq he
          omega
        · next he =>
          have h3 := Lib.index_ge a [c]
          have h4 : ¬ Lib.index a [c] = -1 := fun e => he (by rw [e]; rfl)
          omega
      have ih := not_mem_of_index a c h2
      simp [hx, ih]
theorem line_sign {s : ByteArray} (h : lineB s = true) : (10 : UInt8) ∉ s.data.toList := by
  unfold lineB at h
  rw [Bool.and_eq_true, Bool.not_eq_true'] at h
  have h2 := h.2
  unfold Lib.contains at h2
  rw [decide_eq_false_iff_not] at h2
  exact not_mem_of_index _ _ (by omega)
theorem digit_in : ∀ (k u : Nat), u < k → ∀ c ∈ Lib.decDigits u, 48 ≤ c.toNat
  | 0, _, h, _, _ => absurd h (Nat.not_lt_zero _)
  | k + 1, u, h, c, hc => by
    rw [Lib.decDigits] at hc
    split at hc
    · rw [List.mem_singleton] at hc
      subst hc
      rw [UInt8.toNat_ofNat']
      omega
    · rw [List.mem_append, List.mem_singleton] at hc
      rcases hc with hc | rfl
      · exact digit_in k (u / 10) (by omega) c hc
      · rw [UInt8.toNat_ofNat']
        omega
theorem itoa_sign {n : Int} (h : 0 ≤ n) {c : UInt8} (hc : c.toNat < 48) : c ∉ Lib.itoa n := by
  unfold Lib.itoa
  rw [if_neg (by omega)]
  intro hm
  have := digit_in _ _ (Nat.lt_succ_self _) c hm
  omega
theorem cutB_ofL (a b : List UInt8) (c : UInt8) (h : c ∉ a) : cutB (ofL (a ++ c :: b)) ⟨#[c]⟩ = (ofL a, ofL b, true) := by
  unfold cutB
  rw [ofL_list]
  show (ofL (Lib.cut (a ++ c :: b) [c]).1, ofL (Lib.cut (a ++ c :: b) [c]).2.1, (Lib.cut (a ++ c :: b) [c]).2.2) = _
  rw [cut_one a b c h]
theorem nextR_written {n : Int} {s : ByteArray} {r : List ByteArray} (h : lineB s = true) : nextR n (ofL (writtenL n (s :: r))) = some (sumB n s, ofL (writtenL (sumB n s) r), s) := by
  have h0 := (sumB_in n s).1
  have e : writtenL n (s :: r) = (Lib.itoa (sumB n s) ++ 32 :: s.data.toList) ++ 10 :: writtenL (sumB n s) r := by simp [writtenL]
  have h1 : cutB (ofL (writtenL n (s :: r))) ⟨#[10]⟩ = (ofL (Lib.itoa (sumB n s) ++ 32 :: s.data.toList), ofL (writtenL (sumB n s) r), true) := by
    rw [e]
    refine cutB_ofL _ _ _ ?_
    rw [List.mem_append, List.mem_cons]
    rintro (hm | hm | hm)
    · exact itoa_sign h0 (by decide) hm
    · cases hm
    · exact line_sign h hm
  have h2 : cutB (ofL (Lib.itoa (sumB n s) ++ 32 :: s.data.toList)) ⟨#[32]⟩ = (itoaB (sumB n s), s, true) := by
    rw [cutB_ofL _ _ _ (itoa_sign h0 (by decide)), ofL_data]
    rfl
  exact nextR_5 h1 h2 h rfl rfl rfl
theorem nextR_empty (n : Int) : nextR n (ofL []) = none := nextR_1 (line := ofL []) (rest := ofL []) rfl
theorem readB_written : ∀ (l : List ByteArray) (k : Nat) (n : Int) (outs : List ByteArray), l.all lineB = true → l.length ≤ k → readB k n (ofL (writtenL n l)) outs = (outs ++ l, ⟨#[]⟩)
  | [], k, n, outs, _, _ => by
    have e : ofL (writtenL n []) = ⟨#[]⟩ := rfl
    cases k with
    | zero => unfold readB; rw [e, List.append_nil]
    | succ k =>
      unfold readB
      have := nextR_empty n
      rw [show ofL (writtenL n []) = ofL [] from rfl, this, List.append_nil]
      rfl
  | s :: r, k, n, outs, h, hk => by
    rw [List.all_cons, Bool.and_eq_true] at h
    cases k with
    | zero => simp at hk
    | succ k =>
      unfold readB
      rw [nextR_written h.1]
      have ih := readB_written r k (sumB n s) (outs ++ [s]) h.2 (by simpa using hk)
      show readB k (sumB n s) (ofL (writtenL (sumB n s) r)) (outs ++ [s]) = _
      rw [ih, List.append_assoc]
      rfl
theorem read_write {l : List ByteArray} (h : l.all lineB = true) (hl : l.length ≤ 60) : readB 60 0 (writtenB l) [] = (l, ⟨#[]⟩) := readB_written l 60 0 [] h hl
end Go.Proofs.YtopiclpameaglaaGreatDoor

set_option maxRecDepth 1000000
namespace Go.Proofs.YtopiclpameaglaaGreatDoor
open Go Go.RowKit
/-- Two lists of texts are equal. -/
def eqT (xs ys : List ByteArray) : Bool := decide (xs = ys)
theorem toList_ne {s t : ByteArray} (h : ¬ s = t) : (s.toList == t.toList) = false := by
  rw [beq_eq_false_iff_ne]
  intro e
  rw [Lib.toList_data, Lib.toList_data] at e
  apply h
  obtain ⟨⟨a⟩⟩ := s
  obtain ⟨⟨b⟩⟩ := t
  simp only at e
  rw [e]
theorem eqT_true {xs ys : List ByteArray} {n : Nat} (hx : xs.length = n) (hy : ys.length = n) (h : ∀ j, j < n → xs.getD j ByteArray.empty = ys.getD j ByteArray.empty) : eqT xs ys = true := by
  unfold eqT
  rw [decide_eq_true_iff]
  refine List.ext_getElem (hx.trans hy.symm) fun i h1 h2 => ?_
  have := h i (by omega)
  simpa [List.getD_eq_getElem?_getD, h1, h2] using this
theorem eqT_false {xs ys : List ByteArray} {k : Nat} (h : xs.getD k ByteArray.empty ≠ ys.getD k ByteArray.empty) : eqT xs ys = false := by
  unfold eqT
  rw [decide_eq_false_iff_not]
  rintro rfl
  exact h rfl
theorem eqT_len {xs ys : List ByteArray} (h : xs.length ≠ ys.length) : eqT xs ys = false := by
  unfold eqT
  rw [decide_eq_false_iff_not]
  rintro rfl
  exact h rfl
theorem all_next {xs ys : List ByteArray} {k : Nat} (h : ∀ j, j < k → xs.getD j ByteArray.empty = ys.getD j ByteArray.empty) (he : xs.getD k ByteArray.empty = ys.getD k ByteArray.empty) :
    ∀ j, j < k + 1 → xs.getD j ByteArray.empty = ys.getD j ByteArray.empty := fun j hj => by
  rcases Nat.lt_succ_iff_lt_or_eq.1 hj with h1 | rfl
  · exact h j h1
  · exact he
/-- What a comparison of texts leaves. -/
def PostT (xs ys : List ByteArray) (w : World) (e : Ending) (w' : World) : Prop := e = .returned (.bool (eqT xs ys)) ∧ ∃ m, w' = w.drewN m
theorem postT_mk {xs ys : List ByteArray} {w : World} {b : Bool} (h : eqT xs ys = b) (m : Nat) : PostT xs ys w (.returned (.bool b)) (w.drewN m) := ⟨by rw [h], m, rfl⟩
theorem postT_mk2 {xs ys : List ByteArray} {w : World} {b : Bool} (h : eqT xs ys = b) (m n : Nat) : PostT xs ys w (.returned (.bool b)) ((w.drewN m).drewN n) := ⟨by rw [h], m + n, by rw [World.drewN_drewN]⟩
theorem same_row (b1 o1 c1 b2 o2 c2 n : Nat) (xs ys : List ByteArray) (w : World) (hn : n ≤ 4611686018427387903) (hx : xs.length = n) (hy : ys.length = n)
    (k1 : ∀ j, j < n → w.cell? ⟨b1, o1 + j, none⟩ = some (.string (xs.getD j ByteArray.empty))) (k2 : ∀ j, j < n → w.cell? ⟨b2, o2 + j, none⟩ = some (.string (ys.getD j ByteArray.empty))) :
    Calls Tryz.prog 9 #[.slice (some ⟨b1, o1, none⟩) n c1, .slice (some ⟨b2, o2, none⟩) n c2] w (PostT xs ys w) := by
  go_enter Tryz.func9, Tryz.ntmps9
  go_wp2
  go_loopw [5] (fun i wr => ∃ (k m : Nat), k ≤ n ∧ i = .int .i64 k ∧ (∀ j, j < k → xs.getD j ByteArray.empty = ys.getD j ByteArray.empty) ∧ wr = w.drewN m) (fun i _ => n - (intOf i).toNat)
  case atStart => exact ⟨0, 0, by omega, rfl, fun j hj => absurd hj (by omega), rfl⟩
  case round =>
    obtain ⟨k, m, hk, rfl, hall, rfl⟩ := hrel
    have HA := Lib.hid hall
    clear hall
    by_cases hlt : k < n
    · have h1 := k1 k hlt
      have h2 := k2 k hlt
      have H1 := Lib.hid k1
      have H2 := Lib.hid k2
      clear k1 k2
      obtain ⟨s, HS⟩ : ∃ s, Hid (s = xs.getD k ByteArray.empty) := ⟨_, rfl⟩
      obtain ⟨t, HT⟩ : ∃ t, Hid (t = ys.getD k ByteArray.empty) := ⟨_, rfl⟩
      rw [← HS.out] at h1
      rw [← HT.out] at h2
      by_cases he : s = t
      · obtain rfl := he
        go_wp2
        go_quiet (fail)
        go_wp2
        go_roundw
        case rel => exact ⟨k + 1, _, by omega, by go_num, all_next HA.out (HS.out.symm.trans HT.out), rfl⟩
        case measure => simp [intOf]; omega
      · have hne := toList_ne he
        go_wp2
        go_quiet (fail)
        go_wp2
        go_ret
        exact postT_mk2 (b := false) (eqT_false fun e => he (HS.out.trans (e.trans HT.out.symm))) m nq
    · obtain rfl : k = n := by omega
      go_wp2
      go_ret
      exact postT_mk (eqT_true hx hy HA.out) m
theorem same_len (a1 a2 : Option Addr) (n1 n2 c1 c2 : Nat) (xs ys : List ByteArray) (w : World) (hx : xs.length = n1) (hy : ys.length = n2) (hne : n1 ≠ n2) :
    Calls Tryz.prog 9 #[.slice a1 n1 c1, .slice a2 n2 c2] w (PostT xs ys w) := by
  have h1 : ((n1 : Int) == (n2 : Int)) = false := by simp; omega
  have HE := Lib.hid (eqT_len (xs := xs) (ys := ys) (by omega))
  clear hx hy hne
  go_enter Tryz.func9, Tryz.ntmps9
  go_wp2
  go_ret
  exact postT_mk HE.out 0
theorem same_zero (a1 a2 : Option Addr) (c1 c2 : Nat) (w : World) :
    Calls Tryz.prog 9 #[.slice a1 0 c1, .slice a2 0 c2] w (PostT [] [] w) := by
  go_enter Tryz.func9, Tryz.ntmps9
  go_wp2
  refine wp_loop_rounds 1 ?_
  rw [rounds_succ]
  go_wp2
  go_ret
  exact postT_mk (xs := []) (ys := []) (b := true) rfl 0
/-- A slice of strings, as a list of them. -/
def Strs (w : World) (v : Value) (xs : List ByteArray) : Prop :=
  xs.length ≤ 4611686018427387903 ∧ ∃ ad c, v = .slice ad xs.length c ∧ (xs.length = 0 ∨ ∃ b o, ad = some ⟨b, o, none⟩ ∧ ∀ j, j < xs.length → w.cell? ⟨b, o + j, none⟩ = some (.string (xs.getD j ByteArray.empty)))
theorem same_c {w : World} {v1 v2 : Value} {xs ys : List ByteArray} (h1 : Strs w v1 xs) (h2 : Strs w v2 ys) : Calls Tryz.prog 9 #[v1, v2] w (PostT xs ys w) := by
  obtain ⟨hn, a1, c1, rfl, h1⟩ := h1
  obtain ⟨_, a2, c2, rfl, h2⟩ := h2
  by_cases hl : xs.length = ys.length
  · by_cases h0 : xs.length = 0
    · obtain rfl := List.eq_nil_of_length_eq_zero h0
      obtain rfl := List.eq_nil_of_length_eq_zero (hl.symm.trans h0)
      exact same_zero a1 a2 c1 c2 w
    · obtain ⟨b1, o1, rfl, k1⟩ := h1.resolve_left h0
      obtain ⟨b2, o2, rfl, k2⟩ := h2.resolve_left (by omega)
      rw [← hl] at k2 ⊢
      exact same_row b1 o1 c1 b2 o2 c2 xs.length xs ys w hn rfl hl.symm k1 k2
  · exact same_len a1 a2 _ _ c1 c2 xs ys w rfl rfl hl
end Go.Proofs.YtopiclpameaglaaGreatDoor

set_option maxRecDepth 1000000
namespace Go.Proofs.YtopiclpameaglaaGreatDoor
open Go Go.RowKit
theorem Strs.below {w w' : World} {v : Value} {xs : List ByteArray} (h : Strs w v xs) (hb : Below w.heap.size w w') : Strs w' v xs := by
  obtain ⟨hn, a, c, rfl, h⟩ := h
  refine ⟨hn, a, c, rfl, h.imp id ?_⟩
  rintro ⟨b, o, rfl, k⟩
  refine ⟨b, o, rfl, fun j hj => ?_⟩
  have h1 := k j hj
  have hlt : b < w.heap.size := by
    rcases Nat.lt_or_ge b w.heap.size with h2 | h2
    · exact h2
    · simp [World.cell?, Array.getElem?_eq_none h2] at h1
  rw [hb.cell (p := ⟨b, o + j, none⟩) hlt]
  exact h1
/-- What a question leaves: the answer; nothing old has turned. -/
def PostB (r : Bool) (w : World) (e : Ending) (w' : World) : Prop := e = .returned (.bool r) ∧ Below w.heap.size w w'
theorem postB_mk {r b : Bool} {w w' : World} (h : r = b) (hb : Below w.heap.size w w') : PostB r w (.returned (.bool b)) w' := ⟨by rw [h], hb⟩
/-- known(), wherever nothing old has turned. -/
def KnownAt (w : World) : Prop := ∀ W, Below w.heap.size w W → Calls Tryz.prog 6 #[] W (PostB true W)
/-- What the world must hold: the variable MaxLen and the table of powers. -/
structure KW (W : World) : Prop where
  ml : ∃ m, W.cell? ⟨0, 0, none⟩ = some (.int .i64 m)
  tab : Lib.TabIs Tryz.prog W "internal/strconv.uint64pow10" .u64 Lib.pow10Tab
  lt : 2 ≤ W.heap.size
theorem gTab : Tryz.prog.globalNamed "internal/strconv.uint64pow10" = some 1 := by kernel_rfl
theorem KW.below {W W' : World} (h : KW W) (hb : Below W.heap.size W W') : KW W' where
  ml := by
    obtain ⟨m, hm⟩ := h.ml
    refine ⟨m, ?_⟩
    rw [hb.cell (p := ⟨0, 0, none⟩) (by show 0 < W.heap.size; have := h.lt; omega)]
    exact hm
  tab := by
    have h1 := h.tab
    unfold Lib.TabIs World.var? at h1 ⊢
    rw [gTab] at h1 ⊢
    simp only [Option.bind_some] at h1 ⊢
    rw [hb.block 1 (by have := h.lt; omega)]
    exact h1
  lt := Nat.le_trans h.lt hb.size
theorem kw_next {w w' : World} (h : Hid (KW w)) (hb : Hid (Below w.heap.size w w')) : Hid (KW w') := Lib.hid (h.out.below hb.out)
theorem bel_next {w0 w w' : World} (h : Hid (Below w0.heap.size w0 w)) (hb : Hid (Below w.heap.size w w')) : Hid (Below w0.heap.size w0 w') := Lib.hid (h.out.trans (hb.out.mono h.out.size))
theorem below_drewN (w : World) (n : Nat) : Below w.heap.size w (w.drewN n) :=
  let h := Below.refl w.heap.size w
  ⟨h.os, h.tape, h.output, h.size, h.block⟩
theorem below_grow (w : World) (os : Array Obj) : Below w.heap.size w (Sort.grow w os) where
  os := rfl
  tape := rfl
  output := rfl
  size := by unfold Sort.grow; simp
  block := fun k hk => by unfold Sort.grow; simp [Array.getElem?_append, hk]
theorem below_bytes (w : World) (s : ByteArray) : Below w.heap.size w (Lib.bytesWorld w 5 s) where
  os := rfl
  tape := rfl
  output := rfl
  size := by rw [Lib.bytesWorld_size]; omega
  block := fun k hk => Lib.bytesWorld_at_old w 5 s k hk
theorem cut_at {w : World} {s sep a b : ByteArray} {c : Bool} (hk : Hid (KW w)) (hs : Hid (s.size < 4294967281)) (hc : Hid (cutB s sep = (a, b, c))) :
    Calls Tryz.prog 20 #[.string s, .string sep] w fun e w' => e = .returned (.tuple #[.string a, .string b, .bool c]) ∧ Hid (Below w.heap.size w w') := by
  obtain ⟨m, hm⟩ := hk.out.ml
  have h := Any.strings_Cut { Tryz.laysCut with } s sep m w hs.out hm
  have e := hc.out
  unfold cutB ofL at e
  simp only [Prod.mk.injEq] at e
  obtain ⟨rfl, rfl, rfl⟩ := e
  exact h.mono fun e w' h2 => ⟨h2.1, Lib.hid (by obtain ⟨n, h3⟩ := h2.2; rw [h3]; exact below_drewN w n)⟩
theorem contains_at {w : World} {s : ByteArray} {c : Bool} (hk : Hid (KW w)) (hs : Hid (s.size < 4294967281)) (hc : Hid (Lib.contains s.data.toList [10] = c)) :
    Calls Tryz.prog 33 #[.string s, .string ⟨#[10]⟩] w fun e w' => e = .returned (.bool c) ∧ w' = w := by
  obtain ⟨m, hm⟩ := hk.out.ml
  have h := Any.strings_Contains { Tryz.laysContains with } s ⟨#[10]⟩ m w hs.out hm
  rw [← hc.out]
  exact h
theorem itoa_at {w : World} {n : Int} {t : ByteArray} (hk : Hid (KW w)) (h0 : 0 ≤ n) (h1 : n < 1000033) (ht : Hid (itoaB n = t)) :
    Calls Tryz.prog 22 #[.int .i64 n] w fun e w' => e = .returned (.string t) ∧ Hid (Below w.heap.size w w') := by
  have h := Any.strconv_Itoa Tryz.laysItoa n (by omega) (by omega) w hk.out.tab
  rw [← ht.out]
  exact h.mono fun e w' h2 => ⟨h2.1, Lib.hid (by obtain ⟨k, os, h3⟩ := h2.2; rw [h3]; exact (below_drewN w k).trans (below_grow (w.drewN k) os))⟩
section
variable {w : World} {s : ByteArray}
set_option maxHeartbeats 1000000 in
theorem line21_1 (h : ¬ 1 ≤ s.size) : Calls Tryz.prog 21 #[.string s] w fun e w' => e = .returned (.bool false) ∧ w' = w := by
  have g1 : ¬ (1 : Int) ≤ (s.size : Int) := by omega
  clear h
  go_enter Tryz.func21, Tryz.ntmps21
  go_wp2
  go_ret
  exact ⟨rfl, rfl⟩
set_option maxHeartbeats 1000000 in
theorem line21_2 (h : 1 ≤ s.size) (h2 : ¬ s.size ≤ 200) : Calls Tryz.prog 21 #[.string s] w fun e w' => e = .returned (.bool false) ∧ w' = w := by
  have g1 : (1 : Int) ≤ (s.size : Int) := by omega
  have g2 : ¬ (s.size : Int) ≤ 200 := by omega
  clear h h2
  go_enter Tryz.func21, Tryz.ntmps21
  go_wp2
  go_ret
  exact ⟨rfl, rfl⟩
set_option maxHeartbeats 1000000 in
theorem line21_3 (hk : Hid (KW w)) (hs : Hid (s.size < 4294967281)) (h : 1 ≤ s.size) (h2 : s.size ≤ 200) (hc : Hid (Lib.contains s.data.toList [10] = true)) : Calls Tryz.prog 21 #[.string s] w fun e w' => e = .returned (.bool false) ∧ w' = w := by
  have g1 : (1 : Int) ≤ (s.size : Int) := by omega
  have g2 : (s.size : Int) ≤ 200 := by omega
  clear h h2
  go_enter Tryz.func21, Tryz.ntmps21
  go_wp2_with (go_at_call 33; refine (contains_at hk hs hc).mono ?_; rintro e w' ⟨rfl, rfl⟩)
  go_ret
  exact ⟨rfl, rfl⟩
set_option maxHeartbeats 1000000 in
theorem line21_4 (hk : Hid (KW w)) (hs : Hid (s.size < 4294967281)) (h : 1 ≤ s.size) (h2 : s.size ≤ 200) (hc : Hid (Lib.contains s.data.toList [10] = false)) : Calls Tryz.prog 21 #[.string s] w fun e w' => e = .returned (.bool true) ∧ w' = w := by
  have g1 : (1 : Int) ≤ (s.size : Int) := by omega
  have g2 : (s.size : Int) ≤ 200 := by omega
  clear h h2
  go_enter Tryz.func21, Tryz.ntmps21
  go_wp2_with (go_at_call 33; refine (contains_at hk hs hc).mono ?_; rintro e w' ⟨rfl, rfl⟩)
  go_ret
  exact ⟨rfl, rfl⟩
theorem lineB_cases {b : Bool} (h : lineB s = b) : (¬ 1 ≤ s.size ∧ b = false) ∨ (1 ≤ s.size ∧ ¬ s.size ≤ 200 ∧ b = false) ∨ (1 ≤ s.size ∧ s.size ≤ 200 ∧ b = !(Lib.contains s.data.toList [10])) := by
  subst h
  unfold lineB
  by_cases h1 : 1 ≤ s.size
  · by_cases h2 : s.size ≤ 200
    · exact .inr (.inr ⟨h1, h2, by rw [decide_eq_true h1, decide_eq_true h2]; rfl⟩)
    · exact .inr (.inl ⟨h1, h2, by rw [decide_eq_false h2, Bool.and_false, Bool.false_and]⟩)
  · exact .inl ⟨h1, by rw [decide_eq_false h1, Bool.false_and, Bool.false_and]⟩
theorem line21_any {b : Bool} (hk : Hid (KW w)) (h : Hid (lineB s = b)) : Calls Tryz.prog 21 #[.string s] w fun e w' => e = .returned (.bool b) ∧ w' = w := by
  rcases lineB_cases h.out with ⟨h1, rfl⟩ | ⟨h1, h2, rfl⟩ | ⟨h1, h2, rfl⟩
  · exact line21_1 h1
  · exact line21_2 h1 h2
  · have hs : Hid (s.size < 4294967281) := Lib.hid (by omega)
    cases hc : Lib.contains s.data.toList [10]
    · exact line21_4 hk hs h1 h2 (Lib.hid hc)
    · exact line21_3 hk hs h1 h2 (Lib.hid hc)
theorem line21_at {b : Bool} (hk : Hid (KW w)) (_hs : Hid (s.size < 4294967281)) (h : Hid (lineB s = b)) : Calls Tryz.prog 21 #[.string s] w fun e w' => e = .returned (.bool b) ∧ w' = w := line21_any hk h
set_option maxHeartbeats 1000000 in
theorem line23_1 (h : ¬ 1 ≤ s.size) : Calls Tryz.prog 23 #[.string s] w fun e w' => e = .returned (.bool false) ∧ w' = w := by
  have g1 : ¬ (1 : Int) ≤ (s.size : Int) := by omega
  clear h
  go_enter Tryz.func23, Tryz.ntmps23
  go_wp2
  go_ret
  exact ⟨rfl, rfl⟩
set_option maxHeartbeats 1000000 in
theorem line23_2 (h : 1 ≤ s.size) (h2 : ¬ s.size ≤ 200) : Calls Tryz.prog 23 #[.string s] w fun e w' => e = .returned (.bool false) ∧ w' = w := by
  have g1 : (1 : Int) ≤ (s.size : Int) := by omega
  have g2 : ¬ (s.size : Int) ≤ 200 := by omega
  clear h h2
  go_enter Tryz.func23, Tryz.ntmps23
  go_wp2
  go_ret
  exact ⟨rfl, rfl⟩
set_option maxHeartbeats 1000000 in
theorem line23_3 (hk : Hid (KW w)) (hs : Hid (s.size < 4294967281)) (h : 1 ≤ s.size) (h2 : s.size ≤ 200) (hc : Hid (Lib.contains s.data.toList [10] = true)) : Calls Tryz.prog 23 #[.string s] w fun e w' => e = .returned (.bool false) ∧ w' = w := by
  have g1 : (1 : Int) ≤ (s.size : Int) := by omega
  have g2 : (s.size : Int) ≤ 200 := by omega
  clear h h2
  go_enter Tryz.func23, Tryz.ntmps23
  go_wp2_with (go_at_call 33; refine (contains_at hk hs hc).mono ?_; rintro e w' ⟨rfl, rfl⟩)
  go_ret
  exact ⟨rfl, rfl⟩
set_option maxHeartbeats 1000000 in
theorem line23_4 (hk : Hid (KW w)) (hs : Hid (s.size < 4294967281)) (h : 1 ≤ s.size) (h2 : s.size ≤ 200) (hc : Hid (Lib.contains s.data.toList [10] = false)) : Calls Tryz.prog 23 #[.string s] w fun e w' => e = .returned (.bool true) ∧ w' = w := by
  have g1 : (1 : Int) ≤ (s.size : Int) := by omega
  have g2 : (s.size : Int) ≤ 200 := by omega
  clear h h2
  go_enter Tryz.func23, Tryz.ntmps23
  go_wp2_with (go_at_call 33; refine (contains_at hk hs hc).mono ?_; rintro e w' ⟨rfl, rfl⟩)
  go_ret
  exact ⟨rfl, rfl⟩
theorem line23_any {b : Bool} (hk : Hid (KW w)) (h : Hid (lineB s = b)) : Calls Tryz.prog 23 #[.string s] w fun e w' => e = .returned (.bool b) ∧ w' = w := by
  rcases lineB_cases h.out with ⟨h1, rfl⟩ | ⟨h1, h2, rfl⟩ | ⟨h1, h2, rfl⟩
  · exact line23_1 h1
  · exact line23_2 h1 h2
  · have hs : Hid (s.size < 4294967281) := Lib.hid (by omega)
    cases hc : Lib.contains s.data.toList [10]
    · exact line23_4 hk hs h1 h2 (Lib.hid hc)
    · exact line23_3 hk hs h1 h2 (Lib.hid hc)
theorem line23_at {b : Bool} (hk : Hid (KW w)) (_hs : Hid (s.size < 4294967281)) (h : Hid (lineB s = b)) : Calls Tryz.prog 23 #[.string s] w fun e w' => e = .returned (.bool b) ∧ w' = w := line23_any hk h
end
section
variable {w : World} {s : ByteArray}
/-- The loop of shop.Sum, over a row of bytes. -/
theorem sum15_row (b : Int) (cap : Nat) (W : World) (hs : s.size ≤ 9223372036854775807) (hb1 : -1000033 < b.tmod 1000033) (hb2 : b.tmod 1000033 < 1000033)
    (hconv : (convert 9 46 (.string s)).run Tryz.prog w = .ok (.slice (some ⟨w.heap.size, 0, none⟩) s.size cap) W)
    (hcell : ∀ j, j < s.size → W.cell? ⟨w.heap.size, j, none⟩ = some (.int .u8 ((s.data.toList.getD j 0).toNat : Int))) :
    Calls Tryz.prog 15 #[.int .i64 b, .string s] w fun e w' => e = .returned (.int .i64 (sumB b s)) ∧ w' = W := by
  have HC := Lib.hid hcell
  clear hcell
  go_enter Tryz.func15, Tryz.ntmps15
  go_wp2
  go_loopw [5, 15] (fun nv iv wr => ∃ k : Nat, k ≤ s.size ∧ iv = .int .i64 k ∧ nv = .int .i64 (sumL b (s.data.toList.take k)) ∧ wr = W) (fun _ iv _ => s.size - (intOf iv).toNat)
  case atStart => exact ⟨0, by omega, rfl, by simp [sumL, normS], rfl⟩
  case round =>
    obtain ⟨k, hk, rfl, rfl, rfl⟩ := hrel
    by_cases hlt : k < s.size
    · have hc := HC.out k hlt
      have HN := Lib.hid (sumL_next b s.data.toList k (by rw [← size_list]; exact hlt))
      have hn := sumL_in b (s.data.toList.take k)
      obtain ⟨n, HE⟩ : ∃ n, Hid (n = sumL b (s.data.toList.take k)) := ⟨_, Lib.hid rfl⟩
      rw [← HE.out] at hn ⊢
      obtain ⟨hn0, hn1⟩ := hn
      obtain ⟨c, HV⟩ : ∃ c, Hid (c = s.data.toList.getD k 0) := ⟨_, Lib.hid rfl⟩
      rw [← HV.out] at hc
      have hc8 : (c.toNat : Int) < 256 := by have := c.toNat_lt; omega
      go_wp2
      go_roundw
      case rel => exact ⟨k + 1, by omega, by go_num, by rw [HN.out, ← HE.out, ← HV.out]; rfl, by first | trivial | rfl⟩
      case measure => simp [intOf]; omega
    · obtain rfl : k = s.size := by omega
      go_wp2
      go_ret
      exact ⟨by rw [size_list, List.take_length]; rfl, by first | rfl | trivial⟩
theorem tmod_in' (b : Int) : -1000033 < b.tmod 1000033 ∧ b.tmod 1000033 < 1000033 := by
  have h1 := Int.tmod_lt_of_pos b (b := 1000033) (by omega)
  have h2 := Int.lt_tmod_of_pos b (b := 1000033) (by omega)
  omega
theorem sum15_big {b m : Int} (hs : Hid (s.size ≤ 9223372036854775807)) (h : Hid (sumB b s = m)) : Calls Tryz.prog 15 #[.int .i64 b, .string s] w fun e w' => e = .returned (.int .i64 m) ∧ Hid (Below w.heap.size w w') := by
  have h1 := sum15_row (w := w) (s := s) b _ (Lib.bytesWorld w 5 s) hs.out (tmod_in' b).1 (tmod_in' b).2 (Lib.run_convert_string_bytes w 9 46 5 s Tryz.underlying9 Tryz.underlying46 Tryz.underlying5) (fun j hj => Lib.bytesWorld_cell w 5 s j hj)
  rw [← h.out]
  exact h1.mono fun e w' h2 => ⟨h2.1, Lib.hid (by rw [h2.2]; exact below_bytes w s)⟩
theorem sum15_at {b m : Int} (_hk : Hid (KW w)) (hs : Hid (s.size < 4294967281)) (h : Hid (sumB b s = m)) : Calls Tryz.prog 15 #[.int .i64 b, .string s] w fun e w' => e = .returned (.int .i64 m) ∧ Hid (Below w.heap.size w w') := sum15_big (Lib.hid (by have := hs.out; omega)) h
theorem sum16_c (b : Int) (hs : s.size ≤ 9223372036854775807) (hb1 : -1000033 < b.tmod 1000033) (hb2 : b.tmod 1000033 < 1000033) :
    Calls Tryz.prog 16 #[.int .i64 b, .string s] w fun e w' => e = .returned (.int .i64 (sumB b s)) ∧ w' = w := by
  go_enter Tryz.func16, Tryz.ntmps16
  go_wp2
  go_loopw [5, 6] (fun nv iv wr => ∃ k : Nat, k ≤ s.size ∧ iv = .int .i64 k ∧ nv = .int .i64 (sumL b (s.data.toList.take k)) ∧ wr = w) (fun _ iv _ => s.size - (intOf iv).toNat)
  case atStart => exact ⟨0, by omega, rfl, by simp [sumL, normS], rfl⟩
  case round =>
    obtain ⟨k, hk, rfl, rfl, rfl⟩ := hrel
    by_cases hlt : k < s.size
    · have HN := Lib.hid (sumL_next b s.data.toList k (by rw [← size_list]; exact hlt))
      have hn := sumL_in b (s.data.toList.take k)
      obtain ⟨n, HE⟩ : ∃ n, Hid (n = sumL b (s.data.toList.take k)) := ⟨_, Lib.hid rfl⟩
      rw [← HE.out] at hn ⊢
      obtain ⟨hn0, hn1⟩ := hn
      have hc8 : ((s[k]'hlt).toNat : Int) < 256 := by have := (s[k]'hlt).toNat_lt; omega
      have HV : Hid (s[k]'hlt = s.data.toList.getD k 0) := Lib.hid (by
        obtain ⟨⟨l⟩⟩ := s
        have hl : k < l.length := hlt
        show l[k] = l.getD k 0
        simp [List.getD_eq_getElem?_getD, hl])
      go_wp2
      go_roundw
      case rel => exact ⟨k + 1, by omega, by go_num, by rw [HN.out, ← HE.out, ← HV.out]; rfl, by first | trivial | rfl⟩
      case measure => simp [intOf]; omega
    · obtain rfl : k = s.size := by omega
      go_wp2
      go_ret
      exact ⟨by rw [size_list, List.take_length]; rfl, by first | rfl | trivial⟩
theorem sum16_big {b m : Int} (hs : Hid (s.size ≤ 9223372036854775807)) (h : Hid (sumB b s = m)) : Calls Tryz.prog 16 #[.int .i64 b, .string s] w fun e w' => e = .returned (.int .i64 m) ∧ Hid (Below w.heap.size w w') := by
  have h1 := sum16_c (w := w) (s := s) b hs.out (tmod_in' b).1 (tmod_in' b).2
  rw [← h.out]
  exact h1.mono fun e w' h2 => ⟨h2.1, Lib.hid (by rw [h2.2]; exact Below.refl _ _)⟩
theorem sum16_at {b m : Int} (_hk : Hid (KW w)) (hs : Hid (s.size < 4294967281)) (h : Hid (sumB b s = m)) : Calls Tryz.prog 16 #[.int .i64 b, .string s] w fun e w' => e = .returned (.int .i64 m) ∧ Hid (Below w.heap.size w w') := sum16_big (Lib.hid (by have := hs.out; omega)) h
end
end Go.Proofs.YtopiclpameaglaaGreatDoor

set_option maxRecDepth 1000000
namespace Go.Proofs.YtopiclpameaglaaGreatDoor
open Go Go.RowKit Go.Maps
def lenV : Value → Nat
  | .slice _ n _ => n
  | _ => 0
theorem row_form {w : World} {B n : Nat} {v : Value} {xs : List Value} (h : w.ownsRow B 9 1 v n xs) : ∃ ad cap, v = .slice ad n cap := by
  rcases h.2 with ⟨rfl, h0⟩ | ⟨g, cap, cur, rfl, _⟩
  · exact ⟨none, 0, by rw [h0]⟩
  · exact ⟨_, _, rfl⟩
theorem lenV_row {w : World} {B n : Nat} {v : Value} {xs : List Value} (h : w.ownsRow B 9 1 v n xs) : lenV v = n := by
  obtain ⟨ad, cap, rfl⟩ := row_form h
  rfl
theorem row_below {w w' : World} {B n : Nat} {v : Value} {xs : List Value} (h : w.ownsRow B 9 1 v n xs) (hb : Below w.heap.size w w') : w'.ownsRow B 9 1 v n xs := by
  refine ⟨h.1, ?_⟩
  rcases h.2 with h0 | ⟨g, cap, cur, h1, h2, h3, h4⟩
  · exact .inl h0
  · refine .inr ⟨g, cap, cur, h1, h2, ?_, h4⟩
    rw [hb.block g (Array.getElem?_eq_some_iff.1 h3).1]
    exact h3
theorem strs_of_row {w : World} {B : Nat} {v : Value} {xs : List ByteArray} (h : w.ownsRow B 9 1 v xs.length (xs.map Value.string)) (hn : xs.length ≤ 60) : Strs w v xs := by
  refine ⟨by omega, ?_⟩
  rcases h.2 with ⟨rfl, h0⟩ | ⟨g, cap, cur, rfl, hb, hg, h1, h2, h3, h4⟩
  · exact ⟨none, 0, by rw [h0], .inl h0⟩
  · refine ⟨some ⟨g, 0, none⟩, cap, rfl, .inr ⟨g, 0, rfl, fun j hj => ?_⟩⟩
    have h5 : (cur.toList.take (xs.length * 1))[j]? = (xs.map Value.string)[j]? := by rw [h4]
    rw [List.getElem?_take, if_pos (by omega), List.getElem?_map, List.getElem?_eq_getElem hj] at h5
    have h6 : cur[j]? = some (.string xs[j]) := by simpa using h5
    have h7 : xs.getD j ByteArray.empty = xs[j] := by simp [List.getD_eq_getElem?_getD, hj]
    rw [h7]
    simp [World.cell?, hg, h6]
/-- What holds as a book is read. -/
structure InL (w wr : World) (R : List ByteArray × ByteArray) (v : Value) (sum : Int) (book : ByteArray) (outs : List ByteArray) : Prop where
  len : outs.length ≤ 60
  s0 : 0 ≤ sum
  s1 : sum < 1000033
  bk : book.size ≤ 131072
  row : wr.ownsRow w.heap.size 9 1 v outs.length (outs.map Value.string)
  bel : Below w.heap.size w wr
  rd : readB (60 - outs.length) sum book outs = R
/-- What reading a book leaves. -/
def PostR (R : List ByteArray × ByteArray) (w : World) (e : Ending) (w' : World) : Prop := ∃ v, e = .returned (.tuple #[v, .string R.2]) ∧ Strs w' v R.1 ∧ Below w.heap.size w w'
section
variable {w wo w' : World} {R : List ByteArray × ByteArray} {v : Value} {sum sm : Int} {book rest order : ByteArray} {outs : List ByteArray}
theorem InL.next (h : InL w wo R v sum book outs) (hb : Below wo.heap.size wo w') : InL w w' R v sum book outs :=
  ⟨h.len, h.s0, h.s1, h.bk, row_below h.row hb, h.bel.trans (hb.mono h.bel.size), h.rd⟩
theorem InL.stop (h : InL w wo R v sum book outs) (hlt : outs.length < 60) (hn : nextR sum book = none) (hb : Below wo.heap.size wo w') : PostR R w (.returned (.tuple #[v, .string book])) w' := by
  have h' := h.next hb
  have e := h'.rd
  rw [readB_stop hlt hn] at e
  subst e
  exact ⟨v, rfl, strs_of_row h'.row h'.len, h'.bel⟩
theorem InL.full (h : InL w wo R v sum book outs) (hlt : ¬ outs.length < 60) : PostR R w (.returned (.tuple #[v, .string book])) wo := by
  have hl := h.len
  have e := h.rd
  rw [show 60 - outs.length = 0 by omega] at e
  unfold readB at e
  subst e
  exact ⟨v, rfl, strs_of_row h.row h.len, h.bel⟩
theorem InL.more {o : Obj} {v' : Value} {w6 : World} (h : InL w wo R v sum book outs) (hlt : outs.length < 60) (hn : nextR sum book = some (sm, rest, order)) (hsm : 0 ≤ sm ∧ sm < 1000033) (hrest : rest.size ≤ book.size)
    (hown : w6.ownsRow w.heap.size 9 1 v' (outs.length + 1) (outs.map Value.string ++ [.string order])) (hg : (wo.alloc o).grownBy w6 v.ownBlock) : InL w w6 R v' sm rest (outs ++ [order]) where
  len := by rw [List.length_append, List.length_singleton]; omega
  s0 := hsm.1
  s1 := hsm.2
  bk := by have := h.bk; omega
  row := by
    rw [List.length_append, List.length_singleton, List.map_append, List.map_singleton]
    exact hown
  bel := (h.bel.alloc h.bel.size o).grown hg (by have := h.bel.size; simp; omega) (fun k hk => (h.row.lt k hk).1)
  rd := by
    have e := h.rd
    rw [readB_next hlt hn] at e
    rw [List.length_append, List.length_singleton]
    exact e
end
theorem info9w : (Tryz.prog.info? 9).map (fun i => (i.zero, i.size, i.bytes)) = some (some (.string ⟨#[]⟩), 1, 16) := by kernel_rfl
set_option maxHeartbeats 1600000 in
theorem read7_c {w : World} {s : ByteArray} (hk : KW w) (hs : s.size ≤ 131072) : Calls Tryz.prog 7 #[.string s] w (PostR (readB 60 0 s []) w) := by
  obtain ⟨i0, hi, hz0, hz1, hz2⟩ := info_parts info9w
  have HK := Lib.hid hk
  obtain ⟨R, HR⟩ : ∃ R, Hid (readB 60 0 s [] = R) := ⟨_, Lib.hid rfl⟩
  rw [HR.out]
  have HST : Hid (InL w w R (.slice none 0 0) 0 s []) := Lib.hid ⟨by simp, by omega, by omega, hs, ⟨by simp, .inl ⟨rfl, rfl⟩⟩, Below.refl _ _, HR.out⟩
  clear hk hs HR
  go_enter Tryz.func7, Tryz.ntmps7
  go_wp2
  go_loopw [0, 4, 5] (fun bv v sv wr => ∃ (sum : Int) (book : ByteArray) (outs : List ByteArray), bv = .string book ∧ sv = .int .i64 sum ∧ Hid (InL w wr R v sum book outs)) (fun _ v _ _ => 60 - lenV v)
  case atStart => exact ⟨0, s, [], rfl, rfl, HST⟩
  case round =>
    clear HST
    obtain ⟨sum, book, outs, rfl, rfl, HIN⟩ := hrel
    obtain ⟨wo, rfl⟩ : ∃ wo : World, wo = wr := ⟨_, rfl⟩
    obtain ⟨ad, cap, rfl⟩ := row_form HIN.out.row
    have HK0 : Hid (KW wo) := Lib.hid (HK.out.below HIN.out.bel)
    have HWO : Hid (Below wo.heap.size wo wo) := Lib.hid (Below.refl _ _)
    by_cases hlt : outs.length < 60
    · obtain ⟨⟨line, rest, is⟩, HC1⟩ : ∃ p, Hid (cutB book ⟨#[10]⟩ = p) := ⟨_, Lib.hid rfl⟩
      obtain ⟨⟨n, order, ok⟩, HC2⟩ : ∃ p, Hid (cutB line ⟨#[32]⟩ = p) := ⟨_, Lib.hid rfl⟩
      have HSB : Hid (book.size < 4294967281) := Lib.hid (by have := HIN.out.bk; omega)
      have HSL : Hid (line.size < 4294967281) := Lib.hid (by have := HIN.out.bk; have := (cutB_size HC1.out).1; omega)
      have HSO : Hid (order.size < 4294967281) := Lib.hid (by have := HIN.out.bk; have := (cutB_size HC1.out).1; have := (cutB_size HC2.out).2; omega)
      cases is
      · go_wp2_with (first
            | (go_at_call 20; refine (cut_at (a := line) (b := rest) (c := false) ?_ ?_ ?_).mono ?_; exact HK0; exact HSB; exact HC1; rintro e w1 ⟨rfl, HB1⟩; have HK1 := kw_next HK0 HB1)
            | (go_at_call 20; refine (cut_at (a := n) (b := order) (c := ok) ?_ ?_ ?_).mono ?_; exact HK1; exact HSL; exact HC2; rintro e w2 ⟨rfl, HB2⟩; have HK2 := kw_next HK1 HB2; have HW2 := bel_next (bel_next HWO HB1) HB2)
            | go_in)
        go_ret2
        exact HIN.out.stop hlt (nextR_1 HC1.out) HW2.out
      · cases ok
        · go_wp2_with (first
            | (go_at_call 20; refine (cut_at (a := line) (b := rest) (c := true) ?_ ?_ ?_).mono ?_; exact HK0; exact HSB; exact HC1; rintro e w1 ⟨rfl, HB1⟩; have HK1 := kw_next HK0 HB1)
            | (go_at_call 20; refine (cut_at (a := n) (b := order) (c := false) ?_ ?_ ?_).mono ?_; exact HK1; exact HSL; exact HC2; rintro e w2 ⟨rfl, HB2⟩; have HK2 := kw_next HK1 HB2; have HW2 := bel_next (bel_next HWO HB1) HB2)
            | go_in)
          go_ret2
          exact HIN.out.stop hlt (nextR_2 HC1.out HC2.out) HW2.out
        · cases hL : lineB order
          · have HL := Lib.hid hL
            clear hL
            go_wp2_with (first
            | (go_at_call 20; refine (cut_at (a := line) (b := rest) (c := true) ?_ ?_ ?_).mono ?_; exact HK0; exact HSB; exact HC1; rintro e w1 ⟨rfl, HB1⟩; have HK1 := kw_next HK0 HB1)
            | (go_at_call 20; refine (cut_at (a := n) (b := order) (c := true) ?_ ?_ ?_).mono ?_; exact HK1; exact HSL; exact HC2; rintro e w2 ⟨rfl, HB2⟩; have HK2 := kw_next HK1 HB2; have HW2 := bel_next (bel_next HWO HB1) HB2)
            | (go_at_call 21; refine (line21_at HK2 HSO HL).mono ?_; rintro e w3 ⟨rfl, rfl⟩)
            | go_in)
            go_ret2
            exact HIN.out.stop hlt (nextR_3 HC1.out HC2.out HL.out) HW2.out
          · have HL := Lib.hid hL
            clear hL
            obtain ⟨sm, HS⟩ : ∃ sm, Hid (sumB sum order = sm) := ⟨_, Lib.hid rfl⟩
            obtain ⟨it, HI⟩ : ∃ it, Hid (itoaB sm = it) := ⟨_, Lib.hid rfl⟩
            have hm0 : 0 ≤ sm := by rw [← HS.out]; exact (sumB_in _ _).1
            have hm1 : sm < 1000033 := by rw [← HS.out]; exact (sumB_in _ _).2
            by_cases he : n = it
            · obtain rfl := he
              have HM := Lib.hid (nextR_5 HC1.out HC2.out HL.out HS.out HI.out rfl)
              have HRS := Lib.hid (cutB_size HC1.out).2
              go_wp2_with (first
            | (go_at_call 20; refine (cut_at (a := line) (b := rest) (c := true) ?_ ?_ ?_).mono ?_; exact HK0; exact HSB; exact HC1; rintro e w1 ⟨rfl, HB1⟩; have HK1 := kw_next HK0 HB1)
            | (go_at_call 20; refine (cut_at (a := n) (b := order) (c := true) ?_ ?_ ?_).mono ?_; exact HK1; exact HSL; exact HC2; rintro e w2 ⟨rfl, HB2⟩; have HK2 := kw_next HK1 HB2; have HW2 := bel_next (bel_next HWO HB1) HB2)
            | (go_at_call 21; refine (line21_at HK2 HSO HL).mono ?_; rintro e w3 ⟨rfl, rfl⟩)
            | (go_at_call 15; refine (sum15_at (m := sm) ?_ ?_ ?_).mono ?_; exact HK2; exact HSO; exact HS; rintro e w4 ⟨rfl, HB4⟩; have HK4 := kw_next HK2 HB4; have HW4 := bel_next HW2 HB4)
            | (go_at_call 22; refine (itoa_at HK4 hm0 hm1 HI).mono ?_; rintro e w5 ⟨rfl, HB5⟩; have HK5 := kw_next HK4 HB5; have HW5 := bel_next HW4 HB5)
            | (go_at_call 15; refine (sum15_at (m := sm) ?_ ?_ ?_).mono ?_; exact HK5; exact HSO; exact HS; rintro e w6 ⟨rfl, HB6⟩; have HI6 := HIN.out.next (bel_next HW5 HB6).out; have hrow6 := HI6.row; have hsz6 := HI6.bel.size; have HI7 := Lib.hid HI6; clear HI6)
            | (at_builtin; refine wpList_append_own _ rfl _ _ 23 rfl w.heap.size 9 i0 (.string ⟨#[]⟩) 1 16 Tryz.underlying23 hi hz0 hz1 hz2 rfl (by decide) _ _ _ rfl (hrow6.alloc _) ⟨w6.heap.size, 0, none⟩ 1 1 [.string order] rfl rfl (cell_one_new _ _ _) (by simp [Value.oneCell']) (by unfold maxLen; omega) (by omega) (by simp; omega) ?_; intro v' w7 hown' hg7 hnil7; go_frame)
            | go_in)
              go_roundw
              case rel => exact ⟨sm, rest, outs ++ [order], rfl, rfl, Lib.hid (HI7.out.more hlt HM.out ⟨hm0, hm1⟩ HRS.out hown' hg7)⟩
              case measure =>
                have hl7 := lenV_row hown'
                have hl8 : lenV (.slice ad outs.length cap) = outs.length := rfl
                first
                  | (simp [hl7, hl8]; omega)
                  | (rw [hl7, hl8]; omega)
                  | (simp only [hl7, hl8]; omega)
            · have hne := toList_ne he
              have HM := Lib.hid (nextR_4 HC1.out HC2.out HS.out HI.out he)
              clear he
              go_wp2_with (first
            | (go_at_call 20; refine (cut_at (a := line) (b := rest) (c := true) ?_ ?_ ?_).mono ?_; exact HK0; exact HSB; exact HC1; rintro e w1 ⟨rfl, HB1⟩; have HK1 := kw_next HK0 HB1)
            | (go_at_call 20; refine (cut_at (a := n) (b := order) (c := true) ?_ ?_ ?_).mono ?_; exact HK1; exact HSL; exact HC2; rintro e w2 ⟨rfl, HB2⟩; have HK2 := kw_next HK1 HB2; have HW2 := bel_next (bel_next HWO HB1) HB2)
            | (go_at_call 21; refine (line21_at HK2 HSO HL).mono ?_; rintro e w3 ⟨rfl, rfl⟩)
            | (go_at_call 15; refine (sum15_at (m := sm) ?_ ?_ ?_).mono ?_; exact HK2; exact HSO; exact HS; rintro e w4 ⟨rfl, HB4⟩; have HK4 := kw_next HK2 HB4; have HW4 := bel_next HW2 HB4)
            | (go_at_call 22; refine (itoa_at HK4 hm0 hm1 HI).mono ?_; rintro e w5 ⟨rfl, HB5⟩; have HK5 := kw_next HK4 HB5; have HW5 := bel_next HW4 HB5)
            | go_in)
              go_ret2
              exact HIN.out.stop hlt HM.out HW5.out
    · have HF := Lib.hid hlt
      go_wp2
      go_ret2
      exact HIN.out.full HF.out
set_option maxHeartbeats 1600000 in
theorem read8_c {w : World} {s : ByteArray} (hk : KW w) (hs : s.size ≤ 131072) : Calls Tryz.prog 8 #[.string s] w (PostR (readB 60 0 s []) w) := by
  obtain ⟨i0, hi, hz0, hz1, hz2⟩ := info_parts info9w
  have HK := Lib.hid hk
  obtain ⟨R, HR⟩ : ∃ R, Hid (readB 60 0 s [] = R) := ⟨_, Lib.hid rfl⟩
  rw [HR.out]
  have HST : Hid (InL w w R (.slice none 0 0) 0 s []) := Lib.hid ⟨by simp, by omega, by omega, hs, ⟨by simp, .inl ⟨rfl, rfl⟩⟩, Below.refl _ _, HR.out⟩
  clear hk hs HR
  go_enter Tryz.func8, Tryz.ntmps8
  go_wp2
  go_loopw [0, 4, 5] (fun bv v sv wr => ∃ (sum : Int) (book : ByteArray) (outs : List ByteArray), bv = .string book ∧ sv = .int .i64 sum ∧ Hid (InL w wr R v sum book outs)) (fun _ v _ _ => 60 - lenV v)
  case atStart => exact ⟨0, s, [], rfl, rfl, HST⟩
  case round =>
    clear HST
    obtain ⟨sum, book, outs, rfl, rfl, HIN⟩ := hrel
    obtain ⟨wo, rfl⟩ : ∃ wo : World, wo = wr := ⟨_, rfl⟩
    obtain ⟨ad, cap, rfl⟩ := row_form HIN.out.row
    have HK0 : Hid (KW wo) := Lib.hid (HK.out.below HIN.out.bel)
    have HWO : Hid (Below wo.heap.size wo wo) := Lib.hid (Below.refl _ _)
    by_cases hlt : outs.length < 60
    · obtain ⟨⟨line, rest, is⟩, HC1⟩ : ∃ p, Hid (cutB book ⟨#[10]⟩ = p) := ⟨_, Lib.hid rfl⟩
      obtain ⟨⟨n, order, ok⟩, HC2⟩ : ∃ p, Hid (cutB line ⟨#[32]⟩ = p) := ⟨_, Lib.hid rfl⟩
      have HSB : Hid (book.size < 4294967281) := Lib.hid (by have := HIN.out.bk; omega)
      have HSL : Hid (line.size < 4294967281) := Lib.hid (by have := HIN.out.bk; have := (cutB_size HC1.out).1; omega)
      have HSO : Hid (order.size < 4294967281) := Lib.hid (by have := HIN.out.bk; have := (cutB_size HC1.out).1; have := (cutB_size HC2.out).2; omega)
      cases is
      · go_wp2_with (first
            | (go_at_call 20; refine (cut_at (a := line) (b := rest) (c := false) ?_ ?_ ?_).mono ?_; exact HK0; exact HSB; exact HC1; rintro e w1 ⟨rfl, HB1⟩; have HK1 := kw_next HK0 HB1)
            | (go_at_call 20; refine (cut_at (a := n) (b := order) (c := ok) ?_ ?_ ?_).mono ?_; exact HK1; exact HSL; exact HC2; rintro e w2 ⟨rfl, HB2⟩; have HK2 := kw_next HK1 HB2; have HW2 := bel_next (bel_next HWO HB1) HB2)
            | go_in)
        go_ret2
        exact HIN.out.stop hlt (nextR_1 HC1.out) HW2.out
      · cases ok
        · go_wp2_with (first
            | (go_at_call 20; refine (cut_at (a := line) (b := rest) (c := true) ?_ ?_ ?_).mono ?_; exact HK0; exact HSB; exact HC1; rintro e w1 ⟨rfl, HB1⟩; have HK1 := kw_next HK0 HB1)
            | (go_at_call 20; refine (cut_at (a := n) (b := order) (c := false) ?_ ?_ ?_).mono ?_; exact HK1; exact HSL; exact HC2; rintro e w2 ⟨rfl, HB2⟩; have HK2 := kw_next HK1 HB2; have HW2 := bel_next (bel_next HWO HB1) HB2)
            | go_in)
          go_ret2
          exact HIN.out.stop hlt (nextR_2 HC1.out HC2.out) HW2.out
        · cases hL : lineB order
          · have HL := Lib.hid hL
            clear hL
            go_wp2_with (first
            | (go_at_call 20; refine (cut_at (a := line) (b := rest) (c := true) ?_ ?_ ?_).mono ?_; exact HK0; exact HSB; exact HC1; rintro e w1 ⟨rfl, HB1⟩; have HK1 := kw_next HK0 HB1)
            | (go_at_call 20; refine (cut_at (a := n) (b := order) (c := true) ?_ ?_ ?_).mono ?_; exact HK1; exact HSL; exact HC2; rintro e w2 ⟨rfl, HB2⟩; have HK2 := kw_next HK1 HB2; have HW2 := bel_next (bel_next HWO HB1) HB2)
            | (go_at_call 23; refine (line23_at HK2 HSO HL).mono ?_; rintro e w3 ⟨rfl, rfl⟩)
            | go_in)
            go_ret2
            exact HIN.out.stop hlt (nextR_3 HC1.out HC2.out HL.out) HW2.out
          · have HL := Lib.hid hL
            clear hL
            obtain ⟨sm, HS⟩ : ∃ sm, Hid (sumB sum order = sm) := ⟨_, Lib.hid rfl⟩
            obtain ⟨it, HI⟩ : ∃ it, Hid (itoaB sm = it) := ⟨_, Lib.hid rfl⟩
            have hm0 : 0 ≤ sm := by rw [← HS.out]; exact (sumB_in _ _).1
            have hm1 : sm < 1000033 := by rw [← HS.out]; exact (sumB_in _ _).2
            by_cases he : n = it
            · obtain rfl := he
              have HM := Lib.hid (nextR_5 HC1.out HC2.out HL.out HS.out HI.out rfl)
              have HRS := Lib.hid (cutB_size HC1.out).2
              go_wp2_with (first
            | (go_at_call 20; refine (cut_at (a := line) (b := rest) (c := true) ?_ ?_ ?_).mono ?_; exact HK0; exact HSB; exact HC1; rintro e w1 ⟨rfl, HB1⟩; have HK1 := kw_next HK0 HB1)
            | (go_at_call 20; refine (cut_at (a := n) (b := order) (c := true) ?_ ?_ ?_).mono ?_; exact HK1; exact HSL; exact HC2; rintro e w2 ⟨rfl, HB2⟩; have HK2 := kw_next HK1 HB2; have HW2 := bel_next (bel_next HWO HB1) HB2)
            | (go_at_call 23; refine (line23_at HK2 HSO HL).mono ?_; rintro e w3 ⟨rfl, rfl⟩)
            | (go_at_call 16; refine (sum16_at (m := sm) ?_ ?_ ?_).mono ?_; exact HK2; exact HSO; exact HS; rintro e w4 ⟨rfl, HB4⟩; have HK4 := kw_next HK2 HB4; have HW4 := bel_next HW2 HB4)
            | (go_at_call 22; refine (itoa_at HK4 hm0 hm1 HI).mono ?_; rintro e w5 ⟨rfl, HB5⟩; have HK5 := kw_next HK4 HB5; have HW5 := bel_next HW4 HB5)
            | (go_at_call 16; refine (sum16_at (m := sm) ?_ ?_ ?_).mono ?_; exact HK5; exact HSO; exact HS; rintro e w6 ⟨rfl, HB6⟩; have HI6 := HIN.out.next (bel_next HW5 HB6).out; have hrow6 := HI6.row; have hsz6 := HI6.bel.size; have HI7 := Lib.hid HI6; clear HI6)
            | (at_builtin; refine wpList_append_own _ rfl _ _ 23 rfl w.heap.size 9 i0 (.string ⟨#[]⟩) 1 16 Tryz.underlying23 hi hz0 hz1 hz2 rfl (by decide) _ _ _ rfl (hrow6.alloc _) ⟨w6.heap.size, 0, none⟩ 1 1 [.string order] rfl rfl (cell_one_new _ _ _) (by simp [Value.oneCell']) (by unfold maxLen; omega) (by omega) (by simp; omega) ?_; intro v' w7 hown' hg7 hnil7; go_frame)
            | go_in)
              go_roundw
              case rel => exact ⟨sm, rest, outs ++ [order], rfl, rfl, Lib.hid (HI7.out.more hlt HM.out ⟨hm0, hm1⟩ HRS.out hown' hg7)⟩
              case measure =>
                have hl7 := lenV_row hown'
                have hl8 : lenV (.slice ad outs.length cap) = outs.length := rfl
                first
                  | (simp [hl7, hl8]; omega)
                  | (rw [hl7, hl8]; omega)
                  | (simp only [hl7, hl8]; omega)
            · have hne := toList_ne he
              have HM := Lib.hid (nextR_4 HC1.out HC2.out HS.out HI.out he)
              clear he
              go_wp2_with (first
            | (go_at_call 20; refine (cut_at (a := line) (b := rest) (c := true) ?_ ?_ ?_).mono ?_; exact HK0; exact HSB; exact HC1; rintro e w1 ⟨rfl, HB1⟩; have HK1 := kw_next HK0 HB1)
            | (go_at_call 20; refine (cut_at (a := n) (b := order) (c := true) ?_ ?_ ?_).mono ?_; exact HK1; exact HSL; exact HC2; rintro e w2 ⟨rfl, HB2⟩; have HK2 := kw_next HK1 HB2; have HW2 := bel_next (bel_next HWO HB1) HB2)
            | (go_at_call 23; refine (line23_at HK2 HSO HL).mono ?_; rintro e w3 ⟨rfl, rfl⟩)
            | (go_at_call 16; refine (sum16_at (m := sm) ?_ ?_ ?_).mono ?_; exact HK2; exact HSO; exact HS; rintro e w4 ⟨rfl, HB4⟩; have HK4 := kw_next HK2 HB4; have HW4 := bel_next HW2 HB4)
            | (go_at_call 22; refine (itoa_at HK4 hm0 hm1 HI).mono ?_; rintro e w5 ⟨rfl, HB5⟩; have HK5 := kw_next HK4 HB5; have HW5 := bel_next HW4 HB5)
            | go_in)
              go_ret2
              exact HIN.out.stop hlt HM.out HW5.out
    · have HF := Lib.hid hlt
      go_wp2
      go_ret2
      exact HIN.out.full HF.out
end Go.Proofs.YtopiclpameaglaaGreatDoor

set_option maxRecDepth 1000000
namespace Go.Proofs.YtopiclpameaglaaGreatDoor
open Go Go.RowKit
theorem read7_at {w : World} {s rest : ByteArray} {xs : List ByteArray} (hk : Hid (KW w)) (hs : Hid (s.size ≤ 131072)) (h : Hid (readB 60 0 s [] = (xs, rest))) :
    Calls Tryz.prog 7 #[.string s] w fun e w' => ∃ v, e = .returned (.tuple #[v, .string rest]) ∧ Hid (Strs w' v xs) ∧ Hid (Below w.heap.size w w') :=
  (read7_c hk.out hs.out).mono fun e w' hp => by
    rw [h.out] at hp
    obtain ⟨v, h1, h2, h3⟩ := hp
    exact ⟨v, h1, Lib.hid h2, Lib.hid h3⟩
theorem read8_at {w : World} {s rest : ByteArray} {xs : List ByteArray} (hk : Hid (KW w)) (hs : Hid (s.size ≤ 131072)) (h : Hid (readB 60 0 s [] = (xs, rest))) :
    Calls Tryz.prog 8 #[.string s] w fun e w' => ∃ v, e = .returned (.tuple #[v, .string rest]) ∧ Hid (Strs w' v xs) ∧ Hid (Below w.heap.size w w') :=
  (read8_c hk.out hs.out).mono fun e w' hp => by
    rw [h.out] at hp
    obtain ⟨v, h1, h2, h3⟩ := hp
    exact ⟨v, h1, Lib.hid h2, Lib.hid h3⟩
theorem same_at {w : World} {v1 v2 : Value} {xs : List ByteArray} (h1 : Hid (Strs w v1 xs)) (h2 : Hid (Strs w v2 xs)) :
    Calls Tryz.prog 9 #[v1, v2] w fun e w' => e = .returned (.bool true) ∧ Hid (Below w.heap.size w w') :=
  (same_c h1.out h2.out).mono fun e w' hp => by
    obtain ⟨h3, m, rfl⟩ := hp
    exact ⟨by rw [h3, eqT_true rfl rfl fun _ _ => rfl], Lib.hid (below_drewN w m)⟩
theorem strs_next {w w' : World} {v : Value} {xs : List ByteArray} (h : Hid (Strs w v xs)) (hb : Hid (Below w.heap.size w w')) : Hid (Strs w' v xs) := Lib.hid (h.out.below hb.out)
theorem known_at6 {w W : World} (hk : Hid (KnownAt w)) (hb : Hid (Below w.heap.size w W)) : Calls Tryz.prog 6 #[] W fun e w' => e = .returned (.bool true) ∧ Hid (Below W.heap.size W w') :=
  (hk.out W hb.out).mono fun e w' hp => ⟨hp.1, Lib.hid hp.2⟩
set_option maxHeartbeats 4000000 in
theorem law3_c {w : World} {s : ByteArray} (hk : KW w) (hkn : KnownAt w) : Calls Tryz.prog 3 #[.string s] w (PostB true w) := by
  have HK := Lib.hid hk
  have HKN := Lib.hid hkn
  have HW : Hid (Below w.heap.size w w) := Lib.hid (Below.refl _ _)
  clear hk hkn
  by_cases hbig : s.size ≤ 131072
  · obtain ⟨⟨xs, rest⟩, HR⟩ : ∃ p, Hid (readB 60 0 s [] = p) := ⟨_, Lib.hid rfl⟩
    have HS := Lib.hid hbig
    have g1 : ¬ (131072 : Int) < (s.size : Int) := by omega
    clear hbig
    go_enter Tryz.func3, Tryz.ntmps3
    go_wp2_with (first
      | (go_at_call 7; refine (read7_at HK HS HR).mono ?_; rintro e w1 ⟨v1, rfl, HS1, HB1⟩; have HK1 := kw_next HK HB1; have HW1 := bel_next HW HB1)
      | (go_at_call 8; refine (read8_at HK1 HS HR).mono ?_; rintro e w2 ⟨v2, rfl, HS2, HB2⟩; have HW2 := bel_next HW1 HB2; have HT1 := strs_next HS1 HB2)
      | (go_at_call 9; refine (same_at HT1 HS2).mono ?_; rintro e w3 ⟨rfl, HB3⟩; have HW3 := bel_next HW2 HB3)
      | (go_at_call 6; refine (known_at6 HKN HW3).mono ?_; rintro e w4 ⟨rfl, HB4⟩; have HW4 := bel_next HW3 HB4)
      | go_in)
    go_ret
    exact postB_mk rfl HW4.out
  · have g1 : (131072 : Int) < (s.size : Int) := by omega
    clear hbig
    go_enter Tryz.func3, Tryz.ntmps3
    go_wp2_with (go_at_call 6; refine (known_at6 HKN HW).mono ?_; rintro e w4 ⟨rfl, HB4⟩)
    go_ret
    exact postB_mk rfl HB4.out
end Go.Proofs.YtopiclpameaglaaGreatDoor
