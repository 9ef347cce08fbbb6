/-
Two books together, by the program and by the reference: both as one plain function says.
-/
import Derived.Test.YtopiclpameaglaaGreatDoorWalkR
set_option linter.unusedSimpArgs false
set_option linter.unusedVariables false
set_option maxRecDepth 1000000
namespace Go.Proofs.YtopiclpameaglaaGreatDoor
open Go Go.RowKit
theorem strs_open {w : World} {v : Value} {xs : List ByteArray} (h : Hid (Strs w v xs)) : ∃ ad c, v = .slice ad xs.length c ∧ Hid (xs.length ≤ 4611686018427387903 ∧ ∀ k, k < xs.length → ∃ b o, ad = some ⟨b, o, none⟩ ∧ ∀ j, j < xs.length → w.cell? ⟨b, o + j, none⟩ = some (.string (xs.getD j ByteArray.empty))) := by
  obtain ⟨hn, ad, c, rfl, hh⟩ := h.out
  refine ⟨ad, c, rfl, Lib.hid ⟨hn, fun k hk => ?_⟩⟩
  rcases hh with h0 | ⟨b, o, rfl, h1⟩
  · omega
  · exact ⟨b, o, rfl, h1⟩
def PostM (m : ByteArray × Int × Int) (w : World) (e : Ending) (w' : World) : Prop := e = .returned (.tuple #[.string m.1, .int .i64 m.2.1, .int .i64 m.2.2]) ∧ Below w.heap.size w w'
theorem postM_mk {m : ByteArray × Int × Int} {s : ByteArray} {x y : Int} {w w' : World} (h : m = (s, x, y)) (hb : Below w.heap.size w w') : PostM m w (.returned (.tuple #[.string s, .int .i64 x, .int .i64 y])) w' := by
  subst h
  exact ⟨rfl, hb⟩
theorem list_ne {s : ByteArray} (h : ¬ s = ⟨#[]⟩) : (s.toList == (⟨#[]⟩ : ByteArray).toList) = false ∧ (s.toList == []) = false ∧ s.toList.isEmpty = false ∧ ¬ s.toList = [] := by
  have h1 := toList_ne h
  have e : (⟨#[]⟩ : ByteArray).toList = [] := by rw [Lib.toList_data]
  have h2 := h1
  rw [e] at h2
  have h3 : ¬ s.toList = [] := by simpa using h2
  exact ⟨h1, h2, by simpa using h3, h3⟩
section
variable {a b ra rb : ByteArray} {ks ls : List ByteArray}
theorem mergeB_1 (h1 : readB 60 0 a [] = (ks, ra)) (h : ¬ ra = ⟨#[]⟩) : mergeB a b = (⟨#[]⟩, 0, 11) := by
  unfold mergeB
  rw [h1, if_pos (.inl h)]
theorem mergeB_2 (h2 : readB 60 0 b [] = (ls, rb)) (h : ¬ rb = ⟨#[]⟩) : mergeB a b = (⟨#[]⟩, 0, 11) := by
  unfold mergeB
  rw [h2, if_pos (.inr h)]
theorem mergeB_3 (h1 : readB 60 0 a [] = (ks, ⟨#[]⟩)) (h2 : readB 60 0 b [] = (ls, ⟨#[]⟩)) {i : Nat} (h : diffAt ks ls = some i) : mergeB a b = (⟨#[]⟩, (i : Int), 8) := by
  unfold mergeB
  rw [h1, h2, if_neg (by simp), h]
theorem mergeB_4 (h1 : readB 60 0 a [] = (ks, ⟨#[]⟩)) (h2 : readB 60 0 b [] = (ls, ⟨#[]⟩)) (h : diffAt ks ls = none) (hl : ks.length < ls.length) : mergeB a b = (b, (ls.length : Int), 0) := by
  unfold mergeB
  rw [h1, h2, if_neg (by simp), h]
  show (if ks.length < ls.length then _ else _) = _
  rw [if_pos hl]
theorem mergeB_5 (h1 : readB 60 0 a [] = (ks, ⟨#[]⟩)) (h2 : readB 60 0 b [] = (ls, ⟨#[]⟩)) (h : diffAt ks ls = none) (hl : ¬ ks.length < ls.length) : mergeB a b = (a, (ks.length : Int), 0) := by
  unfold mergeB
  rw [h1, h2, if_neg (by simp), h]
  show (if ks.length < ls.length then _ else _) = _
  rw [if_neg hl]
end
theorem below_draw {w0 w2 : World} (h : Hid (Below w0.heap.size w0 w2)) (n : Nat) : Below w0.heap.size w0 (w2.drewN n) := ⟨h.out.os, h.out.tape, h.out.output, h.out.size, h.out.block⟩
theorem below_draw2 {w0 w2 : World} (h : Hid (Below w0.heap.size w0 w2)) (n k : Nat) : Below w0.heap.size w0 ((w2.drewN n).drewN k) := ⟨h.out.os, h.out.tape, h.out.output, h.out.size, h.out.block⟩
set_option maxHeartbeats 1600000 in
theorem merge10_lo {w : World} {a b : ByteArray} {ks ls : List ByteArray} (HR1 : Hid (readB 60 0 a [] = (ks, ⟨#[]⟩))) (HR2 : Hid (readB 60 0 b [] = (ls, ⟨#[]⟩))) (HK : Hid (KW w)) (HSA : Hid (a.size ≤ 131072)) (HSB : Hid (b.size ≤ 131072)) (HW : Hid (Below w.heap.size w w)) (hn1 : ks.length ≤ 60) (hn2 : ls.length ≤ 60) (hm : ls.length < ks.length) : Calls Tryz.prog 10 #[.string a, .string b] w (PostM (mergeB a b) w) := by
  have gm : (ls.length : Int) < (ks.length : Int) := by omega
  have gn : ¬ (ks.length : Int) < (ls.length : Int) := by omega
  go_enter Tryz.func10, Tryz.ntmps10
  go_wp2_with (first
      | (go_at_call 7; refine (read7_at (xs := ks) (rest := ⟨#[]⟩) ?_ ?_ ?_).mono ?_; exact HK; exact HSA; exact HR1; rintro e w1 ⟨v1, rfl, HS1, HB1⟩; have HK1 := kw_next HK HB1; have HW1 := bel_next HW HB1)
      | (go_at_call 7; refine (read7_at (xs := ls) (rest := ⟨#[]⟩) ?_ ?_ ?_).mono ?_; exact HK1; exact HSB; exact HR2; rintro e w2 ⟨v2, rfl, HS2, HB2⟩; have HW2 := bel_next HW1 HB2; have HT1 := strs_next HS1 HB2; obtain ⟨a1, c1, rfl, HA1⟩ := strs_open HT1; obtain ⟨a2, c2, rfl, HA2⟩ := strs_open HS2)
      | go_in)
  go_loopw [35] (fun iv wr => ∃ (k m : Nat), k ≤ ls.length ∧ iv = .int .i64 k ∧ Hid (∀ j, j < k → ks.getD j ByteArray.empty = ls.getD j ByteArray.empty) ∧ wr = w2.drewN m) (fun iv _ => ls.length - (intOf iv).toNat)
  case atStart => exact ⟨0, 0, by omega, rfl, Lib.hid fun j hj => absurd hj (by omega), rfl⟩
  case round =>
      obtain ⟨k, m, hk, rfl, HA, rfl⟩ := hrel
      by_cases hlt : k < ls.length
      · have hl1 : k < ks.length := by omega
        have hl2 : k < ls.length := by omega
        obtain ⟨b1, o1, rfl, k1⟩ := HA1.out.2 k hl1
        obtain ⟨b2, o2, rfl, k2⟩ := HA2.out.2 k hl2
        have h1 := k1 k hl1
        have h2 := k2 k hl2
        clear k1 k2
        obtain ⟨s, HS⟩ : ∃ s, Hid (s = ks.getD k ByteArray.empty) := ⟨_, Lib.hid rfl⟩
        obtain ⟨t, HT⟩ : ∃ t, Hid (t = ls.getD k ByteArray.empty) := ⟨_, Lib.hid rfl⟩
        rw [← HS.out] at h1
        rw [← HT.out] at h2
        by_cases he : s = t
        · obtain rfl := he
          go_wp2
          go_quiet (fail)
          go_wp2
          go_roundw
          case rel => exact ⟨k + 1, _, by omega, by go_num, Lib.hid (all_next HA.out (HS.out.symm.trans HT.out)), rfl⟩
          case measure => simp [intOf]; omega
        · have hne := toList_ne he
          have HD := Lib.hid (diffAt_some hl1 hl2 HA.out fun e => he (HS.out.trans (e.trans HT.out.symm)))
          go_wp2
          go_quiet (fail)
          go_wp2
          go_ret3
          exact postM_mk (mergeB_3 HR1.out HR2.out HD.out) (below_draw2 HW2 _ _)
      · obtain rfl : k = ls.length := by omega
        have HD : Hid (diffAt ks ls = none) := Lib.hid (diffAt_none fun j hj => HA.out j (by omega))
        go_wp2
        go_ret3
        refine postM_mk ?_ (below_draw HW2 _)
        rw [mergeB_5 HR1.out HR2.out HD.out (by omega)]
        all_goals first | rfl | rw [hm]
set_option maxHeartbeats 1600000 in
theorem merge10_mid {w : World} {a b : ByteArray} {ks ls : List ByteArray} (HR1 : Hid (readB 60 0 a [] = (ks, ⟨#[]⟩))) (HR2 : Hid (readB 60 0 b [] = (ls, ⟨#[]⟩))) (HK : Hid (KW w)) (HSA : Hid (a.size ≤ 131072)) (HSB : Hid (b.size ≤ 131072)) (HW : Hid (Below w.heap.size w w)) (hn1 : ks.length ≤ 60) (hn2 : ls.length ≤ 60) (hm : ks.length = ls.length) : Calls Tryz.prog 10 #[.string a, .string b] w (PostM (mergeB a b) w) := by
  have gm : ¬ (ls.length : Int) < (ks.length : Int) := by omega
  have gn : ¬ (ks.length : Int) < (ls.length : Int) := by omega
  go_enter Tryz.func10, Tryz.ntmps10
  go_wp2_with (first
      | (go_at_call 7; refine (read7_at (xs := ks) (rest := ⟨#[]⟩) ?_ ?_ ?_).mono ?_; exact HK; exact HSA; exact HR1; rintro e w1 ⟨v1, rfl, HS1, HB1⟩; have HK1 := kw_next HK HB1; have HW1 := bel_next HW HB1)
      | (go_at_call 7; refine (read7_at (xs := ls) (rest := ⟨#[]⟩) ?_ ?_ ?_).mono ?_; exact HK1; exact HSB; exact HR2; rintro e w2 ⟨v2, rfl, HS2, HB2⟩; have HW2 := bel_next HW1 HB2; have HT1 := strs_next HS1 HB2; obtain ⟨a1, c1, rfl, HA1⟩ := strs_open HT1; obtain ⟨a2, c2, rfl, HA2⟩ := strs_open HS2)
      | go_in)
  go_loopw [35] (fun iv wr => ∃ (k m : Nat), k ≤ ks.length ∧ iv = .int .i64 k ∧ Hid (∀ j, j < k → ks.getD j ByteArray.empty = ls.getD j ByteArray.empty) ∧ wr = w2.drewN m) (fun iv _ => ks.length - (intOf iv).toNat)
  case atStart => exact ⟨0, 0, by omega, rfl, Lib.hid fun j hj => absurd hj (by omega), rfl⟩
  case round =>
      obtain ⟨k, m, hk, rfl, HA, rfl⟩ := hrel
      by_cases hlt : k < ks.length
      · have hl1 : k < ks.length := by omega
        have hl2 : k < ls.length := by omega
        obtain ⟨b1, o1, rfl, k1⟩ := HA1.out.2 k hl1
        obtain ⟨b2, o2, rfl, k2⟩ := HA2.out.2 k hl2
        have h1 := k1 k hl1
        have h2 := k2 k hl2
        clear k1 k2
        obtain ⟨s, HS⟩ : ∃ s, Hid (s = ks.getD k ByteArray.empty) := ⟨_, Lib.hid rfl⟩
        obtain ⟨t, HT⟩ : ∃ t, Hid (t = ls.getD k ByteArray.empty) := ⟨_, Lib.hid rfl⟩
        rw [← HS.out] at h1
        rw [← HT.out] at h2
        by_cases he : s = t
        · obtain rfl := he
          go_wp2
          go_quiet (fail)
          go_wp2
          go_roundw
          case rel => exact ⟨k + 1, _, by omega, by go_num, Lib.hid (all_next HA.out (HS.out.symm.trans HT.out)), rfl⟩
          case measure => simp [intOf]; omega
        · have hne := toList_ne he
          have HD := Lib.hid (diffAt_some hl1 hl2 HA.out fun e => he (HS.out.trans (e.trans HT.out.symm)))
          go_wp2
          go_quiet (fail)
          go_wp2
          go_ret3
          exact postM_mk (mergeB_3 HR1.out HR2.out HD.out) (below_draw2 HW2 _ _)
      · obtain rfl : k = ks.length := by omega
        have HD : Hid (diffAt ks ls = none) := Lib.hid (diffAt_none fun j hj => HA.out j (by omega))
        go_wp2
        go_ret3
        refine postM_mk ?_ (below_draw HW2 _)
        rw [mergeB_5 HR1.out HR2.out HD.out (by omega)]
        all_goals first | rfl | rw [hm]
set_option maxHeartbeats 1600000 in
theorem merge10_hi {w : World} {a b : ByteArray} {ks ls : List ByteArray} (HR1 : Hid (readB 60 0 a [] = (ks, ⟨#[]⟩))) (HR2 : Hid (readB 60 0 b [] = (ls, ⟨#[]⟩))) (HK : Hid (KW w)) (HSA : Hid (a.size ≤ 131072)) (HSB : Hid (b.size ≤ 131072)) (HW : Hid (Below w.heap.size w w)) (hn1 : ks.length ≤ 60) (hn2 : ls.length ≤ 60) (hm : ks.length < ls.length) : Calls Tryz.prog 10 #[.string a, .string b] w (PostM (mergeB a b) w) := by
  have gm : ¬ (ls.length : Int) < (ks.length : Int) := by omega
  have gn : (ks.length : Int) < (ls.length : Int) := by omega
  go_enter Tryz.func10, Tryz.ntmps10
  go_wp2_with (first
      | (go_at_call 7; refine (read7_at (xs := ks) (rest := ⟨#[]⟩) ?_ ?_ ?_).mono ?_; exact HK; exact HSA; exact HR1; rintro e w1 ⟨v1, rfl, HS1, HB1⟩; have HK1 := kw_next HK HB1; have HW1 := bel_next HW HB1)
      | (go_at_call 7; refine (read7_at (xs := ls) (rest := ⟨#[]⟩) ?_ ?_ ?_).mono ?_; exact HK1; exact HSB; exact HR2; rintro e w2 ⟨v2, rfl, HS2, HB2⟩; have HW2 := bel_next HW1 HB2; have HT1 := strs_next HS1 HB2; obtain ⟨a1, c1, rfl, HA1⟩ := strs_open HT1; obtain ⟨a2, c2, rfl, HA2⟩ := strs_open HS2)
      | go_in)
  go_loopw [35] (fun iv wr => ∃ (k m : Nat), k ≤ ks.length ∧ iv = .int .i64 k ∧ Hid (∀ j, j < k → ks.getD j ByteArray.empty = ls.getD j ByteArray.empty) ∧ wr = w2.drewN m) (fun iv _ => ks.length - (intOf iv).toNat)
  case atStart => exact ⟨0, 0, by omega, rfl, Lib.hid fun j hj => absurd hj (by omega), rfl⟩
  case round =>
      obtain ⟨k, m, hk, rfl, HA, rfl⟩ := hrel
      by_cases hlt : k < ks.length
      · have hl1 : k < ks.length := by omega
        have hl2 : k < ls.length := by omega
        obtain ⟨b1, o1, rfl, k1⟩ := HA1.out.2 k hl1
        obtain ⟨b2, o2, rfl, k2⟩ := HA2.out.2 k hl2
        have h1 := k1 k hl1
        have h2 := k2 k hl2
        clear k1 k2
        obtain ⟨s, HS⟩ : ∃ s, Hid (s = ks.getD k ByteArray.empty) := ⟨_, Lib.hid rfl⟩
        obtain ⟨t, HT⟩ : ∃ t, Hid (t = ls.getD k ByteArray.empty) := ⟨_, Lib.hid rfl⟩
        rw [← HS.out] at h1
        rw [← HT.out] at h2
        by_cases he : s = t
        · obtain rfl := he
          go_wp2
          go_quiet (fail)
          go_wp2
          go_roundw
          case rel => exact ⟨k + 1, _, by omega, by go_num, Lib.hid (all_next HA.out (HS.out.symm.trans HT.out)), rfl⟩
          case measure => simp [intOf]; omega
        · have hne := toList_ne he
          have HD := Lib.hid (diffAt_some hl1 hl2 HA.out fun e => he (HS.out.trans (e.trans HT.out.symm)))
          go_wp2
          go_quiet (fail)
          go_wp2
          go_ret3
          exact postM_mk (mergeB_3 HR1.out HR2.out HD.out) (below_draw2 HW2 _ _)
      · obtain rfl : k = ks.length := by omega
        have HD : Hid (diffAt ks ls = none) := Lib.hid (diffAt_none fun j hj => HA.out j (by omega))
        go_wp2
        go_ret3
        refine postM_mk ?_ (below_draw HW2 _)
        rw [mergeB_4 HR1.out HR2.out HD.out (by omega)]
        all_goals first | rfl | rw [hm]
set_option maxHeartbeats 1600000 in
theorem merge10_both {w : World} {a b : ByteArray} {ks ls : List ByteArray} (HR1 : Hid (readB 60 0 a [] = (ks, ⟨#[]⟩))) (HR2 : Hid (readB 60 0 b [] = (ls, ⟨#[]⟩))) (HK : Hid (KW w)) (HSA : Hid (a.size ≤ 131072)) (HSB : Hid (b.size ≤ 131072)) (HW : Hid (Below w.heap.size w w)) (hn1 : ks.length ≤ 60) (hn2 : ls.length ≤ 60) : Calls Tryz.prog 10 #[.string a, .string b] w (PostM (mergeB a b) w) := by
  rcases Nat.lt_trichotomy ks.length ls.length with h | h | h
  · exact merge10_hi HR1 HR2 HK HSA HSB HW hn1 hn2 h
  · exact merge10_mid HR1 HR2 HK HSA HSB HW hn1 hn2 h
  · exact merge10_lo HR1 HR2 HK HSA HSB HW hn1 hn2 h
set_option maxHeartbeats 1600000 in
theorem merge10_c {w : World} {a b : ByteArray} (hk : KW w) (ha : a.size ≤ 131072) (hb : b.size ≤ 131072) : Calls Tryz.prog 10 #[.string a, .string b] w (PostM (mergeB a b) w) := by
  obtain ⟨⟨ks, ra⟩, HR1⟩ : ∃ p, Hid (readB 60 0 a [] = p) := ⟨_, Lib.hid rfl⟩
  obtain ⟨⟨ls, rb⟩, HR2⟩ : ∃ p, Hid (readB 60 0 b [] = p) := ⟨_, Lib.hid rfl⟩
  have HK := Lib.hid hk
  have HSA := Lib.hid ha
  have HSB := Lib.hid hb
  have HW : Hid (Below w.heap.size w w) := Lib.hid (Below.refl _ _)
  have hn1 : ks.length ≤ 60 := by have h := (readB_len 60 0 a []).1; rw [HR1.out] at h; simpa using h
  have hn2 : ls.length ≤ 60 := by have h := (readB_len 60 0 b []).1; rw [HR2.out] at h; simpa using h
  clear hk ha hb
  by_cases hra : ra = ⟨#[]⟩
  · by_cases hrb : rb = ⟨#[]⟩
    · subst hra hrb
      exact merge10_both HR1 HR2 HK HSA HSB HW hn1 hn2
    · have HM := Lib.hid (mergeB_2 (a := a) HR2.out hrb)
      obtain ⟨g1, g2, g3, g4⟩ := list_ne hrb
      clear hrb
      subst hra
      go_enter Tryz.func10, Tryz.ntmps10
      go_wp2_with (first
      | (go_at_call 7; refine (read7_at (xs := ks) (rest := ⟨#[]⟩) ?_ ?_ ?_).mono ?_; exact HK; exact HSA; exact HR1; rintro e w1 ⟨v1, rfl, HS1, HB1⟩; have HK1 := kw_next HK HB1; have HW1 := bel_next HW HB1)
      | (go_at_call 7; refine (read7_at (xs := ls) (rest := rb) ?_ ?_ ?_).mono ?_; exact HK1; exact HSB; exact HR2; rintro e w2 ⟨v2, rfl, HS2, HB2⟩; have HW2 := bel_next HW1 HB2; have HT1 := strs_next HS1 HB2; obtain ⟨a1, c1, rfl, HA1⟩ := strs_open HT1; obtain ⟨a2, c2, rfl, HA2⟩ := strs_open HS2)
      | go_in)
      go_ret3
      exact postM_mk HM.out HW2.out
  · have HM := Lib.hid (mergeB_1 (b := b) HR1.out hra)
    obtain ⟨g1, g2, g3, g4⟩ := list_ne hra
    clear hra
    go_enter Tryz.func10, Tryz.ntmps10
    go_wp2_with (first
      | (go_at_call 7; refine (read7_at (xs := ks) (rest := ra) ?_ ?_ ?_).mono ?_; exact HK; exact HSA; exact HR1; rintro e w1 ⟨v1, rfl, HS1, HB1⟩; have HK1 := kw_next HK HB1; have HW1 := bel_next HW HB1)
      | (go_at_call 7; refine (read7_at (xs := ls) (rest := rb) ?_ ?_ ?_).mono ?_; exact HK1; exact HSB; exact HR2; rintro e w2 ⟨v2, rfl, HS2, HB2⟩; have HW2 := bel_next HW1 HB2; have HT1 := strs_next HS1 HB2; obtain ⟨a1, c1, rfl, HA1⟩ := strs_open HT1; obtain ⟨a2, c2, rfl, HA2⟩ := strs_open HS2)
      | go_in)
    go_ret3
    exact postM_mk HM.out HW2.out
set_option maxHeartbeats 1600000 in
theorem merge11_lo {w : World} {a b : ByteArray} {ks ls : List ByteArray} (HR1 : Hid (readB 60 0 a [] = (ks, ⟨#[]⟩))) (HR2 : Hid (readB 60 0 b [] = (ls, ⟨#[]⟩))) (HK : Hid (KW w)) (HSA : Hid (a.size ≤ 131072)) (HSB : Hid (b.size ≤ 131072)) (HW : Hid (Below w.heap.size w w)) (hn1 : ks.length ≤ 60) (hn2 : ls.length ≤ 60) (hm : ls.length < ks.length) : Calls Tryz.prog 11 #[.string a, .string b] w (PostM (mergeB a b) w) := by
  have gm : (ls.length : Int) < (ks.length : Int) := by omega
  have gn : ¬ (ks.length : Int) < (ls.length : Int) := by omega
  go_enter Tryz.func11, Tryz.ntmps11
  go_wp2_with (first
      | (go_at_call 8; refine (read8_at (xs := ks) (rest := ⟨#[]⟩) ?_ ?_ ?_).mono ?_; exact HK; exact HSA; exact HR1; rintro e w1 ⟨v1, rfl, HS1, HB1⟩; have HK1 := kw_next HK HB1; have HW1 := bel_next HW HB1)
      | (go_at_call 8; refine (read8_at (xs := ls) (rest := ⟨#[]⟩) ?_ ?_ ?_).mono ?_; exact HK1; exact HSB; exact HR2; rintro e w2 ⟨v2, rfl, HS2, HB2⟩; have HW2 := bel_next HW1 HB2; have HT1 := strs_next HS1 HB2; obtain ⟨a1, c1, rfl, HA1⟩ := strs_open HT1; obtain ⟨a2, c2, rfl, HA2⟩ := strs_open HS2)
      | go_in)
  go_loopw [11] (fun iv wr => ∃ (k m : Nat), k ≤ ls.length ∧ iv = .int .i64 k ∧ Hid (∀ j, j < k → ks.getD j ByteArray.empty = ls.getD j ByteArray.empty) ∧ wr = w2.drewN m) (fun iv _ => ls.length - (intOf iv).toNat)
  case atStart => exact ⟨0, 0, by omega, rfl, Lib.hid fun j hj => absurd hj (by omega), rfl⟩
  case round =>
      obtain ⟨k, m, hk, rfl, HA, rfl⟩ := hrel
      by_cases hlt : k < ls.length
      · have hl1 : k < ks.length := by omega
        have hl2 : k < ls.length := by omega
        obtain ⟨b1, o1, rfl, k1⟩ := HA1.out.2 k hl1
        obtain ⟨b2, o2, rfl, k2⟩ := HA2.out.2 k hl2
        have h1 := k1 k hl1
        have h2 := k2 k hl2
        clear k1 k2
        obtain ⟨s, HS⟩ : ∃ s, Hid (s = ks.getD k ByteArray.empty) := ⟨_, Lib.hid rfl⟩
        obtain ⟨t, HT⟩ : ∃ t, Hid (t = ls.getD k ByteArray.empty) := ⟨_, Lib.hid rfl⟩
        rw [← HS.out] at h1
        rw [← HT.out] at h2
        by_cases he : s = t
        · obtain rfl := he
          go_wp2
          go_quiet (fail)
          go_wp2
          go_roundw
          case rel => exact ⟨k + 1, _, by omega, by go_num, Lib.hid (all_next HA.out (HS.out.symm.trans HT.out)), rfl⟩
          case measure => simp [intOf]; omega
        · have hne := toList_ne he
          have HD := Lib.hid (diffAt_some hl1 hl2 HA.out fun e => he (HS.out.trans (e.trans HT.out.symm)))
          go_wp2
          go_quiet (fail)
          go_wp2
          go_ret3
          exact postM_mk (mergeB_3 HR1.out HR2.out HD.out) (below_draw2 HW2 _ _)
      · obtain rfl : k = ls.length := by omega
        have HD : Hid (diffAt ks ls = none) := Lib.hid (diffAt_none fun j hj => HA.out j (by omega))
        go_wp2
        go_ret3
        refine postM_mk ?_ (below_draw HW2 _)
        rw [mergeB_5 HR1.out HR2.out HD.out (by omega)]
        all_goals first | rfl | rw [hm]
set_option maxHeartbeats 1600000 in
theorem merge11_mid {w : World} {a b : ByteArray} {ks ls : List ByteArray} (HR1 : Hid (readB 60 0 a [] = (ks, ⟨#[]⟩))) (HR2 : Hid (readB 60 0 b [] = (ls, ⟨#[]⟩))) (HK : Hid (KW w)) (HSA : Hid (a.size ≤ 131072)) (HSB : Hid (b.size ≤ 131072)) (HW : Hid (Below w.heap.size w w)) (hn1 : ks.length ≤ 60) (hn2 : ls.length ≤ 60) (hm : ks.length = ls.length) : Calls Tryz.prog 11 #[.string a, .string b] w (PostM (mergeB a b) w) := by
  have gm : ¬ (ls.length : Int) < (ks.length : Int) := by omega
  have gn : ¬ (ks.length : Int) < (ls.length : Int) := by omega
  go_enter Tryz.func11, Tryz.ntmps11
  go_wp2_with (first
      | (go_at_call 8; refine (read8_at (xs := ks) (rest := ⟨#[]⟩) ?_ ?_ ?_).mono ?_; exact HK; exact HSA; exact HR1; rintro e w1 ⟨v1, rfl, HS1, HB1⟩; have HK1 := kw_next HK HB1; have HW1 := bel_next HW HB1)
      | (go_at_call 8; refine (read8_at (xs := ls) (rest := ⟨#[]⟩) ?_ ?_ ?_).mono ?_; exact HK1; exact HSB; exact HR2; rintro e w2 ⟨v2, rfl, HS2, HB2⟩; have HW2 := bel_next HW1 HB2; have HT1 := strs_next HS1 HB2; obtain ⟨a1, c1, rfl, HA1⟩ := strs_open HT1; obtain ⟨a2, c2, rfl, HA2⟩ := strs_open HS2)
      | go_in)
  go_loopw [11] (fun iv wr => ∃ (k m : Nat), k ≤ ks.length ∧ iv = .int .i64 k ∧ Hid (∀ j, j < k → ks.getD j ByteArray.empty = ls.getD j ByteArray.empty) ∧ wr = w2.drewN m) (fun iv _ => ks.length - (intOf iv).toNat)
  case atStart => exact ⟨0, 0, by omega, rfl, Lib.hid fun j hj => absurd hj (by omega), rfl⟩
  case round =>
      obtain ⟨k, m, hk, rfl, HA, rfl⟩ := hrel
      by_cases hlt : k < ks.length
      · have hl1 : k < ks.length := by omega
        have hl2 : k < ls.length := by omega
        obtain ⟨b1, o1, rfl, k1⟩ := HA1.out.2 k hl1
        obtain ⟨b2, o2, rfl, k2⟩ := HA2.out.2 k hl2
        have h1 := k1 k hl1
        have h2 := k2 k hl2
        clear k1 k2
        obtain ⟨s, HS⟩ : ∃ s, Hid (s = ks.getD k ByteArray.empty) := ⟨_, Lib.hid rfl⟩
        obtain ⟨t, HT⟩ : ∃ t, Hid (t = ls.getD k ByteArray.empty) := ⟨_, Lib.hid rfl⟩
        rw [← HS.out] at h1
        rw [← HT.out] at h2
        by_cases he : s = t
        · obtain rfl := he
          go_wp2
          go_quiet (fail)
          go_wp2
          go_roundw
          case rel => exact ⟨k + 1, _, by omega, by go_num, Lib.hid (all_next HA.out (HS.out.symm.trans HT.out)), rfl⟩
          case measure => simp [intOf]; omega
        · have hne := toList_ne he
          have HD := Lib.hid (diffAt_some hl1 hl2 HA.out fun e => he (HS.out.trans (e.trans HT.out.symm)))
          go_wp2
          go_quiet (fail)
          go_wp2
          go_ret3
          exact postM_mk (mergeB_3 HR1.out HR2.out HD.out) (below_draw2 HW2 _ _)
      · obtain rfl : k = ks.length := by omega
        have HD : Hid (diffAt ks ls = none) := Lib.hid (diffAt_none fun j hj => HA.out j (by omega))
        go_wp2
        go_ret3
        refine postM_mk ?_ (below_draw HW2 _)
        rw [mergeB_5 HR1.out HR2.out HD.out (by omega)]
        all_goals first | rfl | rw [hm]
set_option maxHeartbeats 1600000 in
theorem merge11_hi {w : World} {a b : ByteArray} {ks ls : List ByteArray} (HR1 : Hid (readB 60 0 a [] = (ks, ⟨#[]⟩))) (HR2 : Hid (readB 60 0 b [] = (ls, ⟨#[]⟩))) (HK : Hid (KW w)) (HSA : Hid (a.size ≤ 131072)) (HSB : Hid (b.size ≤ 131072)) (HW : Hid (Below w.heap.size w w)) (hn1 : ks.length ≤ 60) (hn2 : ls.length ≤ 60) (hm : ks.length < ls.length) : Calls Tryz.prog 11 #[.string a, .string b] w (PostM (mergeB a b) w) := by
  have gm : ¬ (ls.length : Int) < (ks.length : Int) := by omega
  have gn : (ks.length : Int) < (ls.length : Int) := by omega
  go_enter Tryz.func11, Tryz.ntmps11
  go_wp2_with (first
      | (go_at_call 8; refine (read8_at (xs := ks) (rest := ⟨#[]⟩) ?_ ?_ ?_).mono ?_; exact HK; exact HSA; exact HR1; rintro e w1 ⟨v1, rfl, HS1, HB1⟩; have HK1 := kw_next HK HB1; have HW1 := bel_next HW HB1)
      | (go_at_call 8; refine (read8_at (xs := ls) (rest := ⟨#[]⟩) ?_ ?_ ?_).mono ?_; exact HK1; exact HSB; exact HR2; rintro e w2 ⟨v2, rfl, HS2, HB2⟩; have HW2 := bel_next HW1 HB2; have HT1 := strs_next HS1 HB2; obtain ⟨a1, c1, rfl, HA1⟩ := strs_open HT1; obtain ⟨a2, c2, rfl, HA2⟩ := strs_open HS2)
      | go_in)
  go_loopw [11] (fun iv wr => ∃ (k m : Nat), k ≤ ks.length ∧ iv = .int .i64 k ∧ Hid (∀ j, j < k → ks.getD j ByteArray.empty = ls.getD j ByteArray.empty) ∧ wr = w2.drewN m) (fun iv _ => ks.length - (intOf iv).toNat)
  case atStart => exact ⟨0, 0, by omega, rfl, Lib.hid fun j hj => absurd hj (by omega), rfl⟩
  case round =>
      obtain ⟨k, m, hk, rfl, HA, rfl⟩ := hrel
      by_cases hlt : k < ks.length
      · have hl1 : k < ks.length := by omega
        have hl2 : k < ls.length := by omega
        obtain ⟨b1, o1, rfl, k1⟩ := HA1.out.2 k hl1
        obtain ⟨b2, o2, rfl, k2⟩ := HA2.out.2 k hl2
        have h1 := k1 k hl1
        have h2 := k2 k hl2
        clear k1 k2
        obtain ⟨s, HS⟩ : ∃ s, Hid (s = ks.getD k ByteArray.empty) := ⟨_, Lib.hid rfl⟩
        obtain ⟨t, HT⟩ : ∃ t, Hid (t = ls.getD k ByteArray.empty) := ⟨_, Lib.hid rfl⟩
        rw [← HS.out] at h1
        rw [← HT.out] at h2
        by_cases he : s = t
        · obtain rfl := he
          go_wp2
          go_quiet (fail)
          go_wp2
          go_roundw
          case rel => exact ⟨k + 1, _, by omega, by go_num, Lib.hid (all_next HA.out (HS.out.symm.trans HT.out)), rfl⟩
          case measure => simp [intOf]; omega
        · have hne := toList_ne he
          have HD := Lib.hid (diffAt_some hl1 hl2 HA.out fun e => he (HS.out.trans (e.trans HT.out.symm)))
          go_wp2
          go_quiet (fail)
          go_wp2
          go_ret3
          exact postM_mk (mergeB_3 HR1.out HR2.out HD.out) (below_draw2 HW2 _ _)
      · obtain rfl : k = ks.length := by omega
        have HD : Hid (diffAt ks ls = none) := Lib.hid (diffAt_none fun j hj => HA.out j (by omega))
        go_wp2
        go_ret3
        refine postM_mk ?_ (below_draw HW2 _)
        rw [mergeB_4 HR1.out HR2.out HD.out (by omega)]
        all_goals first | rfl | rw [hm]
set_option maxHeartbeats 1600000 in
theorem merge11_both {w : World} {a b : ByteArray} {ks ls : List ByteArray} (HR1 : Hid (readB 60 0 a [] = (ks, ⟨#[]⟩))) (HR2 : Hid (readB 60 0 b [] = (ls, ⟨#[]⟩))) (HK : Hid (KW w)) (HSA : Hid (a.size ≤ 131072)) (HSB : Hid (b.size ≤ 131072)) (HW : Hid (Below w.heap.size w w)) (hn1 : ks.length ≤ 60) (hn2 : ls.length ≤ 60) : Calls Tryz.prog 11 #[.string a, .string b] w (PostM (mergeB a b) w) := by
  rcases Nat.lt_trichotomy ks.length ls.length with h | h | h
  · exact merge11_hi HR1 HR2 HK HSA HSB HW hn1 hn2 h
  · exact merge11_mid HR1 HR2 HK HSA HSB HW hn1 hn2 h
  · exact merge11_lo HR1 HR2 HK HSA HSB HW hn1 hn2 h
set_option maxHeartbeats 1600000 in
theorem merge11_c {w : World} {a b : ByteArray} (hk : KW w) (ha : a.size ≤ 131072) (hb : b.size ≤ 131072) : Calls Tryz.prog 11 #[.string a, .string b] w (PostM (mergeB a b) w) := by
  obtain ⟨⟨ks, ra⟩, HR1⟩ : ∃ p, Hid (readB 60 0 a [] = p) := ⟨_, Lib.hid rfl⟩
  obtain ⟨⟨ls, rb⟩, HR2⟩ : ∃ p, Hid (readB 60 0 b [] = p) := ⟨_, Lib.hid rfl⟩
  have HK := Lib.hid hk
  have HSA := Lib.hid ha
  have HSB := Lib.hid hb
  have HW : Hid (Below w.heap.size w w) := Lib.hid (Below.refl _ _)
  have hn1 : ks.length ≤ 60 := by have h := (readB_len 60 0 a []).1; rw [HR1.out] at h; simpa using h
  have hn2 : ls.length ≤ 60 := by have h := (readB_len 60 0 b []).1; rw [HR2.out] at h; simpa using h
  clear hk ha hb
  by_cases hra : ra = ⟨#[]⟩
  · by_cases hrb : rb = ⟨#[]⟩
    · subst hra hrb
      exact merge11_both HR1 HR2 HK HSA HSB HW hn1 hn2
    · have HM := Lib.hid (mergeB_2 (a := a) HR2.out hrb)
      obtain ⟨g1, g2, g3, g4⟩ := list_ne hrb
      clear hrb
      subst hra
      go_enter Tryz.func11, Tryz.ntmps11
      go_wp2_with (first
      | (go_at_call 8; refine (read8_at (xs := ks) (rest := ⟨#[]⟩) ?_ ?_ ?_).mono ?_; exact HK; exact HSA; exact HR1; rintro e w1 ⟨v1, rfl, HS1, HB1⟩; have HK1 := kw_next HK HB1; have HW1 := bel_next HW HB1)
      | (go_at_call 8; refine (read8_at (xs := ls) (rest := rb) ?_ ?_ ?_).mono ?_; exact HK1; exact HSB; exact HR2; rintro e w2 ⟨v2, rfl, HS2, HB2⟩; have HW2 := bel_next HW1 HB2; have HT1 := strs_next HS1 HB2; obtain ⟨a1, c1, rfl, HA1⟩ := strs_open HT1; obtain ⟨a2, c2, rfl, HA2⟩ := strs_open HS2)
      | go_in)
      go_ret3
      exact postM_mk HM.out HW2.out
  · have HM := Lib.hid (mergeB_1 (b := b) HR1.out hra)
    obtain ⟨g1, g2, g3, g4⟩ := list_ne hra
    clear hra
    go_enter Tryz.func11, Tryz.ntmps11
    go_wp2_with (first
      | (go_at_call 8; refine (read8_at (xs := ks) (rest := ra) ?_ ?_ ?_).mono ?_; exact HK; exact HSA; exact HR1; rintro e w1 ⟨v1, rfl, HS1, HB1⟩; have HK1 := kw_next HK HB1; have HW1 := bel_next HW HB1)
      | (go_at_call 8; refine (read8_at (xs := ls) (rest := rb) ?_ ?_ ?_).mono ?_; exact HK1; exact HSB; exact HR2; rintro e w2 ⟨v2, rfl, HS2, HB2⟩; have HW2 := bel_next HW1 HB2; have HT1 := strs_next HS1 HB2; obtain ⟨a1, c1, rfl, HA1⟩ := strs_open HT1; obtain ⟨a2, c2, rfl, HA2⟩ := strs_open HS2)
      | go_in)
    go_ret3
    exact postM_mk HM.out HW2.out
theorem merge10_at {w : World} {a b s : ByteArray} {x y : Int} (hk : Hid (KW w)) (ha : Hid (a.size ≤ 131072)) (hb : Hid (b.size ≤ 131072)) (h : Hid (mergeB a b = (s, x, y))) :
    Calls Tryz.prog 10 #[.string a, .string b] w fun e w' => e = .returned (.tuple #[.string s, .int .i64 x, .int .i64 y]) ∧ Hid (Below w.heap.size w w') :=
  (merge10_c hk.out ha.out hb.out).mono fun e w' hp => by
    rw [h.out] at hp
    exact ⟨hp.1, Lib.hid hp.2⟩
theorem merge11_at {w : World} {a b s : ByteArray} {x y : Int} (hk : Hid (KW w)) (ha : Hid (a.size ≤ 131072)) (hb : Hid (b.size ≤ 131072)) (h : Hid (mergeB a b = (s, x, y))) :
    Calls Tryz.prog 11 #[.string a, .string b] w fun e w' => e = .returned (.tuple #[.string s, .int .i64 x, .int .i64 y]) ∧ Hid (Below w.heap.size w w') :=
  (merge11_c hk.out ha.out hb.out).mono fun e w' hp => by
    rw [h.out] at hp
    exact ⟨hp.1, Lib.hid hp.2⟩
set_option maxHeartbeats 4000000 in
theorem law4_c {w : World} {a b : ByteArray} (ha : a.size ≤ 9223372036854775807) (hb : b.size ≤ 9223372036854775807) (hs : a.size + b.size ≤ 9223372036854775807) (hk : KW w) (hkn : KnownAt w) : Calls Tryz.prog 4 #[.string a, .string b] w (PostB true w) := by
  have HK := Lib.hid hk
  have HKN := Lib.hid hkn
  have HW : Hid (Below w.heap.size w w) := Lib.hid (Below.refl _ _)
  clear hk hkn
  by_cases hbig : a.size + b.size ≤ 131072
  · obtain ⟨⟨s, x, y⟩, HR⟩ : ∃ p, Hid (mergeB a b = p) := ⟨_, Lib.hid rfl⟩
    have HSA : Hid (a.size ≤ 131072) := Lib.hid (by omega)
    have HSB : Hid (b.size ≤ 131072) := Lib.hid (by omega)
    have g1 : ¬ (131072 : Int) < (a.size : Int) + (b.size : Int) := by omega
    go_enter Tryz.func4, Tryz.ntmps4
    go_wp2_with (first
      | (go_at_call 10; refine (merge10_at HK HSA HSB HR).mono ?_; rintro e w1 ⟨rfl, HB1⟩; have HK1 := kw_next HK HB1; have HW1 := bel_next HW HB1)
      | (go_at_call 11; refine (merge11_at HK1 HSA HSB HR).mono ?_; rintro e w2 ⟨rfl, HB2⟩; have HW2 := bel_next HW1 HB2)
      | (go_at_call 6; refine (known_at6 HKN HW2).mono ?_; rintro e w3 ⟨rfl, HB3⟩; have HW3 := bel_next HW2 HB3)
      | go_in)
    go_ret
    exact postB_mk rfl HW3.out
  · have g1 : (131072 : Int) < (a.size : Int) + (b.size : Int) := by omega
    go_enter Tryz.func4, Tryz.ntmps4
    go_wp2_with (go_at_call 6; refine (known_at6 HKN HW).mono ?_; rintro e w4 ⟨rfl, HB4⟩)
    go_ret
    exact postB_mk rfl HB4.out
end Go.Proofs.YtopiclpameaglaaGreatDoor
