/-
known() answers true wherever strings.asciiSpace holds its table.
-/
import Derived.Test.YtopiclpameaglaaGreatDoorC0
import Derived.Test.YtopiclpameaglaaGreatDoorC1
import Derived.Test.YtopiclpameaglaaGreatDoorC2
import Derived.Test.YtopiclpameaglaaGreatDoorC3
import Derived.Test.YtopiclpameaglaaGreatDoorC4
import Derived.Test.YtopiclpameaglaaGreatDoorC5
import Derived.Test.YtopiclpameaglaaGreatDoorC6
import Derived.Test.YtopiclpameaglaaGreatDoorC7
import Derived.Test.YtopiclpameaglaaGreatDoorC8
import Derived.Test.YtopiclpameaglaaGreatDoorC9
import Derived.Test.YtopiclpameaglaaGreatDoorC10
import Derived.Test.YtopiclpameaglaaGreatDoorC11
import Derived.Test.YtopiclpameaglaaGreatDoorC12
set_option linter.unusedSimpArgs false
set_option linter.unusedVariables false
namespace Go.Proofs.YtopiclpameaglaaGreatDoor
open Go Go.Ev Go.RowKit
theorem entNil : ∀ e ∈ ([] : List OEnt), EntG Tryz.prog e := fun _ h => by cases h
theorem entCons {e : OEnt} {l : List OEnt} (h : EntG Tryz.prog e) (t : ∀ e ∈ l, EntG Tryz.prog e) : ∀ e' ∈ e :: l, EntG Tryz.prog e' := fun e' he => by
  rcases List.mem_cons.1 he with rfl | he
  · exact h
  · exact t e' he
theorem tabNil : ∀ p ∈ ([] : List (Nat × List OEnt)), ∀ e ∈ p.2, EntG Tryz.prog e := fun _ h => by cases h
theorem tabCons {f : Nat} {l : List OEnt} {t : List (Nat × List OEnt)} (h : ∀ e ∈ l, EntG Tryz.prog e) (k : ∀ p ∈ t, ∀ e ∈ p.2, EntG Tryz.prog e) : ∀ p ∈ (f, l) :: t, ∀ e ∈ p.2, EntG Tryz.prog e := fun p hp => by
  rcases List.mem_cons.1 hp with rfl | hp
  · exact h
  · exact k p hp
theorem sumOk {e : OEnt} {T : List (Nat × List OEnt)} (ht : ∀ p ∈ T, ∀ e ∈ p.2, EntG Tryz.prog e) (h : e.check Tryz.prog xk0 orc0 dz T 100000 = true) : EntG Tryz.prog e := entG_of xOk numOk orc0_ok dorcOk mixed ht h
theorem g100 : EntG Tryz.prog e100 := sumOk (T := T100) tabNil c100
theorem g153 : EntG Tryz.prog e153 := sumOk (T := T153) tabNil c153
theorem g177 : EntG Tryz.prog e177 := sumOk (T := T177) tabNil c177
theorem g356 : EntG Tryz.prog e356 := sumOk (T := T356) tabNil c356
theorem g592 : EntG Tryz.prog e592 := sumOk (T := T592) tabNil c592
theorem g900 : EntG Tryz.prog e900 := sumOk (T := T900) tabNil c900
theorem g1020 : EntG Tryz.prog e1020 := sumOk (T := T1020) (tabCons (entCons g356 entNil) (tabCons (entCons g592 (entCons g900 entNil)) tabNil)) c1020
theorem g1176 : EntG Tryz.prog e1176 := sumOk (T := T1176) (tabCons (entCons g153 entNil) (tabCons (entCons g177 entNil) (tabCons (entCons g1020 entNil) tabNil))) c1176
theorem g1223 : EntG Tryz.prog e1223 := sumOk (T := T1223) tabNil c1223
theorem g1294 : EntG Tryz.prog e1294 := sumOk (T := T1294) tabNil c1294
theorem g1297 : EntG Tryz.prog e1297 := sumOk (T := T1297) tabNil c1297
theorem g1476 : EntG Tryz.prog e1476 := sumOk (T := T1476) tabNil c1476
theorem g1712 : EntG Tryz.prog e1712 := sumOk (T := T1712) tabNil c1712
theorem g2020 : EntG Tryz.prog e2020 := sumOk (T := T2020) tabNil c2020
theorem g2140 : EntG Tryz.prog e2140 := sumOk (T := T2140) (tabCons (entCons g1476 entNil) (tabCons (entCons g1712 (entCons g2020 entNil)) tabNil)) c2140
theorem g2277 : EntG Tryz.prog e2277 := sumOk (T := T2277) (tabCons (entCons g1223 entNil) (tabCons (entCons g1294 entNil) (tabCons (entCons g1297 entNil) (tabCons (entCons g2140 entNil) tabNil)))) c2277
theorem g2278 : EntG Tryz.prog e2278 := sumOk (T := T2278) tabNil c2278
theorem g2349 : EntG Tryz.prog e2349 := sumOk (T := T2349) tabNil c2349
theorem g2352 : EntG Tryz.prog e2352 := sumOk (T := T2352) tabNil c2352
theorem g2531 : EntG Tryz.prog e2531 := sumOk (T := T2531) tabNil c2531
theorem g2767 : EntG Tryz.prog e2767 := sumOk (T := T2767) tabNil c2767
theorem g3075 : EntG Tryz.prog e3075 := sumOk (T := T3075) tabNil c3075
theorem g3195 : EntG Tryz.prog e3195 := sumOk (T := T3195) (tabCons (entCons g2531 entNil) (tabCons (entCons g2767 (entCons g3075 entNil)) tabNil)) c3195
theorem g3427 : EntG Tryz.prog e3427 := sumOk (T := T3427) tabNil c3427
theorem g3467 : EntG Tryz.prog e3467 := sumOk (T := T3467) (tabCons (entCons g2278 entNil) (tabCons (entCons g2349 entNil) (tabCons (entCons g2352 entNil) (tabCons (entCons g3195 entNil) (tabCons (entCons g3427 entNil) tabNil))))) c3467
theorem g3544 : EntG Tryz.prog e3544 := sumOk (T := T3544) tabNil c3544
theorem g3592 : EntG Tryz.prog e3592 := sumOk (T := T3592) tabNil c3592
theorem g3730 : EntG Tryz.prog e3730 := sumOk (T := T3730) (tabCons (entCons g3592 entNil) tabNil) c3730
theorem g3733 : EntG Tryz.prog e3733 := sumOk (T := T3733) tabNil c3733
theorem g3912 : EntG Tryz.prog e3912 := sumOk (T := T3912) tabNil c3912
theorem g4148 : EntG Tryz.prog e4148 := sumOk (T := T4148) tabNil c4148
theorem g4456 : EntG Tryz.prog e4456 := sumOk (T := T4456) tabNil c4456
theorem g4576 : EntG Tryz.prog e4576 := sumOk (T := T4576) (tabCons (entCons g3912 entNil) (tabCons (entCons g4148 (entCons g4456 entNil)) tabNil)) c4576
theorem g4587 : EntG Tryz.prog e4587 := sumOk (T := T4587) tabNil c4587
theorem g4684 : EntG Tryz.prog e4684 := sumOk (T := T4684) tabNil c4684
theorem g4748 : EntG Tryz.prog e4748 := sumOk (T := T4748) (tabCons (entCons g4587 (entCons g4684 entNil)) tabNil) c4748
theorem g4959 : EntG Tryz.prog e4959 := sumOk (T := T4959) tabNil c4959
theorem g5063 : EntG Tryz.prog e5063 := sumOk (T := T5063) (tabCons (entCons g3544 entNil) (tabCons (entCons g3730 entNil) (tabCons (entCons g3733 entNil) (tabCons (entCons g4576 entNil) (tabCons (entCons g4748 entNil) (tabCons (entCons g4959 entNil) tabNil)))))) c5063
theorem gTop : EntG Tryz.prog eTop := sumOk (T := Ttop) (tabCons (entCons g100 entNil) (tabCons (entCons g1176 entNil) (tabCons (entCons g2277 entNil) (tabCons (entCons g3467 entNil) (tabCons (entCons g5063 entNil) tabNil))))) cTop
theorem known_c {w : World} (h : w.heap[9]? = some (.cells ⟨asciiL⟩ 328 (0, 0))) : Calls Tryz.prog 6 #[] w fun e w' => e = .returned (.bool true) ∧ Below w.heap.size w w' := known_of gTop h
end Go.Proofs.YtopiclpameaglaaGreatDoor
