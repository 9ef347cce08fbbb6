/-
known() answers true wherever strings.asciiSpace holds its table.
-/
import Derived.Test.YtfcklaeahpibhaaGreatDoorC0
import Derived.Test.YtfcklaeahpibhaaGreatDoorC1
import Derived.Test.YtfcklaeahpibhaaGreatDoorC2
import Derived.Test.YtfcklaeahpibhaaGreatDoorC3
import Derived.Test.YtfcklaeahpibhaaGreatDoorC4
import Derived.Test.YtfcklaeahpibhaaGreatDoorC5
import Derived.Test.YtfcklaeahpibhaaGreatDoorC6
set_option linter.unusedSimpArgs false
set_option linter.unusedVariables false
namespace Go.Proofs.YtfcklaeahpibhaaGreatDoor
open Go Go.Ev Go.RowKit
theorem entNil : ∀ e ∈ ([] : List OEnt), EntG Tryz.prog e := fun _ h => by cases h
theorem entCons {e : OEnt} {l : List OEnt} (h : EntG Tryz.prog e) (t : ∀ e ∈ l, EntG Tryz.prog e) : ∀ e' ∈ e :: l, EntG Tryz.prog e' := fun e' he => by
  rcases List.mem_cons.1 he with rfl | he
  · exact h
  · exact t e' he
theorem tabNil : ∀ p ∈ ([] : List (Nat × List OEnt)), ∀ e ∈ p.2, EntG Tryz.prog e := fun _ h => by cases h
theorem tabCons {f : Nat} {l : List OEnt} {t : List (Nat × List OEnt)} (h : ∀ e ∈ l, EntG Tryz.prog e) (k : ∀ p ∈ t, ∀ e ∈ p.2, EntG Tryz.prog e) : ∀ p ∈ (f, l) :: t, ∀ e ∈ p.2, EntG Tryz.prog e := fun p hp => by
  rcases List.mem_cons.1 hp with rfl | hp
  · exact h
  · exact k p hp
theorem sumOk {e : OEnt} {T : List (Nat × List OEnt)} (ht : ∀ p ∈ T, ∀ e ∈ p.2, EntG Tryz.prog e) (h : e.check Tryz.prog xk0 orc0 dz T 100000 = true) : EntG Tryz.prog e := entG_of xOk numOk orc0_ok dorcOk mixed ht h
theorem g0 : EntG Tryz.prog e0 := sumOk (T := T0) tabNil c0
theorem g81 : EntG Tryz.prog e81 := sumOk (T := T81) tabNil c81
theorem g179 : EntG Tryz.prog e179 := sumOk (T := T179) tabNil c179
theorem g269 : EntG Tryz.prog e269 := sumOk (T := T269) tabNil c269
theorem g427 : EntG Tryz.prog e427 := sumOk (T := T427) tabNil c427
theorem g535 : EntG Tryz.prog e535 := sumOk (T := T535) tabNil c535
theorem g654 : EntG Tryz.prog e654 := sumOk (T := T654) tabNil c654
theorem g761 : EntG Tryz.prog e761 := sumOk (T := T761) tabNil c761
theorem g823 : EntG Tryz.prog e823 := sumOk (T := T823) tabNil c823
theorem g950 : EntG Tryz.prog e950 := sumOk (T := T950) tabNil c950
theorem g980 : EntG Tryz.prog e980 := sumOk (T := T980) tabNil c980
theorem g1121 : EntG Tryz.prog e1121 := sumOk (T := T1121) tabNil c1121
theorem g1173 : EntG Tryz.prog e1173 := sumOk (T := T1173) tabNil c1173
theorem g1207 : EntG Tryz.prog e1207 := sumOk (T := T1207) tabNil c1207
theorem g1216 : EntG Tryz.prog e1216 := sumOk (T := T1216) (tabCons (entCons g81 (entCons g179 (entCons g269 (entCons g427 (entCons g535 (entCons g654 (entCons g761 (entCons g950 (entCons g1121 entNil))))))))) (tabCons (entCons g823 (entCons g980 (entCons g1173 (entCons g1207 entNil)))) tabNil)) c1216
theorem g1219 : EntG Tryz.prog e1219 := sumOk (T := T1219) tabNil c1219
theorem g1398 : EntG Tryz.prog e1398 := sumOk (T := T1398) tabNil c1398
theorem g1634 : EntG Tryz.prog e1634 := sumOk (T := T1634) tabNil c1634
theorem g1942 : EntG Tryz.prog e1942 := sumOk (T := T1942) tabNil c1942
theorem g2062 : EntG Tryz.prog e2062 := sumOk (T := T2062) (tabCons (entCons g1398 entNil) (tabCons (entCons g1634 (entCons g1942 entNil)) tabNil)) c2062
theorem g2068 : EntG Tryz.prog e2068 := sumOk (T := T2068) tabNil c2068
theorem g2148 : EntG Tryz.prog e2148 := sumOk (T := T2148) tabNil c2148
theorem g2337 : EntG Tryz.prog e2337 := sumOk (T := T2337) tabNil c2337
theorem g2373 : EntG Tryz.prog e2373 := sumOk (T := T2373) (tabCons (entCons g2337 entNil) tabNil) c2373
theorem g2377 : EntG Tryz.prog e2377 := sumOk (T := T2377) tabNil c2377
theorem g2462 : EntG Tryz.prog e2462 := sumOk (T := T2462) tabNil c2462
theorem g2629 : EntG Tryz.prog e2629 := sumOk (T := T2629) tabNil c2629
theorem g2665 : EntG Tryz.prog e2665 := sumOk (T := T2665) (tabCons (entCons g2068 (entCons g2148 (entCons g2377 (entCons g2462 entNil)))) (tabCons (entCons g2373 entNil) (tabCons (entCons g2629 entNil) tabNil))) c2665
theorem g2878 : EntG Tryz.prog e2878 := sumOk (T := T2878) tabNil c2878
theorem g3006 : EntG Tryz.prog e3006 := sumOk (T := T3006) (tabCons (entCons g2878 entNil) tabNil) c3006
theorem g3121 : EntG Tryz.prog e3121 := sumOk (T := T3121) (tabCons (entCons g3006 entNil) tabNil) c3121
theorem gTop : EntG Tryz.prog eTop := sumOk (T := Ttop) (tabCons (entCons g0 entNil) (tabCons (entCons g1216 entNil) (tabCons (entCons g1219 entNil) (tabCons (entCons g2062 entNil) (tabCons (entCons g2665 entNil) (tabCons (entCons g3121 entNil) tabNil)))))) cTop
theorem known_c {w : World} (h : w.heap[1]? = some (.cells ⟨asciiL⟩ 60 (0, 0))) : Calls Tryz.prog 4 #[] w fun e w' => e = .returned (.bool true) ∧ Below w.heap.size w w' := known_of gTop h
end Go.Proofs.YtfcklaeahpibhaaGreatDoor
