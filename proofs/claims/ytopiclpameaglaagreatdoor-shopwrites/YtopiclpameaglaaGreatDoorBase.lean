/-
What the program's own functions without a body, its one deferred function and the table of operators come to; no condition.
-/
import Derived.Test.YtopiclpameaglaaGreatDoorEv3
import Derived.Test.YtopiclpameaglaaGreatDoorProg
import Derived.Shelf.Slices.In.CompactS
import Derived.Shelf.Slices.In.SortAlone
import Derived.Shelf.LaysM
import Derived.Shelf.Strings.Shaped
import Derived.Shelf.Strings.Builder1
import Derived.Shelf.Strconv.Itoa3
import Derived.KernelRfl
import Derived.RecoverIn
import Derived.TacticsInMore
import Derived.RegionIn
import Derived.Sort.EveryDepth
import Derived.Sort.OwnSorted
import Derived.Lib.OwnBridge
import Derived.Sort.KeysCollected
import Derived.Maps.StringElems
import Derived.Maps.AppendAt
import Derived.Maps.RangeWalk
import Derived.WalkKit
import Derived.WalkMore
import Derived.Below
import Derived.Laws.MakeOwn
import Derived.LoopTactic
import Derived.Outline
import Derived.Lib.Hide
set_option linter.unusedSimpArgs false
set_option linter.unusedVariables false
namespace Go.Proofs.YtopiclpameaglaaGreatDoor
open Go.Shelf
def Tryz.laysSort_ren : Go.Shelf.Ren := ⟨fun | 190 => 265 | 125 => 374 | 258 => 383 | 128 => 537 | 129 => 134 | 302 => 553 | 303 => 554 | 304 => 555 | 305 => 556 | 306 => 557 | 307 => 558 | 308 => 559 | 309 => 560 | 310 => 561 | 333 => 697 | 329 => 677 | 330 => 678 | 334 => 698 | 335 => 699 | 336 => 700 | 344 => 828 | n => n, fun | 31 => 23 | 9 => 9 | 3 => 3 | 46 => 102 | 0 => 0 | 51 => 51 | 53 => 104 | 4 => 4 | 183 => 686 | 182 => 685 | 131 => 147 | 5 => 5 | 218 => 797 | 222 => 801 | 228 => 874 | 229 => 850 | n => n, fun | n => n⟩
theorem Tryz.laysSort : Go.Proofs.Lays.n190 Tryz.prog Tryz.laysSort_ren := {
  mixed := by kernel_rfl
  f125 := Tryz.func374.trans (congrArg some (by kernel_rfl))
  f128 := Tryz.func537.trans (congrArg some (by kernel_rfl))
  f129 := Tryz.func134.trans (congrArg some (by kernel_rfl))
  f190 := Tryz.func265.trans (congrArg some (by kernel_rfl))
  f258 := Tryz.func383.trans (congrArg some (by kernel_rfl))
  f302 := Tryz.func553.trans (congrArg some (by kernel_rfl))
  f303 := Tryz.func554.trans (congrArg some (by kernel_rfl))
  f304 := Tryz.func555.trans (congrArg some (by kernel_rfl))
  f305 := Tryz.func556.trans (congrArg some (by kernel_rfl))
  f306 := Tryz.func557.trans (congrArg some (by kernel_rfl))
  f307 := Tryz.func558.trans (congrArg some (by kernel_rfl))
  f308 := Tryz.func559.trans (congrArg some (by kernel_rfl))
  f309 := Tryz.func560.trans (congrArg some (by kernel_rfl))
  f310 := Tryz.func561.trans (congrArg some (by kernel_rfl))
  f329 := Tryz.func677.trans (congrArg some (by kernel_rfl))
  f330 := Tryz.func678.trans (congrArg some (by kernel_rfl))
  f333 := Tryz.func697.trans (congrArg some (by kernel_rfl))
  f334 := Tryz.func698.trans (congrArg some (by kernel_rfl))
  f335 := Tryz.func699.trans (congrArg some (by kernel_rfl))
  f336 := Tryz.func700.trans (congrArg some (by kernel_rfl))
  f344 := Tryz.func828.trans (congrArg some (by kernel_rfl))
  t0 := Tryz.underlying0
  a0 := Tryz.isAgg0
  z0 := Tryz.sizeOf0
  v0 := Tryz.zeroValue0
  t3 := Tryz.underlying3
  a3 := Tryz.isAgg3
  z3 := Tryz.sizeOf3
  v3 := Tryz.zeroValue3
  t4 := Tryz.underlying4
  a4 := Tryz.isAgg4
  z4 := Tryz.sizeOf4
  v4 := Tryz.zeroValue4
  t5 := Tryz.underlying5
  a5 := Tryz.isAgg5
  z5 := Tryz.sizeOf5
  v5 := Tryz.zeroValue5
  t9 := Tryz.underlying9
  a9 := Tryz.isAgg9
  z9 := Tryz.sizeOf9
  v9 := Tryz.zeroValue9
  t31 := Tryz.underlying23
  a31 := Tryz.isAgg23
  z31 := Tryz.sizeOf23
  v31 := Tryz.zeroValue23
  t46 := Tryz.underlying102
  a46 := Tryz.isAgg102
  z46 := Tryz.sizeOf102
  v46 := Tryz.zeroValue102
  t51 := Tryz.underlying51
  a51 := Tryz.isAgg51
  z51 := Tryz.sizeOf51
  v51 := Tryz.zeroValue51
  t53 := Tryz.underlying104
  a53 := Tryz.isAgg104
  z53 := Tryz.sizeOf104
  v53 := Tryz.zeroValue104
  t131 := Tryz.underlying147
  a131 := Tryz.isAgg147
  z131 := Tryz.sizeOf147
  v131 := Tryz.zeroValue147
  t182 := Tryz.underlying685
  a182 := Tryz.isAgg685
  z182 := Tryz.sizeOf685
  v182 := Tryz.zeroValue685
  t183 := Tryz.underlying686
  a183 := Tryz.isAgg686
  z183 := Tryz.sizeOf686
  v183 := Tryz.zeroValue686
  t218 := Tryz.underlying797
  a218 := Tryz.isAgg797
  z218 := Tryz.sizeOf797
  v218 := Tryz.zeroValue797
  t222 := Tryz.underlying801
  a222 := Tryz.isAgg801
  z222 := Tryz.sizeOf801
  v222 := Tryz.zeroValue801
  t228 := Tryz.underlying874
  a228 := Tryz.isAgg874
  z228 := Tryz.sizeOf874
  v228 := Tryz.zeroValue874
  t229 := Tryz.underlying850
  a229 := Tryz.isAgg850
  z229 := Tryz.sizeOf850
  v229 := Tryz.zeroValue850 }
def Tryz.laysCompact_ren : Go.Shelf.Ren := ⟨fun | 194 => 595 | n => n, fun | 31 => 23 | 9 => 9 | 3 => 3 | 4 => 4 | 0 => 0 | n => n, fun | n => n⟩
theorem Tryz.laysCompact : Go.Proofs.Lays.n194 Tryz.prog Tryz.laysCompact_ren := {
  mixed := by kernel_rfl
  f194 := Tryz.func595.trans (congrArg some (by kernel_rfl))
  t0 := Tryz.underlying0
  a0 := Tryz.isAgg0
  z0 := Tryz.sizeOf0
  v0 := Tryz.zeroValue0
  t3 := Tryz.underlying3
  a3 := Tryz.isAgg3
  z3 := Tryz.sizeOf3
  v3 := Tryz.zeroValue3
  t4 := Tryz.underlying4
  a4 := Tryz.isAgg4
  z4 := Tryz.sizeOf4
  v4 := Tryz.zeroValue4
  t9 := Tryz.underlying9
  a9 := Tryz.isAgg9
  z9 := Tryz.sizeOf9
  v9 := Tryz.zeroValue9
  t31 := Tryz.underlying23
  a31 := Tryz.isAgg23
  z31 := Tryz.sizeOf23
  v31 := Tryz.zeroValue23 }
def Tryz.laysCut_ren : Go.Shelf.Ren := ⟨fun | 145 => 20 | 220 => 32 | 219 => 46 | 217 => 76 | 225 => 77 | 224 => 78 | 267 => 79 | 266 => 131 | 314 => 132 | n => n, fun | 9 => 9 | 4 => 4 | 59 => 41 | 3 => 3 | 5 => 5 | 46 => 102 | 146 => 185 | 51 => 51 | n => n, fun | 1 => 0 | n => n⟩
theorem Tryz.laysCut : Go.Proofs.LaysM.n145 Tryz.prog Tryz.laysCut_ren := {
  mixed := by kernel_rfl
  f145 := Tryz.func20.trans (congrArg some (by kernel_rfl))
  f217 := Tryz.func76.trans (congrArg some (by kernel_rfl))
  f219 := Tryz.func46.trans (congrArg some (by kernel_rfl))
  f220 := Tryz.func32.trans (congrArg some (by kernel_rfl))
  f224 := Tryz.func78.trans (congrArg some (by kernel_rfl))
  f225 := Tryz.func77.trans (congrArg some (by kernel_rfl))
  f266 := Tryz.func131.trans (congrArg some (by kernel_rfl))
  f267 := Tryz.func79.trans (congrArg some (by kernel_rfl))
  f314 := Tryz.func132.trans (congrArg some (by kernel_rfl))
  t3 := Tryz.underlying3
  a3 := Tryz.isAgg3
  z3 := Tryz.sizeOf3
  v3 := Tryz.zeroValue3
  t4 := Tryz.underlying4
  a4 := Tryz.isAgg4
  z4 := Tryz.sizeOf4
  v4 := Tryz.zeroValue4
  t5 := Tryz.underlying5
  a5 := Tryz.isAgg5
  z5 := Tryz.sizeOf5
  v5 := Tryz.zeroValue5
  t9 := Tryz.underlying9
  a9 := Tryz.isAgg9
  z9 := Tryz.sizeOf9
  v9 := Tryz.zeroValue9
  t46 := Tryz.underlying102
  a46 := Tryz.isAgg102
  z46 := Tryz.sizeOf102
  v46 := Tryz.zeroValue102
  t51 := Tryz.underlying51
  a51 := Tryz.isAgg51
  z51 := Tryz.sizeOf51
  v51 := Tryz.zeroValue51
  t59 := Tryz.underlying41
  a59 := Tryz.isAgg41
  z59 := Tryz.sizeOf41
  v59 := Tryz.zeroValue41
  t146 := Tryz.underlying185
  a146 := Tryz.isAgg185
  z146 := Tryz.sizeOf185
  v146 := Tryz.zeroValue185
  g1 := by kernel_rfl
  i3 := by kernel_rfl
  i4 := by kernel_rfl
  i5 := by kernel_rfl
  i9 := by kernel_rfl
  i46 := by kernel_rfl
  i51 := by kernel_rfl
  i59 := by kernel_rfl
  i146 := by kernel_rfl
  m1 := by kernel_rfl
  s1_3 := fun w h => Go.Proofs.cell_of_shapedOpen_int (zero := #[.int .i64 0]) (t := 3) h (of_decide_eq_true (by kernel_rfl)) (by kernel_rfl) rfl (by kernel_rfl) (by kernel_rfl) Tryz.underlying3 }
def Tryz.laysContains_ren : Go.Shelf.Ren := ⟨fun | 144 => 33 | 143 => 47 | 219 => 46 | 217 => 76 | 225 => 77 | 224 => 78 | 267 => 79 | 266 => 131 | 314 => 132 | n => n, fun | 9 => 9 | 4 => 4 | 3 => 3 | 5 => 5 | 46 => 102 | 146 => 185 | 51 => 51 | n => n, fun | 1 => 0 | n => n⟩
theorem Tryz.laysContains : Go.Proofs.LaysM.n144 Tryz.prog Tryz.laysContains_ren := {
  mixed := by kernel_rfl
  f143 := Tryz.func47.trans (congrArg some (by kernel_rfl))
  f144 := Tryz.func33.trans (congrArg some (by kernel_rfl))
  f217 := Tryz.func76.trans (congrArg some (by kernel_rfl))
  f219 := Tryz.func46.trans (congrArg some (by kernel_rfl))
  f224 := Tryz.func78.trans (congrArg some (by kernel_rfl))
  f225 := Tryz.func77.trans (congrArg some (by kernel_rfl))
  f266 := Tryz.func131.trans (congrArg some (by kernel_rfl))
  f267 := Tryz.func79.trans (congrArg some (by kernel_rfl))
  f314 := Tryz.func132.trans (congrArg some (by kernel_rfl))
  t3 := Tryz.underlying3
  a3 := Tryz.isAgg3
  z3 := Tryz.sizeOf3
  v3 := Tryz.zeroValue3
  t4 := Tryz.underlying4
  a4 := Tryz.isAgg4
  z4 := Tryz.sizeOf4
  v4 := Tryz.zeroValue4
  t5 := Tryz.underlying5
  a5 := Tryz.isAgg5
  z5 := Tryz.sizeOf5
  v5 := Tryz.zeroValue5
  t9 := Tryz.underlying9
  a9 := Tryz.isAgg9
  z9 := Tryz.sizeOf9
  v9 := Tryz.zeroValue9
  t46 := Tryz.underlying102
  a46 := Tryz.isAgg102
  z46 := Tryz.sizeOf102
  v46 := Tryz.zeroValue102
  t51 := Tryz.underlying51
  a51 := Tryz.isAgg51
  z51 := Tryz.sizeOf51
  v51 := Tryz.zeroValue51
  t146 := Tryz.underlying185
  a146 := Tryz.isAgg185
  z146 := Tryz.sizeOf185
  v146 := Tryz.zeroValue185
  g1 := by kernel_rfl
  i3 := by kernel_rfl
  i4 := by kernel_rfl
  i5 := by kernel_rfl
  i9 := by kernel_rfl
  i46 := by kernel_rfl
  i51 := by kernel_rfl
  i146 := by kernel_rfl
  m1 := by kernel_rfl
  s1_3 := fun w h => Go.Proofs.cell_of_shapedOpen_int (zero := #[.int .i64 0]) (t := 3) h (of_decide_eq_true (by kernel_rfl)) (by kernel_rfl) rfl (by kernel_rfl) (by kernel_rfl) Tryz.underlying3 }
def Tryz.laysItoa_ren : Go.Shelf.Ren := ⟨fun | 171 => 22 | 243 => 34 | 246 => 48 | 283 => 80 | 284 => 81 | 285 => 82 | 286 => 83 | 129 => 134 | 317 => 133 | 318 => 135 | 319 => 136 | 320 => 137 | 337 => 205 | 338 => 206 | n => n, fun | 3 => 3 | 9 => 9 | 2 => 2 | 4 => 4 | 171 => 103 | 0 => 0 | 53 => 104 | 37 => 46 | 5 => 5 | 173 => 107 | 212 => 188 | 51 => 51 | 20 => 20 | 213 => 189 | 46 => 102 | 232 => 466 | 233 => 467 | n => n, fun | 17 => 1 | 18 => 2 | 19 => 3 | n => n⟩
theorem Tryz.laysItoa : Go.Proofs.LaysM.n171 Tryz.prog Tryz.laysItoa_ren := {
  mixed := by kernel_rfl
  f129 := Tryz.func134.trans (congrArg some (by kernel_rfl))
  f171 := Tryz.func22.trans (congrArg some (by kernel_rfl))
  f243 := Tryz.func34.trans (congrArg some (by kernel_rfl))
  f246 := Tryz.func48.trans (congrArg some (by kernel_rfl))
  f283 := Tryz.func80.trans (congrArg some (by kernel_rfl))
  f284 := Tryz.func81.trans (congrArg some (by kernel_rfl))
  f285 := Tryz.func82.trans (congrArg some (by kernel_rfl))
  f286 := Tryz.func83.trans (congrArg some (by kernel_rfl))
  f317 := Tryz.func133.trans (congrArg some (by kernel_rfl))
  f318 := Tryz.func135.trans (congrArg some (by kernel_rfl))
  f319 := Tryz.func136.trans (congrArg some (by kernel_rfl))
  f320 := Tryz.func137.trans (congrArg some (by kernel_rfl))
  f337 := Tryz.func205.trans (congrArg some (by kernel_rfl))
  f338 := Tryz.func206.trans (congrArg some (by kernel_rfl))
  t0 := Tryz.underlying0
  a0 := Tryz.isAgg0
  z0 := Tryz.sizeOf0
  v0 := Tryz.zeroValue0
  t2 := Tryz.underlying2
  a2 := Tryz.isAgg2
  z2 := Tryz.sizeOf2
  v2 := Tryz.zeroValue2
  t3 := Tryz.underlying3
  a3 := Tryz.isAgg3
  z3 := Tryz.sizeOf3
  v3 := Tryz.zeroValue3
  t4 := Tryz.underlying4
  a4 := Tryz.isAgg4
  z4 := Tryz.sizeOf4
  v4 := Tryz.zeroValue4
  t5 := Tryz.underlying5
  a5 := Tryz.isAgg5
  z5 := Tryz.sizeOf5
  v5 := Tryz.zeroValue5
  t9 := Tryz.underlying9
  a9 := Tryz.isAgg9
  z9 := Tryz.sizeOf9
  v9 := Tryz.zeroValue9
  t20 := Tryz.underlying20
  a20 := Tryz.isAgg20
  z20 := Tryz.sizeOf20
  v20 := Tryz.zeroValue20
  t37 := Tryz.underlying46
  a37 := Tryz.isAgg46
  z37 := Tryz.sizeOf46
  v37 := Tryz.zeroValue46
  t46 := Tryz.underlying102
  a46 := Tryz.isAgg102
  z46 := Tryz.sizeOf102
  v46 := Tryz.zeroValue102
  t51 := Tryz.underlying51
  a51 := Tryz.isAgg51
  z51 := Tryz.sizeOf51
  v51 := Tryz.zeroValue51
  t53 := Tryz.underlying104
  a53 := Tryz.isAgg104
  z53 := Tryz.sizeOf104
  v53 := Tryz.zeroValue104
  t171 := Tryz.underlying103
  a171 := Tryz.isAgg103
  z171 := Tryz.sizeOf103
  v171 := Tryz.zeroValue103
  t173 := Tryz.underlying107
  a173 := Tryz.isAgg107
  z173 := Tryz.sizeOf107
  v173 := Tryz.zeroValue107
  t212 := Tryz.underlying188
  a212 := Tryz.isAgg188
  z212 := Tryz.sizeOf188
  v212 := Tryz.zeroValue188
  t213 := Tryz.underlying189
  a213 := Tryz.isAgg189
  z213 := Tryz.sizeOf189
  t232 := Tryz.underlying466
  a232 := Tryz.isAgg466
  z232 := Tryz.sizeOf466
  v232 := Tryz.zeroValue466
  t233 := Tryz.underlying467
  a233 := Tryz.isAgg467
  z233 := Tryz.sizeOf467
  v233 := Tryz.zeroValue467
  g17 := by kernel_rfl
  g18 := by kernel_rfl
  g19 := by kernel_rfl
  i0 := by kernel_rfl
  i2 := by kernel_rfl
  i3 := by kernel_rfl
  i4 := by kernel_rfl
  i5 := by kernel_rfl
  i9 := by kernel_rfl
  i20 := by kernel_rfl
  i37 := by kernel_rfl
  i46 := by kernel_rfl
  i51 := by kernel_rfl
  i53 := by kernel_rfl
  i171 := by kernel_rfl
  i173 := by kernel_rfl
  i212 := by kernel_rfl
  i232 := by kernel_rfl
  i233 := by kernel_rfl
  m17 := by kernel_rfl
  m18 := by kernel_rfl
  m19 := by kernel_rfl }
def Tryz.laysString_ren : Go.Shelf.Ren := ⟨fun | 169 => 37 | n => n, fun | 70 => 61 | 9 => 9 | 0 => 0 | 72 => 63 | 37 => 46 | 127 => 83 | 3 => 3 | 5 => 5 | n => n, fun | n => n⟩
theorem Tryz.laysString : Go.Proofs.Lays.n169 Tryz.prog Tryz.laysString_ren := {
  mixed := by kernel_rfl
  f169 := Tryz.func37.trans (congrArg some (by kernel_rfl))
  t0 := Tryz.underlying0
  a0 := Tryz.isAgg0
  z0 := Tryz.sizeOf0
  v0 := Tryz.zeroValue0
  t3 := Tryz.underlying3
  a3 := Tryz.isAgg3
  z3 := Tryz.sizeOf3
  v3 := Tryz.zeroValue3
  t9 := Tryz.underlying9
  a9 := Tryz.isAgg9
  z9 := Tryz.sizeOf9
  v9 := Tryz.zeroValue9
  t37 := Tryz.underlying46
  a37 := Tryz.isAgg46
  z37 := Tryz.sizeOf46
  v37 := Tryz.zeroValue46
  t70 := Tryz.underlying61
  a70 := Tryz.isAgg61
  z70 := Tryz.sizeOf61
  v70 := Tryz.zeroValue61
  t72 := Tryz.underlying63
  a72 := Tryz.isAgg63
  z72 := Tryz.sizeOf63
  v72 := Tryz.zeroValue63
  t127 := Tryz.underlying83
  a127 := Tryz.isAgg83
  z127 := Tryz.sizeOf83
  v127 := Tryz.zeroValue83 }
theorem Tryz.extraString : Builder.Extra Tryz.prog Tryz.laysString_ren := {
  sizeBuilder := by kernel_rfl
  liesBuilder := by kernel_rfl
  t5 := Tryz.underlying5
  a5 := Tryz.isAgg5
  z5 := Tryz.sizeOf5
  v5 := Tryz.zeroValue5
  infoByte := by kernel_rfl
  cellsByte := by kernel_rfl
  sizeByte := by kernel_rfl
  neB5 := by decide }
end Go.Proofs.YtopiclpameaglaaGreatDoor

set_option maxRecDepth 1000000
namespace Go.Proofs.YtopiclpameaglaaGreatDoor
open Go Go.Ev
noncomputable section
def xk0 : Go.FuncId → Option XK := fun f => (([(131, .plain Extern.BytealgIndexByte.indexByte), (84, .noEscape), (408, .makeNoZero #[3] #[46]), (77, .plain Extern.BytealgIndex.index), (53, .race .acquire), (55, .race .releaseMerge), (51, .cas), (56, .add), (303, .plain Extern.BytealgCount.count), (130, .clone), (50, .plain fun _ => do mark .disable; pure Extern.Race.none_), (52, .plain fun _ => do mark .enable; pure Extern.Race.none_)] : List (Nat × XK)).find? (fun p => Nat.beq p.1 f)).map (·.2)
theorem numOk : NumOk Tryz.prog := by
  have h : (Tryz.prog.funcs.toList.all fun fn => !(fn.body.isSome && fn.name == "runtime.NumGoroutine")) = true := by kernel_rfl
  intro f fn hf hb
  have h1 := List.all_eq_true.1 h fn (by simpa using Array.mem_of_getElem? hf)
  simpa [hb] using h1
theorem mixed : Tryz.prog.follows .mixedOrders = true := by kernel_rfl
theorem xOk : XOk Tryz.prog xk0 := by
  intro f k h
  unfold xk0 at h
  obtain ⟨p, hp, rfl⟩ := Option.map_eq_some_iff.1 h
  have h1 := List.find?_some hp
  have h2 := List.mem_of_find?_eq_some hp
  obtain rfl : p.1 = f := by simpa using h1
  simp only [List.mem_cons, List.not_mem_nil, or_false] at h2
  rcases h2 with rfl | rfl | rfl | rfl | rfl | rfl | rfl | rfl | rfl | rfl | rfl | rfl
  · exact ⟨Tryz.f131, _, Tryz.func131, by kernel_rfl, by kernel_rfl, by kernel_rfl, by kernel_rfl, by constructor⟩
  · exact ⟨Tryz.f84, _, Tryz.func84, by kernel_rfl, by kernel_rfl, by kernel_rfl, by kernel_rfl, by constructor⟩
  · exact ⟨Tryz.f408, _, Tryz.func408, by kernel_rfl, by kernel_rfl, by kernel_rfl, by kernel_rfl, by constructor⟩
  · exact ⟨Tryz.f77, _, Tryz.func77, by kernel_rfl, by kernel_rfl, by kernel_rfl, by kernel_rfl, by constructor⟩
  · exact ⟨Tryz.f53, _, Tryz.func53, by kernel_rfl, by kernel_rfl, by kernel_rfl, by kernel_rfl, by constructor⟩
  · exact ⟨Tryz.f55, _, Tryz.func55, by kernel_rfl, by kernel_rfl, by kernel_rfl, by kernel_rfl, by constructor⟩
  · exact ⟨Tryz.f51, _, Tryz.func51, by kernel_rfl, by kernel_rfl, by kernel_rfl, by kernel_rfl, by constructor⟩
  · exact ⟨Tryz.f56, _, Tryz.func56, by kernel_rfl, by kernel_rfl, by kernel_rfl, by kernel_rfl, by constructor⟩
  · exact ⟨Tryz.f303, _, Tryz.func303, by kernel_rfl, by kernel_rfl, by kernel_rfl, by kernel_rfl, by constructor⟩
  · exact ⟨Tryz.f130, _, Tryz.func130, by kernel_rfl, by kernel_rfl, by kernel_rfl, by kernel_rfl, by constructor⟩
  · exact ⟨Tryz.f50, _, Tryz.func50, by kernel_rfl, by kernel_rfl, by kernel_rfl, by kernel_rfl, by constructor⟩
  · exact ⟨Tryz.f52, _, Tryz.func52, by kernel_rfl, by kernel_rfl, by kernel_rfl, by kernel_rfl, by constructor⟩
def dz : Go.FuncId → Bool := fun f => Nat.beq f 351
theorem dz_idle (args : Array Value) (w : World) : CallsDIn Fence.wide 0 Tryz.prog 351 args .returning w fun e u w' => (∃ v, e = .returned v) ∧ u = .returning ∧ w' = w := by
  refine callsDIn_of_wpSIn Tryz.func351 rfl trivial fun c₀ cs hu => ?_
  have hT : 17 ≤ (args ++ Array.replicate (Tryz.f351.ntmps - args.size) undef).size := by rw [Tryz.ntmps351]; simp; omega
  generalize (args ++ Array.replicate (Tryz.f351.ntmps - args.size) undef) = T at hT
  apply wpSIn_seq
  apply wpSIn_region
  simp [wpOpsSIn, go_sem, recoverD, hu, Exit.thenS]
  have g1 : ∀ w, (eqGuard BinOp.neq 20 (Operand.tmp 5) (Operand.const Value.nilIface) Value.nilIface Value.nilIface).run Tryz.prog w = .ok () w := fun w => by kernel_rfl
  have g2 : ∀ w, (binOp BinOp.neq 20 Value.nilIface Value.nilIface).run Tryz.prog w = .ok (.bool false) w := fun w => by kernel_rfl
  have h4 : 4 < T.size := by omega
  have h5 : 5 < T.size := by omega
  have h1 : 1 < T.size := by omega
  have h6 : 6 < T.size := by omega
  apply wpSIn_seq
  apply wpSIn_region
  simp [wpOpsSIn, go_sem, Exit.thenS, h4, h5, h1, g1, g2, Result.andThen]
  refine wpSIn_cond (t := false) (by simp [Act.eval, h6]) ?_
  simp only [Bool.false_eq_true, if_false]
  refine wpSIn_of_wpIn rfl (wpIn_skip ?_)
  cases c₀
  simp_all [bodyPostS, results, Tryz.results351]
theorem dorcOk : DorcOk Tryz.prog dz := by
  intro f hf
  obtain rfl : f = 351 := by simpa [dz] using hf
  refine ⟨⟨Tryz.f351, Tryz.func351, rfl⟩, fun args w => ?_⟩
  exact (dz_idle args w).mono fun e u w' h => ⟨h.1, h.2.1, by rw [h.2.2], by rw [h.2.2], by rw [h.2.2], by rw [h.2.2]⟩
end
end Go.Proofs.YtopiclpameaglaaGreatDoor

set_option maxRecDepth 1000000
namespace Go.Proofs.YtopiclpameaglaaGreatDoor
open Go Go.Ev Go.RowKit Go.Maps Go.Sort Go.Shelf
noncomputable section
/-- The entries of the six levels of operators. -/
def lvE : Nat → List MapEntry
  | 0 => [⟨(.string ⟨⟨[46, 79, 82, 46]⟩⟩), (.string ⟨⟨[46, 79, 82, 46]⟩⟩), 0⟩]
  | 1 => [⟨(.string ⟨⟨[46, 65, 78, 68, 46]⟩⟩), (.string ⟨⟨[46, 65, 78, 68, 46]⟩⟩), 0⟩]
  | 2 => [⟨(.string ⟨⟨[61]⟩⟩), (.string ⟨⟨[61]⟩⟩), 0⟩, ⟨(.string ⟨⟨[61, 61]⟩⟩), (.string ⟨⟨[61, 61]⟩⟩), 1⟩, ⟨(.string ⟨⟨[60, 62]⟩⟩), (.string ⟨⟨[60, 62]⟩⟩), 2⟩, ⟨(.string ⟨⟨[35]⟩⟩), (.string ⟨⟨[60, 62]⟩⟩), 3⟩, ⟨(.string ⟨⟨[33, 61]⟩⟩), (.string ⟨⟨[60, 62]⟩⟩), 4⟩, ⟨(.string ⟨⟨[60]⟩⟩), (.string ⟨⟨[60]⟩⟩), 5⟩, ⟨(.string ⟨⟨[62]⟩⟩), (.string ⟨⟨[62]⟩⟩), 6⟩, ⟨(.string ⟨⟨[60, 61]⟩⟩), (.string ⟨⟨[60, 61]⟩⟩), 7⟩, ⟨(.string ⟨⟨[62, 61]⟩⟩), (.string ⟨⟨[62, 61]⟩⟩), 8⟩, ⟨(.string ⟨⟨[36]⟩⟩), (.string ⟨⟨[36]⟩⟩), 9⟩]
  | 3 => [⟨(.string ⟨⟨[43]⟩⟩), (.string ⟨⟨[43]⟩⟩), 0⟩, ⟨(.string ⟨⟨[45]⟩⟩), (.string ⟨⟨[45]⟩⟩), 1⟩]
  | 4 => [⟨(.string ⟨⟨[42]⟩⟩), (.string ⟨⟨[42]⟩⟩), 0⟩, ⟨(.string ⟨⟨[47]⟩⟩), (.string ⟨⟨[47]⟩⟩), 1⟩, ⟨(.string ⟨⟨[37]⟩⟩), (.string ⟨⟨[37]⟩⟩), 2⟩]
  | 5 => [⟨(.string ⟨⟨[94]⟩⟩), (.string ⟨⟨[94]⟩⟩), 0⟩]
  | _ => []
def lvC : Nat → Nat
  | 0 => 1
  | 1 => 1
  | 2 => 10
  | 3 => 2
  | 4 => 3
  | 5 => 1
  | _ => 0
def eLv : OEnt := ⟨656, [], 1000, [], [], (.agg ⟨[(.map (some 1001)), (.map (some 1002)), (.map (some 1003)), (.map (some 1004)), (.map (some 1005)), (.map (some 1006))]⟩), [(1001, (.map [⟨(.string ⟨⟨[46, 79, 82, 46]⟩⟩), (.string ⟨⟨[46, 79, 82, 46]⟩⟩), 0⟩] 1)), (1002, (.map [⟨(.string ⟨⟨[46, 65, 78, 68, 46]⟩⟩), (.string ⟨⟨[46, 65, 78, 68, 46]⟩⟩), 0⟩] 1)), (1003, (.map [⟨(.string ⟨⟨[61]⟩⟩), (.string ⟨⟨[61]⟩⟩), 0⟩, ⟨(.string ⟨⟨[61, 61]⟩⟩), (.string ⟨⟨[61, 61]⟩⟩), 1⟩, ⟨(.string ⟨⟨[60, 62]⟩⟩), (.string ⟨⟨[60, 62]⟩⟩), 2⟩, ⟨(.string ⟨⟨[35]⟩⟩), (.string ⟨⟨[60, 62]⟩⟩), 3⟩, ⟨(.string ⟨⟨[33, 61]⟩⟩), (.string ⟨⟨[60, 62]⟩⟩), 4⟩, ⟨(.string ⟨⟨[60]⟩⟩), (.string ⟨⟨[60]⟩⟩), 5⟩, ⟨(.string ⟨⟨[62]⟩⟩), (.string ⟨⟨[62]⟩⟩), 6⟩, ⟨(.string ⟨⟨[60, 61]⟩⟩), (.string ⟨⟨[60, 61]⟩⟩), 7⟩, ⟨(.string ⟨⟨[62, 61]⟩⟩), (.string ⟨⟨[62, 61]⟩⟩), 8⟩, ⟨(.string ⟨⟨[36]⟩⟩), (.string ⟨⟨[36]⟩⟩), 9⟩] 10)), (1004, (.map [⟨(.string ⟨⟨[43]⟩⟩), (.string ⟨⟨[43]⟩⟩), 0⟩, ⟨(.string ⟨⟨[45]⟩⟩), (.string ⟨⟨[45]⟩⟩), 1⟩] 2)), (1005, (.map [⟨(.string ⟨⟨[42]⟩⟩), (.string ⟨⟨[42]⟩⟩), 0⟩, ⟨(.string ⟨⟨[47]⟩⟩), (.string ⟨⟨[47]⟩⟩), 1⟩, ⟨(.string ⟨⟨[37]⟩⟩), (.string ⟨⟨[37]⟩⟩), 2⟩] 3)), (1006, (.map [⟨(.string ⟨⟨[94]⟩⟩), (.string ⟨⟨[94]⟩⟩), 0⟩] 1))], 1007⟩
def noOrc : Orc := fun _ _ _ => none
theorem noOrc_ok : OrcOk Tryz.prog noOrc := fun _ _ _ _ _ h => by cases h
theorem cLv : eLv.check Tryz.prog xk0 noOrc dz [] 100000 = true := by kernel_rfl
theorem gLv : EntG Tryz.prog eLv := entG_of xOk numOk noOrc_ok dorcOk mixed (fun _ h => by cases h) cLv

/-- No block lives yet. -/
def ren0 : Ev.Ren := fun i => if i < 1000 then some ⟨i, 0, 0⟩ else none
theorem sim0 (w : World) : Sim ren0 ⟨.lf, 1000⟩ w where
  live := fun i b h => by cases h
  inj := fun i j b c li lj h => by cases h
  nxt := fun i hi => by
    have h1 : 1000 ≤ i := hi
    unfold ren0
    rw [if_neg (by omega)]
  glob := fun g hg => ⟨⟨g, 0, 0⟩, by have h1 : g < 1000 := hg; unfold ren0; rw [if_pos h1], rfl, rfl⟩
  nxb := Nat.le_refl _

theorem lv_get0 : (eLv.behind ⟨.lf, 1000⟩).hp.get 1001 = some (.map (lvE 0) (lvC 0)) := by kernel_rfl
theorem lv_get1 : (eLv.behind ⟨.lf, 1000⟩).hp.get 1002 = some (.map (lvE 1) (lvC 1)) := by kernel_rfl
theorem lv_get2 : (eLv.behind ⟨.lf, 1000⟩).hp.get 1003 = some (.map (lvE 2) (lvC 2)) := by kernel_rfl
theorem lv_get3 : (eLv.behind ⟨.lf, 1000⟩).hp.get 1004 = some (.map (lvE 3) (lvC 3)) := by kernel_rfl
theorem lv_get4 : (eLv.behind ⟨.lf, 1000⟩).hp.get 1005 = some (.map (lvE 4) (lvC 4)) := by kernel_rfl
theorem lv_get5 : (eLv.behind ⟨.lf, 1000⟩).hp.get 1006 = some (.map (lvE 5) (lvC 5)) := by kernel_rfl
theorem lv_get (k : Nat) (hk : k < 6) : (eLv.behind ⟨.lf, 1000⟩).hp.get (1001 + k) = some (.map (lvE k) (lvC k)) := by
  have h6 : k = 0 ∨ k = 1 ∨ k = 2 ∨ k = 3 ∨ k = 4 ∨ k = 5 := by omega
  rcases h6 with rfl | rfl | rfl | rfl | rfl | rfl
  · exact lv_get0
  · exact lv_get1
  · exact lv_get2
  · exact lv_get3
  · exact lv_get4
  · exact lv_get5
theorem lv_closed (k : Nat) : (lvE k).all (fun e => closed e.key && closed e.val) = true := by
  unfold lvE
  split <;> rfl
theorem ents_closed {μ : Ev.Ren} : ∀ {l l' : List MapEntry}, EntsR μ l l' → l.all (fun e => closed e.key && closed e.val) = true → l' = l
  | _, _, .nil, _ => rfl
  | e :: _, e' :: _, .cons hk hv hb t, h => by
    simp only [List.all_cons, Bool.and_eq_true] at h
    have h1 := VR.of_closed h.1.1 hk
    have h2 := VR.of_closed h.1.2 hv
    rw [ents_closed t h.2]
    cases e; cases e'
    simp only at h1 h2 hb
    rw [h1, h2, hb]
theorem levels_c (w : World) : Calls Tryz.prog 656 #[] w fun e w' => ∃ b : Nat → Nat, e = .returned (.agg #[.map (some (b 0)), .map (some (b 1)), .map (some (b 2)), .map (some (b 3)), .map (some (b 4)), .map (some (b 5))]) ∧
    (∀ k, k < 6 → w'.heap[b k]? = some (.map ⟨lvE k⟩ (lvC k)) ∧ w.heap.size ≤ b k) ∧ Below w.heap.size w w' := by
  have h := gLv.2 ⟨.lf, 1000⟩ rfl (by rfl) (by rfl) ren0 w #[] (sim0 w) .nil
  refine (callsIn_wide.1 h).mono fun e w' hq => ?_
  cases e with
  | panicked c => exact hq.elim
  | outgrown => exact hq.elim
  | returned v' =>
    obtain ⟨ν, hst, hv⟩ := hq
    have hv' : VR ν (.agg ⟨[1001, 1002, 1003, 1004, 1005, 1006].map fun i => Value.map (some i)⟩) v' := hv
    have hblk : ∀ k, k < 6 → ∀ lo, ν (1001 + k) = some lo → w'.heap[lo.blk]? = some (.map ⟨lvE k⟩ (lvC k)) ∧ w.heap.size ≤ lo.blk := by
      intro k hk lo hlo
      have hget := lv_get k hk
      have hb := hst.sim.blk hget hlo
      obtain ⟨es', h1, h2⟩ := hb
      have hc := lv_closed k
      have h3 := ents_closed h2 hc
      refine ⟨by rw [h1, ← h3], ?_⟩
      rcases hst.foot _ _ lo hget hlo with h4 | ⟨j, y, lj, h4, _⟩
      · exact h4
      · cases h4
    cases hv' with
    | atom ha => simp [atom] at ha
    | agg hp =>
      cases hp with
      | cons h0 hp => cases hp with
        | cons h1 hp => cases hp with
          | cons h2 hp => cases hp with
            | cons h3 hp => cases hp with
              | cons h4 hp => cases hp with
                | cons h5 hp =>
                  cases hp
                  obtain ⟨l0, m0, rfl⟩ := h0.map_inv
                  obtain ⟨l1, m1, rfl⟩ := h1.map_inv
                  obtain ⟨l2, m2, rfl⟩ := h2.map_inv
                  obtain ⟨l3, m3, rfl⟩ := h3.map_inv
                  obtain ⟨l4, m4, rfl⟩ := h4.map_inv
                  obtain ⟨l5, m5, rfl⟩ := h5.map_inv
                  refine ⟨fun k => match k with | 0 => l0.blk | 1 => l1.blk | 2 => l2.blk | 3 => l3.blk | 4 => l4.blk | _ => l5.blk, rfl, fun k hk => ?_, hst.os, hst.tape, hst.out, hst.size, fun j hj => hst.keep j hj fun i x l hx => by cases hx⟩
                  have h6 : k = 0 ∨ k = 1 ∨ k = 2 ∨ k = 3 ∨ k = 4 ∨ k = 5 := by omega
                  rcases h6 with rfl | rfl | rfl | rfl | rfl | rfl
                  · exact hblk 0 hk l0 m0
                  · exact hblk 1 hk l1 m1
                  · exact hblk 2 hk l2 m2
                  · exact hblk 3 hk l3 m3
                  · exact hblk 4 hk l4 m4
                  · exact hblk 5 hk l5 m5
end
end Go.Proofs.YtopiclpameaglaaGreatDoor

set_option maxRecDepth 1000000
namespace Go.Proofs.YtopiclpameaglaaGreatDoor
open Go Go.Ev Go.RowKit Go.Maps Go.Sort Go.Shelf
noncomputable section
theorem sort_c (blk off cap : Nat) (zs : List (List UInt8)) (w : World) (hH : Holds encStr w blk off zs.toArray) (hblk : blk < w.heap.size) (hsz : zs.length < 4611686018427387904) :
    Calls Tryz.prog 265 #[.slice (some ⟨blk, off, none⟩) zs.length cap] w fun e w' =>
      e = .returned (.tuple #[]) ∧ ∃ n os, w' = grow (putRow encStr (Sort.ahead w n) blk off (zs.mergeSort fun x y => decide (x ≤ y)).toArray) os :=
  calls_of_every_depth fun D => AnyS.slices_Sort_string_alone Tryz.laysSort D blk off cap zs w hH hblk hsz
theorem compact_c (blk off cap : Nat) (zs : List (List UInt8)) (w : World) (hH : Holds encStr w blk off zs.toArray) (hsz : zs.length ≤ 9223372036854775807) (hcap : zs.length ≤ cap) :
    Calls Tryz.prog 595 #[.slice (some ⟨blk, off, none⟩) zs.length cap] w fun e w' => e = .returned (.slice (some ⟨blk, off, none⟩) (Lib.compact zs).length cap) ∧ ∃ q, w' = putRow encStr (Sort.ahead w q) blk off (Lib.compact zs ++ List.replicate (zs.length - (Lib.compact zs).length) []).toArray :=
  calls_of_every_depth fun D => AnyS.slices_Compact_string_in Tryz.laysCompact D blk off cap zs w hH hsz hcap

theorem law9 : Keyed Tryz.prog 9 := string_keyed Tryz.underlying9
theorem info9' : (Tryz.prog.info? 9).map (fun i => (i.zero, i.size, i.bytes)) = some (some (.string ⟨#[]⟩), 1, 16) := by kernel_rfl
/-- The levels' maps as data. -/
noncomputable def lvD (k : Nat) : DataW Unit := .map (((lvE k).map (WideElems.rg Tryz.prog 9 (plainElem Tryz.prog 9))).foldr DataW.insert [])
noncomputable def strOfD : DataW Unit → List UInt8
  | .lit (.string b) => b
  | _ => []
/-- What a key of a level leads to. -/
noncomputable def lvV (k : Nat) (x : List UInt8) : List UInt8 := strOfD ((lvD k).atKey (.string x) .nil)
noncomputable def lvS (k : Nat) : List (List UInt8) := (strKeys (lvD k)).map (lvV k)
/-- All of the first k levels. -/
noncomputable def lvAll : Nat → List (List UInt8)
  | 0 => []
  | k + 1 => lvAll k ++ lvS k
def opsB : List (List UInt8) := [[36], [37], [42], [43], [45], [46, 65, 78, 68, 46], [46, 79, 82, 46], [47], [60], [60, 61], [60, 62], [61], [61, 61], [62], [62, 61], [94]]
theorem lvAll_len : (lvAll 6).length = 18 := by kernel_rfl
def L18 : List (List UInt8) := [[46, 79, 82, 46], [46, 65, 78, 68, 46], [61], [61, 61], [60, 62], [60, 62], [60, 62], [60], [62], [60, 61], [62, 61], [36], [43], [45], [42], [47], [37], [94]]
def S18 : List (List UInt8) := [[36], [37], [42], [43], [45], [46, 65, 78, 68, 46], [46, 79, 82, 46], [47], [60], [60, 61], [60, 62], [60, 62], [60, 62], [61], [61, 61], [62], [62, 61], [94]]
theorem lv_perm : (lvAll 6).Perm S18 := by
  have h : (lvAll 6).isPerm S18 = true := by kernel_rfl
  exact List.isPerm_iff.1 h
theorem s18_sorted : S18.Pairwise fun x y => decide (x ≤ y) = true := by unfold S18; decide
theorem ops_of : Lib.compact ((lvAll 6).mergeSort fun x y => decide (x ≤ y)) = opsB := by
  have h1 : (lvAll 6).mergeSort (fun x y => decide (x ≤ y)) = S18.mergeSort (fun x y => decide (x ≤ y)) := mergeSort_of_perm lv_perm
  rw [h1, List.mergeSort_of_pairwise s18_sorted]
  decide
theorem lv_reads0 : ((lvE 0).all fun x => (WideElems.rd (H := Unit) Tryz.prog 9 (plainElem Tryz.prog 9) x).isSome) = true := by kernel_rfl
theorem lv_reads1 : ((lvE 1).all fun x => (WideElems.rd (H := Unit) Tryz.prog 9 (plainElem Tryz.prog 9) x).isSome) = true := by kernel_rfl
theorem lv_reads2 : ((lvE 2).all fun x => (WideElems.rd (H := Unit) Tryz.prog 9 (plainElem Tryz.prog 9) x).isSome) = true := by kernel_rfl
theorem lv_reads3 : ((lvE 3).all fun x => (WideElems.rd (H := Unit) Tryz.prog 9 (plainElem Tryz.prog 9) x).isSome) = true := by kernel_rfl
theorem lv_reads4 : ((lvE 4).all fun x => (WideElems.rd (H := Unit) Tryz.prog 9 (plainElem Tryz.prog 9) x).isSome) = true := by kernel_rfl
theorem lv_reads5 : ((lvE 5).all fun x => (WideElems.rd (H := Unit) Tryz.prog 9 (plainElem Tryz.prog 9) x).isSome) = true := by kernel_rfl
theorem lv_reads (k : Nat) (hk : k < 6) : ((lvE k).all fun x => (WideElems.rd (H := Unit) Tryz.prog 9 (plainElem Tryz.prog 9) x).isSome) = true := by
  have h6 : k = 0 ∨ k = 1 ∨ k = 2 ∨ k = 3 ∨ k = 4 ∨ k = 5 := by omega
  rcases h6 with rfl | rfl | rfl | rfl | rfl | rfl
  · exact lv_reads0
  · exact lv_reads1
  · exact lv_reads2
  · exact lv_reads3
  · exact lv_reads4
  · exact lv_reads5
theorem lv_stamped (k : Nat) : MapKept.Stamped ⟨lvE k⟩ (lvC k) := by
  unfold MapKept.Stamped lvE lvC
  split <;> refine ⟨by simp, by simp, by simp⟩
theorem lv_size (k : Nat) : (lvE k).length ≤ 10 := by
  unfold lvE
  split <;> simp
theorem lv_own {w : World} {b k : Nat} (hk : k < 6) (h : w.heap[b]? = some (.map ⟨lvE k⟩ (lvC k))) : w.ownsMap Tryz.prog 9 (plainElem Tryz.prog 9) b 10 (lvD k) := by
  refine ⟨⟨lvE k⟩, lvC k, h, ⟨?_, lv_stamped k, fun x hx => ?_⟩, lv_size k, rfl⟩
  · have := lv_size k
    show (lvE k).length ≤ maxLen
    unfold maxLen; omega
  · have h1 := List.all_eq_true.1 (lv_reads k hk) x hx
    exact Option.isSome_iff_exists.1 h1
end
end Go.Proofs.YtopiclpameaglaaGreatDoor

set_option maxRecDepth 1000000
namespace Go.Proofs.YtopiclpameaglaaGreatDoor
open Go Go.Ev Go.RowKit Go.Maps Go.Sort Go.Shelf
theorem idx784 (m : Nat → Nat) (k : Nat) (hk : k < 6) (w : World) :
    (Instr.index 784 (.agg #[.map (some (m 0)), .map (some (m 1)), .map (some (m 2)), .map (some (m 3)), .map (some (m 4)), .map (some (m 5))]) (.int .i64 (k : Int))).run Tryz.prog w = .ok (.map (some (m k))) w := by
  have h6 : k = 0 ∨ k = 1 ∨ k = 2 ∨ k = 3 ∨ k = 4 ∨ k = 5 := by omega
  rcases h6 with rfl | rfl | rfl | rfl | rfl | rfl <;> rfl
theorem lvAll_le (k : Nat) (hk : k ≤ 6) : (lvAll k).length ≤ 18 := by
  have h7 : k = 0 ∨ k = 1 ∨ k = 2 ∨ k = 3 ∨ k = 4 ∨ k = 5 ∨ k = 6 := by omega
  have h : ∀ j, j ≤ 6 → (lvAll j).length ≤ (lvAll 6).length := by
    intro j hj
    rcases (show j = 0 ∨ j = 1 ∨ j = 2 ∨ j = 3 ∨ j = 4 ∨ j = 5 ∨ j = 6 by omega) with rfl | rfl | rfl | rfl | rfl | rfl | rfl <;> simp only [lvAll, List.length_append, List.length_nil] <;> omega
  have := h k hk
  rw [lvAll_len] at this
  exact this
theorem perm_next {k : Nat} {ss rs ks : List (List UInt8)} (h : rs = ss ++ ks.map (lvV k)) (hp : ss.Perm (lvAll k)) (hk : ks.Perm (strKeys (lvD k))) : rs.Perm (lvAll (k + 1)) := by
  subst h
  exact hp.append (hk.map _)
theorem lvV_of {k : Nat} {x c : List UInt8} {y : DataW Unit × List MemPlace} (hat : ∀ zd, (lvD k).atKey (.string x) zd = y.1) (hv : plainElem Tryz.prog 9 (encStr c) = some y) : lvV k x = c := by
  obtain ⟨s, hs, rfl, _⟩ := plainElem_string_inv Tryz.underlying9 hv
  unfold lvV
  rw [hat]
  simp only [encStr, Value.string.injEq] at hs
  show s.data.toList = c
  rw [← hs]
theorem comp18 : Lib.compact S18 = opsB := by decide
theorem sort18 (g cap : Nat) (ss : List (List UInt8)) (w : World) (hp : ss.Perm (lvAll 6)) (hH : Holds encStr w g 0 ss.toArray) (hg : g < w.heap.size) :
    Calls Tryz.prog 265 #[.slice (some ⟨g, 0, none⟩) 18 cap] w fun e w' => e = .returned (.tuple #[]) ∧ ∃ n os, w' = grow (putRow encStr (Sort.ahead w n) g 0 S18.toArray) os := by
  have hl : ss.length = 18 := by rw [hp.length_eq, lvAll_len]
  have h := sort_c g 0 cap ss w hH hg (by omega)
  have h1 : ss.mergeSort (fun x y => decide (x ≤ y)) = S18 := by
    have h2 : ss.mergeSort (fun x y => decide (x ≤ y)) = S18.mergeSort (fun x y => decide (x ≤ y)) := mergeSort_of_perm (hp.trans lv_perm)
    rw [h2, List.mergeSort_of_pairwise s18_sorted]
  rw [hl, h1] at h
  exact h
theorem compact18 (g cap : Nat) (w : World) (hH : Holds encStr w g 0 S18.toArray) (hcap : 18 ≤ cap) :
    Calls Tryz.prog 595 #[.slice (some ⟨g, 0, none⟩) 18 cap] w fun e w' => e = .returned (.slice (some ⟨g, 0, none⟩) 16 cap) ∧ ∃ q, w' = putRow encStr (Sort.ahead w q) g 0 (opsB ++ [[], []]).toArray := by
  have h := compact_c g 0 cap S18 w hH (by decide) hcap
  rw [comp18] at h
  exact h
/-- The end. -/
theorem ops_left {w w1 wr : World} {g cap nn q : Nat} {os : Array Obj} {ss : List (List UInt8)} (hp : ss.Perm (lvAll 6)) (hrow : wr.ownsRow w1.heap.size 9 1 (.slice (some ⟨g, 0, none⟩) 18 cap) 18 (ss.map encStr)) (h1 : Below w.heap.size w w1) (h2 : Below w1.heap.size w1 wr) :
    (putRow encStr (Sort.ahead (grow (putRow encStr (Sort.ahead wr nn) g 0 S18.toArray) os) q) g 0 (opsB ++ [[], []]).toArray).ownsRow w.heap.size 9 1 (.slice (some ⟨g, 0, none⟩) 16 cap) 16 (opsB.map encStr) ∧
      Below w.heap.size w (putRow encStr (Sort.ahead (grow (putRow encStr (Sort.ahead wr nn) g 0 S18.toArray) os) q) g 0 (opsB ++ [[], []]).toArray) := by
  have hl : ss.length = 18 := by rw [hp.length_eq, lvAll_len]
  rcases hrow.2 with ⟨h0, _⟩ | ⟨g', cap', cur, hv, hbase, hb, k1, k2, k3, k4⟩
  · cases h0
  cases hv
  have hsz := h1.size
  have hbase' : w.heap.size ≤ g := by omega
  have hs := ownsRow_sorted (base := w.heap.size) (n := nn) (os := os) (ss := ss) (ts := S18) (by rw [hl]; rfl) hbase' hb (by omega) k2 k3
  rw [hl] at hs
  have hc := Lib.ownsRow_putRow (q := q) (k := 16) (ys := opsB ++ [[], []]) hs rfl (by omega)
  have hbel : Below w.heap.size w wr := h1.trans (h2.mono hsz)
  refine ⟨hc, Lib.below_putRow (hbel.grown (grownBy_sorted _) hbel.size (fun j hj => by cases hj; exact hbase')) hbase'⟩
/-- Within a level: what has come of it so far. -/
def InR (b : Nat → Nat) (k r : Nat) (w1 : World) (ss : List (List UInt8)) (v : Value) (wr2 : World) : Prop :=
  ∃ (left : Lit → Bool) (cnt : Nat) (ks rs : List (List UInt8)), wr2.ranges Tryz.prog 9 (plainElem Tryz.prog 9) (b k) r 10 (lvD k) left cnt ∧
    wr2.ownsRow w1.heap.size 9 1 v rs.length (rs.map encStr) ∧ Collected (lvD k) left ks ∧ rs = ss ++ ks.map (lvV k) ∧ rs.length + cnt ≤ 30 ∧
    (∀ j, j < 6 → wr2.ownsMap Tryz.prog 9 (plainElem Tryz.prog 9) (b j) 10 (lvD j)) ∧ Below w1.heap.size w1 wr2
set_option maxHeartbeats 1000000 in
theorem operators_c (w : World) : Calls Tryz.prog 610 #[] w fun e w' => ∃ g cap, e = .returned (.slice (some ⟨g, 0, none⟩) 16 cap) ∧
    w'.ownsRow w.heap.size 9 1 (.slice (some ⟨g, 0, none⟩) 16 cap) 16 (opsB.map encStr) ∧ Below w.heap.size w w' := by
  obtain ⟨i0, hi, hz0, hz1, hz2⟩ := info_parts info9'
  go_enter Tryz.func610, Tryz.ntmps610
  go_wp2_with (go_at_call 656; refine (levels_c _).mono ?_; rintro e w1 ⟨b, rfl, hb, hbel⟩)
  have HBL := Lib.hid (show ∀ j, j < 6 → b j < w1.heap.size from fun j hj => (Array.getElem?_eq_some_iff.1 (hb j hj).1).1)
  have HB := Lib.hid hb
  clear hb
  go_loopw [1, 7] (fun v kv wr => ∃ (k : Nat) (ss : List (List UInt8)), k ≤ 6 ∧ kv = .int .i64 k ∧ ss.Perm (lvAll k) ∧ wr.ownsRow w1.heap.size 9 1 v ss.length (ss.map encStr) ∧
      (∀ j, j < 6 → wr.ownsMap Tryz.prog 9 (plainElem Tryz.prog 9) (b j) 10 (lvD j)) ∧ Below w1.heap.size w1 wr) (fun _ kv _ => 6 - (intOf kv).toNat)
  case atStart =>
    exact ⟨0, [], by omega, rfl, List.Perm.refl _, ⟨by simp, .inl ⟨rfl, rfl⟩⟩, fun j hj => lv_own hj (HB.out j hj).1, Below.refl _ _⟩
  case round =>
    obtain ⟨k, ss, hk, rfl, hp, hrow, hmaps, hbw⟩ := hrel
    obtain ⟨wo, rfl⟩ : ∃ wo : World, wo = wr := ⟨_, rfl⟩
    by_cases hlt : k < 6
    · have hidx := idx784 b k hlt
      have hown := hmaps k hlt
      have HM := Lib.hid hmaps
      have HP := Lib.hid hp
      clear hmaps hp
      go_wp2_with (first
        | (at_range; refine wpList_range_own _ rfl _ 783 rfl 9 9 law9 Tryz.underlying783 _ (b k) 10 _ rfl hown ?_; intro w0 hrg0 hg0 hs0)
        | go_in)
      go_frame
      have HWO := Lib.hid hbw.size
      have hsl : ss.length ≤ 18 := by rw [HP.out.length_eq]; exact lvAll_le k hk
      have hcn := hown.size_le
      go_loopw [1] (fun v wr2 => InR b k wo.heap.size w1 ss v wr2) (fun _ wr2 => wr2.rangeLeft (b k) wo.heap.size)
      case atStart =>
        exact ⟨_, _, [], ss, hrg0, hrow.kept hg0 (Classical.em _), Collected.start _, by simp, by omega, fun j hj => (HM.out j hj).kept hg0 (by simp), hbw.grown hg0 hbw.size (fun j hj => by cases hj)⟩
      case round =>
        clear hrow hrg0 hg0 hs0 hown hbw
        obtain ⟨left, cnt, ks, rs, hrg, hrow, hC, hrs, hlen, hmaps, hbw⟩ := hrel
        have HR := Lib.hid hrs
        have HM2 := Lib.hid hmaps
        clear hrs hmaps
        go_wp2_with (first
          | (at_next; refine wpList_next_ranges _ rfl _ rfl 9 law9 (plainElem Tryz.prog 9) encStr encStr (fun key kl hk => by obtain ⟨x, hx, _⟩ := Maps.keyOf_str Tryz.underlying9 hk; exact ⟨x, hx⟩) (fun v y hv => by obtain ⟨s, rfl, _⟩ := plainElem_string_inv Tryz.underlying9 hv; exact ⟨s.data.toList, by simp [encStr]⟩) (b k) wo.heap.size 10 _ _ _ rfl hrg ?_ ?_)
          | go_in)
        · intro hc0 hl0
          go_wp2
          go_roundw
          case rel => exact ⟨k + 1, rs, by omega, by go_num, perm_next HR.out HP.out (hC.perm (HM2.out k hlt) law9 Tryz.underlying9 hl0), hrow, HM2.out, hbw⟩
          case measure => simp [intOf]; omega
        · intro x c kl yd yp w2 cnt2 hkey hlk hv hat hrg2 hlt2 hg2 hs2 hen
          obtain ⟨x', ex, rfl, _⟩ := Maps.keyOf_str Tryz.underlying9 hkey
          obtain rfl : x = x' := encStr_inj ex
          have hrow2 := hrow.kept hg2 (Or.inr (row_ne_iter hrow hrg).symm)
          have HCV := Lib.hid (lvV_of hat hv)
          clear hs2
          go_wp2_with (first
            | (at_builtin; refine wpList_append_own _ rfl _ _ 23 rfl w1.heap.size 9 i0 (.string ⟨#[]⟩) 1 16 Tryz.underlying23 hi hz0 hz1 hz2 rfl (by decide) _ _ _ rfl (hrow2.alloc _) ⟨w2.heap.size, 0, none⟩ 1 1 [encStr c] rfl rfl (cell_one_new _ _ _) (by simp [Value.oneCell', encStr]) (by unfold maxLen at *; omega) (by omega) (by have := hbw.size; have := hg2.size; simp; omega) ?_; intro v' w3 hown' hg3 hnil3; go_frame)
            | go_in)
          have hrg3 := (hrg2.alloc _).kept hg3 (row_ne_low hrow2 (HBL.out k hlt)) (row_ne_iter hrow2 hrg2)
          go_roundw
          case rel =>
            refine ⟨_, cnt2, ks ++ [x], rs ++ [c], hrg3, by simpa using hown', hC.step hlk hat, by rw [HR.out, List.map_append, List.map_singleton, HCV.out, List.append_assoc], by simp; omega, fun j hj => ?_, ?_⟩
            · exact (((HM2.out j hj).kept hg2 (by have := HBL.out j hj; have := HWO.out; simp; omega)).alloc _).kept hg3 (row_ne_low hrow2 (HBL.out j hj))
            · exact ((hbw.grown hg2 hbw.size (fun j hj => by cases hj; exact HWO.out)).alloc (by have := hbw.size; have := hg2.size; omega) _).grown hg3 (by have := hbw.size; have := hg2.size; simp; omega) (fun j hj => (hrow2.lt j hj).1)
          case measure => rw [hrg3.left_eq, hrg.left_eq]; exact hlt2
    · obtain rfl : k = 6 := by omega
      have hl : ss.length = 18 := by rw [hp.length_eq, lvAll_len]
      rw [hl] at hrow
      have HP := Lib.hid hp
      have HR := Lib.hid hrow
      have HBW := Lib.hid hbw
      clear hp hmaps hbw
      rcases hrow.2 with ⟨_, h0⟩ | ⟨g, cap, cur, rfl, hbase, hb, h1, h2, h3, h4⟩
      · cases h0
      have hH : Holds encStr wo g 0 ss.toArray := holds_of_block hb (by simpa [hl] using h4)
      have hgl : g < wo.heap.size := (Array.getElem?_eq_some_iff.1 hb).1
      have hs := sort18 g cap ss wo HP.out hH hgl
      have HH := Lib.hid (And.intro hH hgl)
      clear hrow hbase hb h2 h3 h4 hH hgl hl
      go_wp2_with (first
        | (go_at_call 265; refine hs.mono ?_; rintro e w2 ⟨rfl, nn, os, rfl⟩
           have hc := compact18 g cap (grow (putRow encStr (Sort.ahead wo nn) g 0 S18.toArray) os) (holds_grow encStr _ os g 0 _ (by simpa [putRow, mapBlock, Sort.ahead] using HH.out.2) (holds_putRow encStr _ g 0 _ _ (holds_ahead encStr wo nn g 0 _ HH.out.1) (by rw [List.size_toArray, List.size_toArray, HP.out.length_eq, lvAll_len]; rfl))) h1
           clear hs)
        | (go_at_call 595; refine hc.mono ?_; rintro e w3 ⟨rfl, q, rfl⟩))
      go_ret
      obtain ⟨e1, e2⟩ := ops_left (nn := nn) (q := q) (os := os) HP.out HR.out hbel HBW.out
      exact ⟨g, cap, rfl, e1, e2⟩
end Go.Proofs.YtopiclpameaglaaGreatDoor

set_option maxRecDepth 1000000
namespace Go.Ev
open Go.RowKit
/-- One new block is told of those that a call has made. -/
theorem Stp.newAt {μ : Ren} {s : St} {w v : World} (h : Sim μ s w) {g csz : Nat} {b : Blk} (hv : Below w.heap.size w v) (hg : w.heap.size ≤ g)
    (hb : BlkR (μ.add s.nx ⟨g, 0, csz⟩) ⟨g, 0, csz⟩ (v.heap[g]?) b) : Stp μ s w (μ.add s.nx ⟨g, 0, csz⟩) (newBlk s b) v where
  le := Ren.le_add (h.nxt _ (Nat.le_refl _)) _
  sim := by
    have hle := Ren.le_add (h.nxt _ (Nat.le_refl s.nx)) (⟨g, 0, csz⟩ : Loc)
    refine ⟨fun j x hj => ?_, fun j k x y lj lk hj hk hlj hlk he => ?_, fun j hj => ?_, fun g hg => ?_, Nat.le_succ_of_le h.nxb⟩
    · simp only [newBlk, Tr.get_set] at hj
      by_cases hjn : j = s.nx
      · subst hjn; simp at hj; subst hj
        exact ⟨_, Ren.add_self .., hb⟩
      · simp [hjn] at hj
        obtain ⟨lj, h1, h2⟩ := h.live j x hj
        have hlt := h.lt hj h1
        refine ⟨lj, hle _ _ h1, ?_⟩
        rw [hv.block _ hlt]
        exact h2.mono hle
    · simp only [newBlk, Tr.get_set] at hj hk
      by_cases hjn : j = s.nx <;> by_cases hkn : k = s.nx
      · rw [hjn, hkn]
      · subst hjn
        rw [Ren.add_self] at hlj; rw [Ren.add_ne _ _ hkn] at hlk
        simp [hkn] at hk
        have := h.lt hk hlk
        obtain rfl := Option.some.inj hlj
        simp at he; omega
      · subst hkn
        rw [Ren.add_self] at hlk; rw [Ren.add_ne _ _ hjn] at hlj
        simp [hjn] at hj
        have := h.lt hj hlj
        obtain rfl := Option.some.inj hlk
        simp at he; omega
      · simp [hjn] at hj; simp [hkn] at hk
        rw [Ren.add_ne _ _ hjn] at hlj; rw [Ren.add_ne _ _ hkn] at hlk
        exact h.inj j k x y lj lk hj hk hlj hlk he
    · have hj' : s.nx + 1 ≤ j := hj
      rw [Ren.add_ne _ _ (by omega)]; exact h.nxt j (by omega)
    · obtain ⟨l, h1, h2⟩ := h.glob g hg
      exact ⟨l, hle _ _ h1, h2⟩
  nx := Nat.le_succ _
  size := hv.size
  keep := fun c hc _ => hv.block c hc
  foot := fun i x l hx hl => by
    by_cases hi : i = s.nx
    · subst hi; rw [Ren.add_self] at hl; obtain rfl := Option.some.inj hl; exact .inl hg
    · simp only [newBlk, Tr.get_set] at hx
      simp [hi] at hx
      rw [Ren.add_ne _ _ hi] at hl
      exact .inr ⟨i, x, l, hx, hl, rfl⟩
  fresh := fun i l h1 h2 => by
    by_cases hi : i = s.nx
    · rw [hi]; exact Nat.le_refl _
    · rw [Ren.add_ne _ _ hi] at h2; simp [h1] at h2
  os := hv.os
  tape := hv.tape
  out := hv.output
end Go.Ev
namespace Go.Proofs.YtopiclpameaglaaGreatDoor
open Go Go.Ev Go.RowKit Go.Sort
def opL : List Value := [(.string ⟨⟨[36]⟩⟩), (.string ⟨⟨[37]⟩⟩), (.string ⟨⟨[42]⟩⟩), (.string ⟨⟨[43]⟩⟩), (.string ⟨⟨[45]⟩⟩), (.string ⟨⟨[46, 65, 78, 68, 46]⟩⟩), (.string ⟨⟨[46, 79, 82, 46]⟩⟩), (.string ⟨⟨[47]⟩⟩), (.string ⟨⟨[60]⟩⟩), (.string ⟨⟨[60, 61]⟩⟩), (.string ⟨⟨[60, 62]⟩⟩), (.string ⟨⟨[61]⟩⟩), (.string ⟨⟨[61, 61]⟩⟩), (.string ⟨⟨[62]⟩⟩), (.string ⟨⟨[62, 61]⟩⟩), (.string ⟨⟨[94]⟩⟩)]
noncomputable def orc0 : Orc := fun f args s => bif Nat.beq f 610 then (match args with | [] => some (.slice (some ⟨s.nx, 0, none⟩) 16 (Nat.add unk 1), newBlk s (.cells opL 9 0 true false)) | _ :: _ => none) else none
theorem opL_eq : opsB.map encStr = opL := rfl
theorem opL_atom : opL.all atom = true := by rfl
theorem orc0_ok : OrcOk Tryz.prog orc0 := by
  intro f args s v s' h
  unfold orc0 at h
  cases hf : Nat.beq f 610
  · rw [hf] at h; cases h
  · rw [hf, cond_true] at h
    obtain rfl : f = 610 := by simpa using hf
    cases args with
    | cons a l => cases h
    | nil =>
      simp only [Option.some.injEq, Prod.mk.injEq] at h
      obtain ⟨rfl, rfl⟩ := h
      refine ⟨⟨Tryz.f610, Tryz.func610, rfl, by kernel_rfl⟩, fun μ w args' hsim ha => ?_⟩
      obtain rfl : args' = #[] := by
        obtain ⟨l⟩ := args'
        cases ha
        rfl
      refine callsIn_wide.2 ((operators_c w).mono fun e w' hq => ?_)
      obtain ⟨g, cap, rfl, hrow, hbel⟩ := hq
      rcases hrow.2 with ⟨h0, _⟩ | ⟨g', cap', cur, hv, hbase, hb, k1, k2, k3, k4⟩
      · cases h0
      cases hv
      rw [opL_eq] at k4
      refine ⟨μ.add s.nx ⟨g, 0, cap⟩, Stp.newAt hsim hbel hbase ?_, ?_⟩
      · refine ⟨cur, 0, 0, hb, by simpa using k3, (fun h => by cases h), ?_, fun i v hi => ?_, .inl rfl, fun _ _ _ => ⟨rfl, rfl⟩⟩
        · show 0 + opL.length ≤ cap
          have : opL.length = 16 := rfl
          omega
        · have hi' : (cur.toList.take (16 * 1))[i]? = some v := by rw [k4]; exact hi
          have h2 : cur[i]? = some v := by
            rw [List.getElem?_take] at hi'
            split at hi'
            · simpa using hi'
            · cases hi'
          exact ⟨v, by simpa using h2, .atom (List.all_eq_true.1 opL_atom v (List.mem_of_getElem? hi))⟩
      · exact VR.sliceU (Ren.add_self ..) k1 (fun _ => by simp) (by simp)
end Go.Proofs.YtopiclpameaglaaGreatDoor

set_option maxRecDepth 1000000
namespace Go.Proofs.YtopiclpameaglaaGreatDoor
open Go Go.Ev Go.RowKit
/-- What strings.asciiSpace holds. -/
def asciiL : List Value := [(.int .u8 0), (.int .u8 0), (.int .u8 0), (.int .u8 0), (.int .u8 0), (.int .u8 0), (.int .u8 0), (.int .u8 0), (.int .u8 0), (.int .u8 1), (.int .u8 1), (.int .u8 1), (.int .u8 1), (.int .u8 1), (.int .u8 0), (.int .u8 0), (.int .u8 0), (.int .u8 0), (.int .u8 0), (.int .u8 0), (.int .u8 0), (.int .u8 0), (.int .u8 0), (.int .u8 0), (.int .u8 0), (.int .u8 0), (.int .u8 0), (.int .u8 0), (.int .u8 0), (.int .u8 0), (.int .u8 0), (.int .u8 0), (.int .u8 1), (.int .u8 0), (.int .u8 0), (.int .u8 0), (.int .u8 0), (.int .u8 0), (.int .u8 0), (.int .u8 0), (.int .u8 0), (.int .u8 0), (.int .u8 0), (.int .u8 0), (.int .u8 0), (.int .u8 0), (.int .u8 0), (.int .u8 0), (.int .u8 0), (.int .u8 0), (.int .u8 0), (.int .u8 0), (.int .u8 0), (.int .u8 0), (.int .u8 0), (.int .u8 0), (.int .u8 0), (.int .u8 0), (.int .u8 0), (.int .u8 0), (.int .u8 0), (.int .u8 0), (.int .u8 0), (.int .u8 0), (.int .u8 0), (.int .u8 0), (.int .u8 0), (.int .u8 0), (.int .u8 0), (.int .u8 0), (.int .u8 0), (.int .u8 0), (.int .u8 0), (.int .u8 0), (.int .u8 0), (.int .u8 0), (.int .u8 0), (.int .u8 0), (.int .u8 0), (.int .u8 0), (.int .u8 0), (.int .u8 0), (.int .u8 0), (.int .u8 0), (.int .u8 0), (.int .u8 0), (.int .u8 0), (.int .u8 0), (.int .u8 0), (.int .u8 0), (.int .u8 0), (.int .u8 0), (.int .u8 0), (.int .u8 0), (.int .u8 0), (.int .u8 0), (.int .u8 0), (.int .u8 0), (.int .u8 0), (.int .u8 0), (.int .u8 0), (.int .u8 0), (.int .u8 0), (.int .u8 0), (.int .u8 0), (.int .u8 0), (.int .u8 0), (.int .u8 0), (.int .u8 0), (.int .u8 0), (.int .u8 0), (.int .u8 0), (.int .u8 0), (.int .u8 0), (.int .u8 0), (.int .u8 0), (.int .u8 0), (.int .u8 0), (.int .u8 0), (.int .u8 0), (.int .u8 0), (.int .u8 0), (.int .u8 0), (.int .u8 0), (.int .u8 0), (.int .u8 0), (.int .u8 0), (.int .u8 0), (.int .u8 0), (.int .u8 0), (.int .u8 0), (.int .u8 0), (.int .u8 0), (.int .u8 0), (.int .u8 0), (.int .u8 0), (.int .u8 0), (.int .u8 0), (.int .u8 0), (.int .u8 0), (.int .u8 0), (.int .u8 0), (.int .u8 0), (.int .u8 0), (.int .u8 0), (.int .u8 0), (.int .u8 0), (.int .u8 0), (.int .u8 0), (.int .u8 0), (.int .u8 0), (.int .u8 0), (.int .u8 0), (.int .u8 0), (.int .u8 0), (.int .u8 0), (.int .u8 0), (.int .u8 0), (.int .u8 0), (.int .u8 0), (.int .u8 0), (.int .u8 0), (.int .u8 0), (.int .u8 0), (.int .u8 0), (.int .u8 0), (.int .u8 0), (.int .u8 0), (.int .u8 0), (.int .u8 0), (.int .u8 0), (.int .u8 0), (.int .u8 0), (.int .u8 0), (.int .u8 0), (.int .u8 0), (.int .u8 0), (.int .u8 0), (.int .u8 0), (.int .u8 0), (.int .u8 0), (.int .u8 0), (.int .u8 0), (.int .u8 0), (.int .u8 0), (.int .u8 0), (.int .u8 0), (.int .u8 0), (.int .u8 0), (.int .u8 0), (.int .u8 0), (.int .u8 0), (.int .u8 0), (.int .u8 0), (.int .u8 0), (.int .u8 0), (.int .u8 0), (.int .u8 0), (.int .u8 0), (.int .u8 0), (.int .u8 0), (.int .u8 0), (.int .u8 0), (.int .u8 0), (.int .u8 0), (.int .u8 0), (.int .u8 0), (.int .u8 0), (.int .u8 0), (.int .u8 0), (.int .u8 0), (.int .u8 0), (.int .u8 0), (.int .u8 0), (.int .u8 0), (.int .u8 0), (.int .u8 0), (.int .u8 0), (.int .u8 0), (.int .u8 0), (.int .u8 0), (.int .u8 0), (.int .u8 0), (.int .u8 0), (.int .u8 0), (.int .u8 0), (.int .u8 0), (.int .u8 0), (.int .u8 0), (.int .u8 0), (.int .u8 0), (.int .u8 0), (.int .u8 0), (.int .u8 0), (.int .u8 0), (.int .u8 0), (.int .u8 0), (.int .u8 0), (.int .u8 0), (.int .u8 0), (.int .u8 0), (.int .u8 0), (.int .u8 0), (.int .u8 0), (.int .u8 0), (.int .u8 0), (.int .u8 0), (.int .u8 0), (.int .u8 0), (.int .u8 0), (.int .u8 0), (.int .u8 0), (.int .u8 0), (.int .u8 0), (.int .u8 0), (.int .u8 0)]
def eTop : OEnt := ⟨6, [], 1000, [(9, .cells asciiL 328 0 false false)], [], .bool true, [], 2613⟩
theorem ascii_len : asciiL.length = 256 := by rfl
theorem ascii_atom : asciiL.all atom = true := by rfl
def ren1 : Ev.Ren := fun i => if i < 1000 then some ⟨i, 0, 256⟩ else none
theorem top_get (i : Nat) (b : Blk) (h : eTop.before.hp.get i = some b) : i = 9 ∧ b = .cells asciiL 328 0 false false := by
  have h1 : (Tr.lf.set 9 (Blk.cells asciiL 328 0 false false)).get i = some b := h
  rw [Tr.get_set] at h1
  by_cases hi : i = 9
  · rw [if_pos hi] at h1; exact ⟨hi, (Option.some.inj h1).symm⟩
  · rw [if_neg hi] at h1; cases h1
theorem sim1 {w : World} (h : w.heap[9]? = some (.cells ⟨asciiL⟩ 328 (0, 0))) : Sim ren1 eTop.before w where
  live := fun i b hb => by
    obtain ⟨rfl, rfl⟩ := top_get i b hb
    refine ⟨⟨9, 0, 256⟩, rfl, ⟨asciiL⟩, 0, 0, h, ascii_len, fun _ => ⟨rfl, ascii_len.symm⟩, by rw [ascii_len]; exact Nat.le_refl _, fun j v hj => ⟨v, ?_, .atom (List.all_eq_true.1 ascii_atom v (List.mem_of_getElem? hj))⟩, .inl rfl, fun _ _ _ => ⟨rfl, rfl⟩⟩
    rw [Nat.zero_add]
    simpa using hj
  inj := fun i j b c li lj hi hj _ _ _ => by rw [(top_get i b hi).1, (top_get j c hj).1]
  nxt := fun i hi => by
    have h1 : 1000 ≤ i := hi
    unfold ren1
    rw [if_neg (by omega)]
  glob := fun g hg => ⟨⟨g, 0, 256⟩, by have h1 : g < 1000 := hg; unfold ren1; rw [if_pos h1], rfl, rfl⟩
  nxb := Nat.le_refl _
theorem known_of (hT : EntG Tryz.prog eTop) {w : World} (h : w.heap[9]? = some (.cells ⟨asciiL⟩ 328 (0, 0))) :
    Calls Tryz.prog 6 #[] w fun e w' => e = .returned (.bool true) ∧ Below w.heap.size w w' := by
  have h1 := hT.2 eTop.before rfl rfl (by rfl) ren1 w #[] (sim1 h) .nil
  refine (callsIn_wide.1 h1).mono fun e w' hq => ?_
  cases e with
  | panicked c => exact hq.elim
  | outgrown => exact hq.elim
  | returned v' =>
    obtain ⟨ν, hst, hv⟩ := hq
    obtain rfl := hv.of_atom rfl
    refine ⟨rfl, hst.os, hst.tape, hst.out, hst.size, fun k hk => ?_⟩
    by_cases hk1 : k = 9
    · subst hk1
      have hl : ν 9 = some ⟨9, 0, 256⟩ := hst.le 9 ⟨9, 0, 256⟩ rfl
      have hg : (eTop.behind eTop.before).hp.get 9 = some (.cells asciiL 328 0 false false) := by rfl
      obtain ⟨c, lo, hi, h2, h3, _, _, h4, _, h5⟩ := hst.sim.blk hg hl
      obtain ⟨rfl, rfl⟩ := h5 rfl rfl rfl
      have hc : c = ⟨asciiL⟩ := by
        apply Array.ext
        · rw [h3]; exact ascii_len.symm
        · intro i hi1 hi2
          have hi2' : i < asciiL.length := hi2
          obtain ⟨v', h6, h7⟩ := h4 i asciiL[i] (List.getElem?_eq_getElem hi2')
          have h8 := h7.of_atom (List.all_eq_true.1 ascii_atom _ (List.getElem_mem hi2'))
          rw [Nat.zero_add] at h6
          have h9 : c[i]? = some c[i] := Array.getElem?_eq_getElem hi1
          rw [h9, h8] at h6
          exact Option.some.inj h6
      rw [h, h2, hc]
    · refine hst.keep k hk fun i x l hx hl he => ?_
      obtain ⟨rfl, _⟩ := top_get i x hx
      have : l = ⟨9, 0, 256⟩ := (Option.some.inj (show ren1 9 = some l from hl)).symm
      subst this
      exact hk1 he.symm
end Go.Proofs.YtopiclpameaglaaGreatDoor
