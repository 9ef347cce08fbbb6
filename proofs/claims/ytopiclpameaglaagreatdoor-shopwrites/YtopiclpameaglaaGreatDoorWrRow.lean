/-
ShopWrites holds, as a tied card: the book of orders, that it is read as the orders, and the sums, the program and the reference answer alike for all lists of texts and all numbers: the bare row; the condition: the listed package-level variables hold what their initialisers lay.
-/
import Derived.Test.YtopiclpameaglaaGreatDoorWalkW
import Derived.Test.YtopiclpameaglaaGreatDoorWrFacts2
import Derived.Test.YtopiclpameaglaaGreatDoorRows
import Derived.Lib.LaidTab
import Derived.SizedLaws
import Derived.ChangeMaps5
import Derived.SliceStrings
import Derived.OpenShut
import Derived.LaidMore
import Derived.Lay
import Derived.Carry
import Derived.LaidHandle
import Derived.LaidLaws
import Derived.Stop.Joined
import Derived.JoinedOf
import Derived.RowKit
import Derived.RowKitTokens
import Derived.ChangeSame
import Derived.ChangeVars
set_option linter.unusedSimpArgs false
set_option linter.unusedVariables false
set_option maxRecDepth 1000000
namespace Go.Proofs.YtopiclpameaglaaGreatDoor
open Go Go.RowKit Go.ChangeShapes Go.WideShapes
theorem laidVars_at {P : Program} {w : World} : ∀ {l : List (String × DataW Unit)} {ps : List MemPlace}, DataW.LaidVars P w l ps → ∀ {n : String} {d : DataW Unit}, (n, d) ∈ l →
    ∃ g t cs fuel p, P.globalNamed n = some g ∧ (P.globals[g]?).map (·.type) = some t ∧ w.var? P n = some cs ∧ DataW.trod (fun _ => ()) P w 0 (fun _ => true) false fuel t cs.toList = some (d, p) ∧ (∀ x ∈ MemPlace.row ⟨g, 0, none⟩ cs.size, x ∈ ps)
  | [], _, _, _, _, hm => by cases hm
  | (n0, d0) :: r, ps, h, n, d, hm => by
    obtain ⟨g, t, cs, fuel, p, q, h1, h2, h3, h4, h5, rfl⟩ := h
    rcases List.mem_cons.1 hm with he | hm
    · cases he
      exact ⟨g, t, cs, fuel, p, h1, h2, h3, h4, fun x hx => by simp [hx]⟩
    · obtain ⟨g', t', cs', f', p', k1, k2, k3, k4, k5⟩ := laidVars_at h5 hm
      exact ⟨g', t', cs', f', p', k1, k2, k3, k4, fun x hx => by have := k5 x hx; simp [this]⟩
theorem gSpace : Tryz.prog.globalNamed "strings.asciiSpace" = some 9 := by kernel_rfl
theorem tSpace : (Tryz.prog.globals[9]?).map (·.type) = some 328 := by kernel_rfl
theorem cells328 : Tryz.prog.cellsOf 328 = 256 := by kernel_rfl
theorem cells5 : Tryz.prog.cellsOf 5 = 1 := by kernel_rfl
/-- The byte that a datum is. -/
def u8Of : Value → DataW Unit
  | .int .u8 k => .lit (.int .u8 k)
  | _ => .nil
theorem space_data : Rows.laid_strings_asciiSpace (H := Unit) = .agg (asciiL.map u8Of) := by kernel_rfl
theorem ascii_u8 : (asciiL.all fun v => match v with | .int .u8 _ => true | _ => false) = true := by rfl
theorem space_cells {cs : Array Value} {w : World} {fuel : Nat} {p : List MemPlace} (h : DataW.trod (fun _ => ()) Tryz.prog w 0 (fun _ => true) false fuel 328 cs.toList = some (Rows.laid_strings_asciiSpace (H := Unit), p)) : cs = ⟨asciiL⟩ := by
  obtain ⟨xs, m, _, hx, hlen, hn, hel⟩ := DataW.trod_array Tryz.underlying328 h
  rw [space_data] at hx
  simp only [Prod.mk.injEq, DataW.agg.injEq] at hx
  rw [cells328] at hlen
  rw [cells5] at hel
  apply Array.toList_inj.1
  show cs.toList = asciiL
  refine List.ext_getElem (hlen.trans ascii_len.symm) fun i h1 h2 => ?_
  have hi : i < 256 := by rw [← hlen]; exact h1
  have he := hel i hi
  rw [Nat.mul_one, List.drop_eq_getElem_cons h1] at he
  have hxi : i < xs.length := by rw [hn]; exact hi
  rw [List.getElem?_eq_getElem hxi] at he
  obtain ⟨k, e1, e2, _⟩ := DataW.trod_int Tryz.underlying5 he
  have e3 : cs.toList[i] = .int .u8 k := by
    have : cs.toList[i] :: List.take 0 (cs.toList.drop (i + 1)) = [.int .u8 k] := e1
    simpa using this
  have e4 : (asciiL.map u8Of)[i]'(by rw [List.length_map]; exact h2) = (xs.map (·.1))[i]'(by rw [List.length_map]; exact hxi) := by
    simp only [hx.1]
  rw [List.getElem_map, List.getElem_map, e2] at e4
  have e5 := List.all_eq_true.1 ascii_u8 _ (List.getElem_mem h2)
  rw [e3]
  revert e4 e5
  generalize asciiL[i] = v
  intro e4 e5
  split at e5
  · next k' =>
    simp only [u8Of, DataW.lit.injEq, Lit.int.injEq, true_and] at e4
    rw [e4]
  · cases e5
theorem space_shape : (((begin Tryz.prog (fun _ _ => 0) default).world.heap[9]?).bind Obj.row?) = some (⟨List.replicate 256 (.int .u8 0)⟩, 328) := by kernel_rfl
theorem space_typed {W : World} (h : W.ShapedOpen Tryz.prog) : ∃ cs, W.heap[9]? = some (.cells cs 328) := by
  obtain ⟨cs, h1, _⟩ := h.1 9 _ 328 (by rw [show Tryz.prog.globals.size = 13 from by kernel_rfl]; omega) space_shape
  exact ⟨cs, h1⟩
theorem plain_of {W : World} (h : laidMetH Tryz.prog Rows.shopWritesRow.laid W) : laidMet Tryz.prog (Rows.shopWritesRow.laid.filter fun x => x.2.handleName?.isNone) W := by
  unfold laidMetH at h
  split at h
  · next hf =>
    have : (Rows.shopWritesRow.laid.filter fun x => x.2.handleName?.isNone) = Rows.shopWritesRow.laid := by
      rw [List.filter_eq_self]
      intro x hx
      have h2 : x ∉ Rows.shopWritesRow.laid.filter fun x => x.2.handleName?.isSome := by rw [hf]; simp
      rw [List.mem_filter] at h2
      simp only [hx, true_and] at h2
      cases hh : x.2.handleName? <;> simp [hh] at h2 ⊢
    rw [this]; exact h
  · exact h.1
theorem space_of {W : World} (hs : W.ShapedOpen Tryz.prog) (h : laidMetH Tryz.prog Rows.shopWritesRow.laid W) : W.heap[9]? = some (.cells ⟨asciiL⟩ 328 (0, 0)) := by
  have h' := plain_of h
  obtain ⟨ps, hl, _⟩ := h'
  have hm : ("strings.asciiSpace", Rows.laid_strings_asciiSpace (H := Unit)) ∈ Rows.shopWritesRow.laid.filter fun x => x.2.handleName?.isNone := by
    rw [List.mem_filter]
    exact ⟨by simp [Rows.shopWritesRow], rfl⟩
  obtain ⟨g, t, cs, fuel, p, h1, h2, h3, h4, _⟩ := laidVars_at hl hm
  obtain rfl := Option.some.inj (gSpace.symm.trans h1)
  obtain rfl := Option.some.inj (tSpace.symm.trans h2)
  have hcs := space_cells h4
  subst hcs
  obtain ⟨c, hb⟩ := space_typed hs
  unfold World.var? at h3
  rw [gSpace] at h3
  simp only [Option.bind_some, hb, Option.some.injEq] at h3
  rw [hb, h3]

theorem tPow : (Tryz.prog.globals[1]?).map (·.type) = some 188 := by kernel_rfl
theorem cells188 : Tryz.prog.cellsOf 188 = 20 := by kernel_rfl
theorem cells104 : Tryz.prog.cellsOf 104 = 1 := by kernel_rfl
theorem pow_data : Rows.laid_internal_strconv_uint64pow10 (H := Unit) = Lib.tabData .u64 Lib.pow10Tab := by kernel_rfl
theorem tab_of {W : World} (h : laidMetH Tryz.prog Rows.shopWritesRow.laid W) : Lib.TabIs Tryz.prog W "internal/strconv.uint64pow10" .u64 Lib.pow10Tab := by
  obtain ⟨ps, hl, _⟩ := plain_of h
  have hm : ("internal/strconv.uint64pow10", Rows.laid_internal_strconv_uint64pow10 (H := Unit)) ∈ Rows.shopWritesRow.laid.filter fun x => x.2.handleName?.isNone := by
    rw [List.mem_filter]
    exact ⟨by simp [Rows.shopWritesRow], rfl⟩
  obtain ⟨g, t, cs, fuel, p, h1, h2, h3, h4, _⟩ := laidVars_at hl hm
  obtain rfl := Option.some.inj (gTab.symm.trans h1)
  obtain rfl := Option.some.inj (tPow.symm.trans h2)
  rw [pow_data] at h4
  have hcs := Lib.cells_of_tab Tryz.underlying188 Tryz.underlying104 cells104 cells188 h4
  unfold Lib.TabIs
  rw [h3]
  congr 1
  apply Array.toList_inj.1
  rw [hcs]
theorem kw_of {W : World} (hs : W.ShapedOpen Tryz.prog) (h : laidMetH Tryz.prog Rows.shopWritesRow.laid W) : KW W where
  ml := Tryz.laysCut.s1_3 W hs
  tab := tab_of h
  lt := by
    have h1 := space_of hs h
    have := (Array.getElem?_eq_some_iff.1 h1).1
    omega
theorem cells9 : Tryz.prog.cellsOf 9 = 1 := by kernel_rfl
theorem bytes9 : Tryz.prog.bytesOf 9 = 16 := by kernel_rfl
theorem addr_add {a : Addr} (h : a.spot = none) (k : Nat) : a.add k = ⟨a.block, a.off + k, none⟩ := by
  unfold Addr.add
  split
  · next hk => subst hk; cases a; simp only at h; subst h; rfl
  · rfl
theorem strs_of {H : Type} {enc : TypeId × Value → H} {W : World} {base b0 : Nat} {sp : Nat → Bool} {held : Bool} {v : Value} {d : DataW H} {p : List MemPlace}
    {d2 : DataW H} (hsd : (DataW.weightsEach Tryz.prog [23, 3] [d, d2]).all (· ≤ reachBytes) = true) (hv : Value.okWide Tryz.prog W .any b0 23 v) (h : DataW.Trod enc Tryz.prog W base sp held 23 v d p) : ∃ xs, Strs W v xs ∧ ∀ k, k < xs.length → (xs.getD k ByteArray.empty).size ≤ 9223372036854775807 := by
  obtain ⟨ad, n, c, rfl⟩ := okWide_slice Tryz.underlying23 hv
  obtain ⟨fuel, h2⟩ := h
  rcases open_strings Tryz.underlying23 Tryz.underlying9 cells9 h2 with ⟨e2, _⟩ | ⟨a, len, cap, ss, e2, _, hlc, hm, hss, hx, hc, hsz⟩
  · have e3 : Value.slice ad n c = .slice none 0 0 := by simpa [Value.cells] using e2
    rw [e3]
    exact ⟨[], ⟨by simp, none, 0, rfl, .inl rfl⟩, fun k hk => absurd hk (by simp)⟩
  · have e3 : Value.slice ad n c = .slice (some a) len cap := by simpa [Value.cells] using e2
    rw [e3]
    unfold maxLen at hm
    have hle : len ≤ ss.length := by rw [hss]; split <;> omega
    have h62 : len ≤ 4611686018427387903 := by
      have hd := (Prod.mk.inj hx).1
      subst hd
      have hw := sized_slice hsd (j := 0) (t := 23) (e := 9) rfl rfl Tryz.underlying23
      rw [bytes9] at hw
      unfold reachBytes at hw
      have hl2 : (strs (H := H) (ss.take len)).length = len := by
        unfold strs
        rw [List.length_map, List.length_take]
        omega
      rw [hl2] at hw
      omega
    have hcell : ∀ j, j < len → a.spot = none ∧ W.cell? ⟨a.block, a.off + j, none⟩ = some (.string (ss.getD j ByteArray.empty)) := by
      intro j hj
      have hs : a.spot = none := by
        have := hc 0 (by omega)
        unfold Addr.add at this
        rw [if_pos rfl] at this
        unfold World.cell? at this
        split at this
        · split at this
          · cases this
          · next hn => simpa using hn
        · cases this
      have h5 := hc j (by omega)
      rw [addr_add hs] at h5
      exact ⟨hs, h5⟩
    have hlen : (ss.take len).length = len := by rw [List.length_take]; omega
    refine ⟨ss.take len, ⟨by rw [hlen]; omega, some a, cap, by rw [hlen], ?_⟩, fun k hk => ?_⟩
    · by_cases h0 : len = 0
      · exact .inl (by rw [hlen]; exact h0)
      · refine .inr ⟨a.block, a.off, ?_, fun j hj => ?_⟩
        · have := (hcell 0 (by omega)).1
          cases a; simp only at this; subst this; rfl
        · rw [hlen] at hj
          rw [(hcell j hj).2]
          congr 2
          rw [List.getD_eq_getElem?_getD, List.getD_eq_getElem?_getD, List.getElem?_take, if_pos hj]
    · have hk' : k < len := by rw [hlen] at hk; exact hk
      have h6 : (ss.take len).getD k ByteArray.empty = ss.getD k ByteArray.empty := by
        rw [List.getD_eq_getElem?_getD, List.getD_eq_getElem?_getD, List.getElem?_take, if_pos hk']
      rw [h6, List.getD_eq_getElem?_getD, List.getElem?_eq_getElem (by omega)]
      exact hsz _ (List.getElem_mem _)
theorem law_of {H : Type} {enc : TypeId × Value → H} {W : World} {base b0 : Nat} {sp : Nat → Bool} {held : Bool} {v1 v2 : Value} {d1 d2 : DataW H} {p1 p2 : List MemPlace}
    (hv1 : Value.okWide Tryz.prog W .any b0 23 v1) (h1 : DataW.Trod enc Tryz.prog W base sp held 23 v1 d1 p1) (hv2 : Value.okWide Tryz.prog W .any b0 3 v2) (h2 : DataW.Trod enc Tryz.prog W base sp held 3 v2 d2 p2)
    (hsz : (DataW.weightsEach Tryz.prog [23, 3] [d1, d2]).all (· ≤ reachBytes) = true) (hw : KW W) (hk : KnownAt W) : Calls Tryz.prog 5 #[v1, v2] W (PostB true W) := by
  obtain ⟨xs, hS, hz⟩ := strs_of hsz hv1 h1
  obtain ⟨n, rfl, _, _, _⟩ := open_int Tryz.underlying3 hv2 h2
  exact law5_c hw hk hS hz
section
variable {H : Type} {enc : TypeId × Value → H}
/-- The wrap that hands the contract the listed variables and the world's shape. -/
theorem handed_shaped {a : Assume} {C : Checked} {os : Os} {f : FuncId} {fn : Func} {s : ChangeSpec} {conds : List PathCond} {apart fresh handsOn again : Bool} {X : World → Array Value → Prop}
    (hX : ∀ (w w' : World) (args : Array Value), w.heap = w'.heap → X w args → X w' args)
    (own : ownKnob C.prog.godebug = none) (started : os.Started) (noInit : C.prog.inits.idxOf? f = none) (hfn : C.prog.funcs[f]? = some fn)
    (witness : ∃ (w : World) (tape : Tape) (i : Input), w.os = os ∧ (w.forCall tape i).Shaped C.prog ∧ i.vars = [] ∧ Input.okWide C.prog (w.forCall tape i) .any w.heap.size f i ∧
      ((s.pre enc C.prog fn conds apart (w.forCall tape i).memory i.args ∧ X (w.forCall tape i).memory i.args) ∧ sizedMet enc C.prog fn (OpenSpec.ofChange s) apart (w.forCall tape i).memory i.args) ∧ a.holds C.prog (lone (Frame.enter C.prog f i.args .normal) [] (w.forCall tape i)))
    (contract : ∀ (W : World) (base : Nat) (args : Array Value) (ds gs : List (DataW H)) (before : List MemPlace),
      (∀ (j : Nat) t v, fn.params[j]? = some t → args[j]? = some v → Value.okWide C.prog W .any base t v) →
      DataW.Whole enc C.prog fn.params.toList s.vars apart W args.toList ds gs before → (DataW.weightsEach C.prog (fn.params.toList ++ s.plain.varTypes C.prog) (ds ++ gs)).all (· ≤ reachBytes) = true → W.ShapedOpen C.prog → X W args →
      Calls C.prog f args W fun e W' => ∃ v, e = .returned v ∧ s.post enc C.prog fn apart fresh handsOn again W args v W') :
    ReturnsInHanded a C os f .any (fun w args => (s.pre enc C.prog fn conds apart w args ∧ X w args) ∧ sizedMet enc C.prog fn (OpenSpec.ofChange s) apart w args) (s.post enc C.prog fn apart fresh handsOn again) := by
  refine returnsInHanded_of_calls own started noInit witness ?_
  intro w tape i _ hsh _ hok hpre _
  obtain ⟨_, _, _, fn', hfn', _, _, _, _, hval⟩ := hok
  have e : fn' = fn := Option.some.inj (hfn'.symm.trans hfn)
  subst e
  obtain ⟨⟨⟨ds, gs, before, hw, _⟩, hx⟩, hz⟩ := hpre
  have hw' := DataW.Whole.of_heap (w' := w.forCall tape i) (by rfl) hw
  refine (contract (w.forCall tape i) w.heap.size i.args ds gs before hval hw' (hz.weights hw) hsh (hX _ _ _ (by rfl) hx)).mono fun e W' ⟨v, he, hp⟩ => ?_
  subst he
  exact ChangeSpec.post_blind hp
end

theorem own : ownKnob Tryz.prog.godebug = none := by kernel_rfl
def setC (cs : Array Value) : Obj → Obj
  | .cells _ t frozen => .cells cs t frozen
  | o => o
/-- The settled world, the handle of the type 'error' and the two sentinels in their variables. -/
noncomputable def hWorld (os : Os) : World :=
  let w0 := World.holding Tryz.prog os ⟨#[], #[], []⟩
  { w0 with heap := (((w0.heap.modify 4 (setC #[.iface 645 (.agg #[.pointer (some ⟨13, 65, none⟩)])])).modify 5 (setC #[.iface 774 (.pointer (some ⟨18, 0, none⟩))])).modify 6 (setC #[.iface 774 (.pointer (some ⟨19, 0, none⟩))])) ++
      #[.cells #[.string ⟨⟨[105, 110, 118, 97, 108, 105, 100, 32, 115, 121, 110, 116, 97, 120]⟩⟩] 776, .cells #[.string ⟨⟨[118, 97, 108, 117, 101, 32, 111, 117, 116, 32, 111, 102, 32, 114, 97, 110, 103, 101]⟩⟩] 776] }
/-- What is laid besides: plain data. -/
def plainLaid : List (String × DataW Unit) := Rows.shopWritesRow.laid.filter fun x => x.2.handleName?.isNone
/-- Those that are laid by the function. -/
def great : List String := (plainLaid.map (·.1)).filter fun n => !(["strconv.ErrRange", "strconv.ErrSyntax"] : List String).contains n
def greatLaid : List (String × DataW Unit) := plainLaid.filter fun x => great.contains x.1
def smallLaid : List (String × DataW Unit) := plainLaid.filter fun x => !great.contains x.1
noncomputable def startW (os : Os) : World := (hWorld os).layVars Tryz.prog greatLaid
theorem startW_os (os : Os) : (startW os).os = os := World.layVars_os _ _ _
theorem start_fits (os : Os) : (hWorld os).layFits Tryz.prog greatLaid [5, 6, 18, 19] = true := by kernel_rfl
theorem start_ifaces (os : Os) : (hWorld os).layIfaces Tryz.prog greatLaid (startW os) = true := by kernel_rfl
theorem start_small (os : Os) : LaidIn Tryz.prog (startW os) smallLaid [5, 6, 18, 19] := LaidIn.of_run [5, 6, 18, 19] 8 (by kernel_rfl) (by kernel_rfl) (by kernel_rfl) (by kernel_rfl)
theorem start_plain (os : Os) : laidMet Tryz.prog plainLaid (startW os) :=
  laidMet_layVars (w0 := hWorld os) great [5, 6, 18, 19] rfl (start_fits os) (start_ifaces os) (start_small os)
theorem start_handle (os : Os) : ((Rows.shopWritesRow.laid.filter fun x => x.2.handleName?.isSome && x.2.funcsIn?.isNone).all (handleAtB Tryz.prog (startW os))) = true := by kernel_rfl
theorem start_met (os : Os) (args : Array Value) : laidMetH Tryz.prog Rows.shopWritesRow.laid ((startW os).forCall (fun _ _ => 0) ⟨#[], args, []⟩).memory := by
  have h : laidMetH Tryz.prog Rows.shopWritesRow.laid (startW os) := laidMetH_of_parts3 (fuel := 8) (start_plain os) (start_handle os) (by kernel_rfl)
  exact h.of_heap (by simp [World.memory, World.forCall, Input.heap])
theorem start_zip (os : Os) (args : Array Value) : ((startW os).forCall (fun _ _ => 0) ⟨#[], args, []⟩).variablesZipB Tryz.prog = true := by kernel_rfl
theorem known_at (hk : ∀ {w : World}, w.heap[9]? = some (.cells ⟨asciiL⟩ 328 (0, 0)) → Calls Tryz.prog 6 #[] w fun e w' => e = .returned (.bool true) ∧ Below w.heap.size w w') {W : World} (hs : W.ShapedOpen Tryz.prog) (h : laidMetH Tryz.prog Rows.shopWritesRow.laid W) : KnownAt W := by
  intro W' hb
  have h1 := space_of hs h
  have hlt : 9 < W.heap.size := (Array.getElem?_eq_some_iff.1 h1).1
  exact hk (by rw [hb.block 9 hlt]; exact h1)
theorem rec3 : Tryz.prog.readableRec 3 = true := by kernel_rfl
theorem lt3 : 3 < Tryz.prog.types.size := by
  rw [types_size]
  omega
theorem rec23 : Tryz.prog.readableRec 23 = true := by kernel_rfl
theorem lt23 : 23 < Tryz.prog.types.size := by
  rw [types_size]
  omega
theorem start_shaped (os : Os) (args : Array Value) : ((startW os).forCall (fun _ _ => 0) ⟨#[], args, []⟩).Shaped Tryz.prog := World.shaped_of_ZipB (start_zip os args) (by kernel_rfl)
set_option maxRecDepth 100000 in
theorem lifted (hk : ∀ {w : World}, w.heap[9]? = some (.cells ⟨asciiL⟩ 328 (0, 0)) → Calls Tryz.prog 6 #[] w fun e w' => e = .returned (.bool true) ∧ Below w.heap.size w w') (os : Os) (started : os.Started) (H : Type) (enc : TypeId × Value → H) :
    ReturnsInHanded {} Tryz.checked os 5 .any (fun w args => (Rows.shopWritesSpec.pre enc Tryz.prog Tryz.f5 [] false w args ∧ laidMetH Tryz.prog Rows.shopWritesRow.laid w) ∧ sizedMet enc Tryz.prog Tryz.f5 (OpenSpec.ofChange Rows.shopWritesSpec) false w args)
      (Rows.shopWritesSpec.post enc Tryz.prog Tryz.f5 false true false false) := by
  refine handed_shaped (C := Tryz.checked) (X := fun w _ => laidMetH Tryz.prog Rows.shopWritesRow.laid w) (fun _ _ _ hh h => h.of_heap hh) own started (by kernel_rfl) Tryz.func5
    (ChangeSpec.witness_shaped (enc := enc) (C := Tryz.checked) (os := os) (X := fun w _ => laidMetH Tryz.prog Rows.shopWritesRow.laid w) false (startW os) #[.slice none 0 0, .int .i64 0] 8 (startW_os os) (start_shaped os _) (by kernel_rfl) (by kernel_rfl) (by kernel_rfl) (start_met os _)) ?_
  intro W base args ds gs before hval0 hW hsz0 hS hL
  have hval : ∀ (j : Nat) t v, Tryz.f5.params[j]? = some t → args[j]? = some v → Value.okWide Tryz.prog W .any base t v := hval0
  have hW' := hW
  obtain ⟨p, q, hA0, hV, rfl, _, _⟩ := hW
  have hA : DataW.TrodAll enc Tryz.prog W 0 (fun _ => true) true Tryz.f5.params.toList args.toList ds p := hA0
  rw [Tryz.params5] at hA hval
  obtain ⟨v1, v2, d1, d2, p1, p2, rfl, rfl, rfl, h1, h2⟩ := trodAll_two hA
  obtain ⟨rfl, rfl⟩ := trodVars_none hV
  have hv1 := hval 0 23 v1 rfl rfl
  have hv2 := hval 1 3 v2 rfl rfl
  have hsz : (DataW.weightsEach Tryz.prog [23, 3] [d1, d2]).all (· ≤ reachBytes) = true := by
    have h5 : (DataW.weightsEach Tryz.prog (Tryz.f5.params.toList ++ Rows.shopWritesSpec.plain.varTypes Tryz.prog) ([d1, d2] ++ [])).all (· ≤ reachBytes) = true := hsz0
    rw [Tryz.params5] at h5
    exact h5
  refine (law_of hv1 h1 hv2 h2 hsz (kw_of hS hL) (known_at hk hS hL)).mono fun e W' ⟨he, hb⟩ => ?_
  subst he
  have l1 : ∀ x ∈ p1, x.block < W.heap.size := fun x hx => hW'.lt x (by simp [hx])
  have l2 : ∀ x ∈ p2, x.block < W.heap.size := fun x hx => hW'.lt x (by simp [hx])
  simp only [List.append_nil] at hW'
  refine ⟨_, rfl, _, _, _, [], p1 ++ p2, [], hW', trodAll_mk1 (shut_bool Tryz.underlying4 _), ?_, rfl, hb.frame _, fun h => by cases h⟩
  have hp : Tryz.f5.params.toList = [23, 3] := by rw [Tryz.params5]
  rw [hp]
  exact trodAll_mk2 (Below.trod laidOut rec23 lt23 h1 hb l1) (Below.trod laidOut rec3 lt3 h2 hb l2)
theorem row_holds (hk : ∀ {w : World}, w.heap[9]? = some (.cells ⟨asciiL⟩ 328 (0, 0)) → Calls Tryz.prog 6 #[] w fun e w' => e = .returned (.bool true) ∧ Below w.heap.size w w') : Rows.ShopWritesSaid :=
  OpenClaim.holds_of_wide 5 Tryz.f5 rfl rfl rfl rfl rfl rfl rfl ⟨rfl, rfl, rfl, rfl, rfl⟩ rfl rfl rfl rfl rfl fact_func Tryz.func5 facts
    (of_decide_eq_true (by kernel_rfl)) (by unfold Func.isWrapper; first | (rw [if_pos (by decide +kernel)]; kernel_rfl) | (rw [if_neg (by decide +kernel)]; exact ⟨rfl, rfl⟩))
    (fun os started H enc _ => lifted hk os started H enc)
end Go.Proofs.YtopiclpameaglaaGreatDoor
