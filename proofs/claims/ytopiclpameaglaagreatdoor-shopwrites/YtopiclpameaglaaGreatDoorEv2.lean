/-
An evaluator of code over abstract memory, sound against the model: part 2. No condition.
-/
import Derived.RangeFuncLeaves
import Derived.TacticsIn
import Derived.OrdersIn
import Derived.Test.YtopiclpameaglaaGreatDoorEv1
set_option linter.unusedSimpArgs false
set_option linter.unusedVariables false
namespace Go.Ev
variable {P : Program}

/-- What a kind of function without a body stands for. -/
def XDen : XK → (Array Value → Sem Value) → Prop
  | .plain e', e => e = e'
  | .noEscape, e => e = Extern.AbiNoEscape.same
  | .makeNoZero ps rs, e => e = Extern.BytealgMakeNoZero.makeNoZero ps rs
  | .race m, e => e = Extern.Race.marked m
  | .cas, e => e = Extern.Atomic.casT (.int .i32)
  | .add, e => e = Extern.Atomic.update (Op.intArith .add) .i32 true
  | .clone, e => e = Extern.MapsClone.clone

theorem digits_size : ∀ (n t : Nat) (acc : Array Value), (Extern.BytealgMakeNoZero.digits n t acc).size = acc.size + n
  | 0, _, _ => rfl
  | n + 1, t, acc => by simp only [Extern.BytealgMakeNoZero.digits]; rw [digits_size n]; simp; omega

theorem int_inv {μ : Ren} {k : IntKind} {n : Int} {v' : Value} (h : VR μ (.int k n) v') : v' = .int k n := h.of_atom rfl
theorem VRs.three {μ : Ren} {a b c : Value} {l : List Value} (h : VRs μ [a, b, c] l) : ∃ a' b' c', l = [a', b', c'] ∧ VR μ a a' ∧ VR μ b b' ∧ VR μ c c' := by
  cases h with
  | cons h1 t => obtain ⟨b', c', rfl, h2, h3⟩ := t.two; exact ⟨_, _, _, rfl, h1, h2, h3⟩

/-- one cell, as an atomic operation sees it -/
theorem cell_at {μ : Ren} {s : St} {w : World} (h : Sim μ s w) {b o : Nat} {l : Loc} (hl : μ b = some l) {vs : List Value} (hv : cellsOf s b = some vs) {k : IntKind} {n : Int} (hn : nth o vs = some (.int k n)) :
    w.cell? ⟨l.blk, l.sh + o, none⟩ = some (.int k n) ∧ ∃ sh, w.shape? l.blk = some sh := by
  obtain ⟨e, fz, gr, mk, hb⟩ := cellsOf_eq hv
  obtain ⟨c, lo, hi, h1, h2, h3, h4, h5, h6⟩ := h.blk hb hl
  rw [nth_eq] at hn
  obtain ⟨v', h7, h8⟩ := h5 o _ hn
  obtain rfl := int_inv h8
  exact ⟨by rw [cell_of h1]; exact h7, _, shape_of h1⟩

theorem atomic_load {w : World} {a : Addr} {k : IntKind} {n : Int} (h : w.cell? a = some (.int k n)) : (load a .atomic).run P w = .ok (.int k n) w := by
  simp [load, Sem.run, h]
theorem atomic_store {μ : Ren} {s s' : St} {w : World} (h : Sim μ s w) {b o : Nat} {l : Loc} {k : IntKind} {n : Int} {c : Value} (hl : μ b = some l) (hc : w.cell? ⟨l.blk, l.sh + o, none⟩ = some c) (hs : storeN s ⟨b, o, none⟩ [.int k n] = some s') :
    w.frozen? ⟨l.blk, l.sh + o, none⟩ = false ∧ ∃ v, (store ⟨l.blk, l.sh + o, none⟩ (.int k n) .atomic).run P w = .ok () v ∧ Stp μ s w μ s' v := by
  obtain ⟨v, h1, h2⟩ := store_cells (P := P) h hl hs (.cons (.atom rfl) .nil)
  rw [Ev.storeCells_cons, add_none] at h1
  simp only [Nat.add_zero, Go.storeCells, Sem.run_bind, store, Sem.run, hc] at h1
  cases hf : w.frozen? ⟨l.blk, l.sh + o, none⟩
  · simp only [hf, Bool.false_eq_true, if_false, Result.andThen, pure, Sem.run, Result.ok.injEq, true_and] at h1
    subst h1
    exact ⟨rfl, _, by simp [store, Sem.run, hc, hf], h2⟩
  · simp [hf, Result.andThen] at h1

theorem VRs.of_closeds {μ : Ren} : ∀ {l l' : List Value}, l.all closed = true → VRs μ l l' → l' = l
  | _, _, _, .nil => rfl
  | _, _, h, .cons hv t => by
    simp only [List.all_cons, Bool.and_eq_true] at h
    rw [VR.of_closed h.1 hv, VRs.of_closeds h.2 t]

theorem extern_sound {μ : Ren} {s s' : St} {w : World} (h : Sim μ s w) {k : XK} {e : Array Value → Sem Value} (hd : XDen k e) {args : List Value} {args' : Array Value} {v : Value}
    (ha : VRs μ args args'.toList) (hv : extern P k s args = some (v, s')) : ∃ ν w' r, (e args').run P w = .ok r w' ∧ Stp μ s w ν s' w' ∧ VR ν v r := by
  obtain ⟨args'⟩ := args'
  change VRs μ args args' at ha
  unfold extern at hv
  split at hv
  · next e' =>
    obtain rfl : e = e' := hd
    cases hc : args.all closed
    · simp [hc] at hv
    simp only [hc, cond_true] at hv
    obtain rfl := VRs.of_closeds hc ha
    split at hv
    · next r hr =>
      cases hcr : closed r
      · simp [hcr] at hv
      simp only [hcr, cond_true, Option.some.injEq, Prod.mk.injEq] at hv
      obtain ⟨rfl, rfl⟩ := hv
      exact ⟨μ, w, r, pureRun_sound _ _ hr w, Stp.refl h, VR.closed μ hcr⟩
    · cases hv
  · next x =>
    obtain rfl : e = _ := hd
    obtain ⟨x', rfl, hx⟩ := ha.one
    simp only [Option.some.injEq, Prod.mk.injEq] at hv
    obtain ⟨rfl, rfl⟩ := hv
    exact ⟨μ, w, x', rfl, Stp.refl h, hx⟩
  · next ps rs n =>
    obtain rfl : e = _ := hd
    obtain ⟨x', rfl, hx⟩ := ha.one
    obtain rfl := int_inv hx
    split at hv
    · next t ts hrs =>
      split at hv
      · next el ht =>
        simp only [ble_dec] at hv
        by_cases hn : n ≤ 65536
        · simp only [hn, decide_true, cond_true] at hv
          split at hv
          · simp only [Option.some.injEq, Prod.mk.injEq] at hv
            obtain ⟨rfl, rfl⟩ := hv
            let q : Question := .appendCap n 0 el
            let cap := q.cut (w.tape w.drawn q)
            have hcap : n ≤ cap := cap_ge _ _ _ _
            obtain ⟨rs⟩ := rs
            change rs = _ at hrs
            subst hrs
            let q2 : Question := .extern "internal/bytealg.MakeNoZero.bytes" 0
            let bytes := q2.cut (w.tape (w.drawn + 1) q2)
            let c := Extern.BytealgMakeNoZero.digits cap bytes #[]
            have hcs : c.size = cap := by simp [c, digits_size]
            have hb : BlkR (μ.add s.nx ⟨w.heap.size, 0, cap⟩) ⟨w.heap.size, 0, cap⟩ (some (.cells c el (0, 0))) (.cells [] el 0 true false) :=
              ⟨c, 0, 0, rfl, hcs, (fun h => by cases h), by show 0 + 0 ≤ cap; omega, (fun i v hv => by simp at hv), ⟨.inl rfl, fun _ _ _ => ⟨rfl, rfl⟩⟩⟩
            refine ⟨_, { w with heap := w.heap.push (.cells c el), drawn := w.drawn + 2 }, .slice (some ⟨w.heap.size, 0, none⟩) n cap, ?_, Stp.drawNew h cap (w.drawn + 2) rfl hb, ?_⟩
            · change Sem.run P (underlying t >>= _) w = _
              have h1 : ¬ ((Int.ofNat n < 0 || Int.ofNat n > 2 ^ 48) = true) := by
                simp only [Bool.or_eq_true, decide_eq_true_eq, not_or]
                exact ⟨by show ¬ ((n : Int) < 0); omega, by show ¬ ((n : Int) > 2 ^ 48); omega⟩
              simp only [Sem.run_bind, run_und ht, Result.andThen, if_neg h1, pure, Sem.run]
              rw [show (Int.ofNat n).toNat = n from rfl]
              simp only [run_choose (q := .appendCap n 0 el) rfl, run_choose (q := .extern "internal/bytealg.MakeNoZero.bytes" 0) rfl, run_askRoom, newRow, Sem.run_bind, run_newObj, Result.andThen, pure, Sem.run]
              rfl
            · exact VR.sliceU (es := 1) (o := 0) (Ren.add_self ..) hcap (fun _ => rfl) (by show 0 + 0 + cap * 1 ≤ cap; omega)
          · cases hv
        · simp [hn] at hv
      · cases hv
    · cases hv
  · next m a =>
    obtain rfl : e = _ := hd
    obtain ⟨x', rfl, hx⟩ := ha.one
    simp only [Option.some.injEq, Prod.mk.injEq] at hv
    obtain ⟨rfl, rfl⟩ := hv
    have hx' : ∃ a', x' = .pointer (some a') := by
      cases hx with
      | atom h => simp [Ev.atom] at h
      | ptr h => exact ⟨_, rfl⟩
    obtain ⟨a', rfl⟩ := hx'
    exact ⟨μ, w, _, rfl, Stp.refl h, VR.closed μ rfl⟩
  · next b o k1 old k new =>
    obtain rfl : e = _ := hd
    obtain ⟨p', o', n', rfl, hp, ho, hn⟩ := ha.three
    obtain rfl := int_inv ho
    obtain rfl := int_inv hn
    obtain ⟨l, hl, rfl⟩ := hp.pointer_inv
    simp only [Option.bind_eq_some_iff] at hv
    obtain ⟨vs, hvs, hv⟩ := hv
    split at hv
    · next cur hcur =>
      cases hco : cur == old
      · simp [hco] at hv
      simp only [hco, cond_true, Option.bind_eq_some_iff, Option.some.injEq, Prod.mk.injEq] at hv
      obtain ⟨s1, hs1, rfl, rfl⟩ := hv
      obtain ⟨hcell, sh, hsh⟩ := cell_at h hl hvs hcur
      obtain ⟨hfr, w1, hst, hstp⟩ := atomic_store (P := P) h hl hcell hs1
      refine ⟨μ, w1, .bool true, ?_, hstp, VR.closed μ rfl⟩
      have hview : Sem.run P (viewAt l.blk) w = .ok none w := by
        simp [viewAt, Sem.run_bind, run_shape, hsh, Result.andThen, pure, Sem.run]
      have htf : Sem.run P (Extern.Atomic.touchesFrozen ⟨l.blk, l.sh + o, none⟩) w = .ok false w := by
        simp only [Extern.Atomic.touchesFrozen, Sem.run_bind, hview, Result.andThen, frozen, Sem.run, hfr]
      have hrd : Sem.run P (Extern.Atomic.read (.int .i32) ⟨l.blk, l.sh + o, none⟩) w = .ok (.int .i32 cur) w := by
        simp [Extern.Atomic.read, Sem.run_bind, atomic_load hcell, Result.andThen, pure, Sem.run]
      change Sem.run P (asAddr (.pointer (some ⟨l.blk, l.sh + o, none⟩)) >>= _) w = _
      simp only [asAddr, Sem.run_bind, pure, Sem.run, Result.andThen, htf, hrd, Bool.false_eq_true, if_false]
      change Sem.run P ((Sem.pure (cur == old) : Sem Bool) >>= _) w = _
      rw [Sem.run_bind]
      simp only [Sem.run, Result.andThen, hco, if_true]
      rw [Sem.run_bind]
      change (Sem.run P (store ⟨l.blk, l.sh + o, none⟩ (.int k new) .atomic) w).andThen _ = _
      rw [hst]
      rfl
    · cases hv
  · next b o k1 d =>
    obtain rfl : e = _ := hd
    obtain ⟨p', o', rfl, hp, ho⟩ := ha.two
    obtain rfl := int_inv ho
    obtain ⟨l, hl, rfl⟩ := hp.pointer_inv
    simp only [Option.bind_eq_some_iff] at hv
    obtain ⟨vs, hvs, hv⟩ := hv
    split at hv
    · next cur hcur =>
      simp only [Option.bind_eq_some_iff, Option.some.injEq, Prod.mk.injEq] at hv
      obtain ⟨s1, hs1, rfl, rfl⟩ := hv
      obtain ⟨hcell, sh, hsh⟩ := cell_at h hl hvs hcur
      obtain ⟨hfr, w1, hst, hstp⟩ := atomic_store (P := P) h hl hcell hs1
      refine ⟨μ, w1, .int .i32 (IntKind.i32.wrap (cur + d)), ?_, hstp, VR.closed μ rfl⟩
      have hrd : Sem.run P (Extern.Atomic.read (.int .i32) ⟨l.blk, l.sh + o, none⟩) w = .ok (.int .i32 cur) w := by
        simp [Extern.Atomic.read, Sem.run_bind, atomic_load hcell, Result.andThen, pure, Sem.run]
      change Sem.run P (asAddr (.pointer (some ⟨l.blk, l.sh + o, none⟩)) >>= _) w = _
      simp only [asAddr, Sem.run_bind, pure, Sem.run, Result.andThen, hrd, asInt, asIntOf, Op.intArith, if_true]
      change Result.andThen (Sem.run P (store ⟨l.blk, l.sh + o, none⟩ (.int .i32 (IntKind.i32.wrap (cur + d))) .atomic) w) (fun _ w => Result.ok (Value.int .i32 (IntKind.i32.wrap (cur + d))) w) = _
      rw [hst]
      rfl
    · cases hv
  · next t r =>
    obtain rfl : e = _ := hd
    obtain ⟨x', rfl, hx⟩ := ha.one
    obtain ⟨m', rfl, hm⟩ := hx.iface_inv
    obtain ⟨l, hl, rfl⟩ := hm.map_inv
    split at hv
    · next es clk hb =>
      simp only [Option.some.injEq, Prod.mk.injEq] at hv
      obtain ⟨rfl, rfl⟩ := hv
      obtain ⟨es', h3, h4, h5⟩ := map_blk (P := P) h hb hl
      have hle : μ.le (μ.add s.nx ⟨w.heap.size, 0, 0⟩) := Ren.le_add (h.nxt _ (Nat.le_refl _)) _
      refine ⟨_, { w with heap := w.heap.push (.map es' clk) }, .iface t (.map (some w.heap.size)), ?_, Stp.drawNew h 0 w.drawn rfl ⟨es', rfl, h4.mono hle⟩, .iface (VR.map (Ren.add_self ..))⟩
      change Sem.run P (getObj l.blk >>= _) w = _
      simp only [Sem.run_bind, h5, Result.andThen, run_newObj, pure, Sem.run]
    · cases hv
  · cases hv
end Go.Ev

namespace Go.Ev
variable {P : Program}

/-! ### What the evaluator's answers mean -/
def fenc (r : Option Nat) : Fence := { Fence.wide with round := r }

/-- How a call ends. -/
def RetR (μ : Ren) (s : St) (w : World) (v : Value) (s' : St) : Ending → World → Prop
  | .returned v', w' => ∃ ν, Stp μ s w ν s' w' ∧ VR ν v v'
  | _, _ => False

def CallG (P : Program) (f : FuncId) (args : List Value) (s : St) (v : Value) (s' : St) : Prop :=
  ∀ μ w (args' : Array Value), Sim μ s w → VRs μ args args'.toList → CallsIn Fence.wide 0 P f args' w (RetR μ s w v s')

/-- What an operation comes to. -/
def NextR (P : Program) (μ : Ren) (s : St) (w : World) (t : Sem Next) (v : Value) (s' : St) : Prop :=
  EffR P μ s w t v s' ∨
  (∃ f args, t.run P w = .ok (.enter f args) w ∧ CallsIn Fence.wide 0 P f args w (RetR μ s w v s')) ∨
  (∃ l f tm as bd, t.run P w = .ok (.round l f tm as bd) w ∧ RoundIn Fence.wide 0 P l f tm as bd w (RetR μ s w v s'))

def AExit.to : AExit → Exit
  | .normal => .normal
  | .exit id => .exit id
  | .ret => .ret

def PostC (μ : Ren) (s : St) (w : World) (nt : Nat) (e : AExit) (b : AAct) (s' : St) : Exit → Act → World → Prop :=
  fun x a' w' => x = e.to ∧ ∃ ν, Stp μ s w ν s' w' ∧ ActR ν nt b a'

/-- From behind a loop's head. -/
def LoopIn (F : Fence) (n : Nat) (P : Program) (c : Code) (Q : Exit → Act → World → Prop) (a : Act) (w : World) : Prop :=
  ∀ (b : Frame) (k : List Item) (cs : List Frame), b.roundOf = F.round → F.fn b.fn → F.room (cs.length + 1 + n) →
    ∃ e a' w', Q e a' w' ∧ ArrivesIn (Machine.fenced P F) P (lone (b.atR a (.code c :: .inLoop c :: k)) cs w) b k cs e a' w'
def wpL (F : Fence) (n : Nat) (P : Program) (c : Code) (Q : Exit → Act → World → Prop) (a : Act) (w : World) : Prop :=
  match c with
  | .loop c => LoopIn F n P c Q a w
  | c => c.wpIn F n P Q a w
theorem wpL.wpIn {F : Fence} {n : Nat} {c : Code} {Q : Exit → Act → World → Prop} {a : Act} {w : World} (h : wpL F n P c Q a w) : c.wpIn F n P Q a w := by
  cases c with
  | loop c =>
    intro b k cs hro hb hr
    obtain ⟨e, a', w', hq, harr⟩ := h b k cs hro hb hr
    exact ⟨e, a', w', hq, .of_steps (.one (fenced_calm hb hr rfl) stepR_loop) harr⟩
  | _ => exact h
theorem loop_once {F : Fence} {n : Nat} {c : Code} {Q : Exit → Act → World → Prop} {a : Act} {w : World} (h : c.wpIn F n P (Exit.then (LoopIn F n P c Q) Q) a w) : LoopIn F n P c Q a w := by
  intro b k cs hro hb hr
  obtain ⟨e, a₁, w₁, hq, harr⟩ := h b (.inLoop c :: k) cs hro hb hr
  cases e with
  | normal =>
    obtain ⟨e₂, a₂, w₂, hq₂, harr₂⟩ := hq b k cs hro hb hr
    exact ⟨e₂, a₂, w₂, hq₂, .of_steps (StepsIn.trans harr (.one (fenced_calm hb hr rfl) stepR_inLoop)) harr₂⟩
  | _ => exact ⟨_, a₁, w₁, hq, .pass (x := .inLoop c) rfl (fun _ _ => .inl (by simp)) harr⟩

def Good (P : Program) : Tk → St → R → St → Prop
  | .code ro _ nt c a, s, .code e b, s' => ∀ μ w a' rr, Sim μ s w → ActR μ nt a a' → Option.isSome rr = Option.isSome ro → wpL (fenc rr) 0 P c (PostC μ s w nt e b s') a' w
  | .call f args, s, .val v, s' => (∃ fn, P.funcs[f]? = some fn ∧ fn.body.isSome = true) ∧ CallG P f args s v s'
  | .round l args, s, .val v, s' => ∀ μ w lo args', Sim μ s w → μ l = some lo → VRs μ args args' → NextR P μ s w (Instr.yield lo.blk ⟨args'⟩) v s'
  | .defers ds, s, _, s' => ∀ μ w ds' fn tmps R, Sim μ s w → DfsR μ ds ds' → (∀ ν w', Stp μ s w ν s' w' → LeavesInM Fence.wide 0 P fn tmps R [] .returning w') → LeavesInM Fence.wide 0 P fn tmps R ds' .returning w
  | _, _, _, _ => False

def RecOk (P : Program) (rec : Rec) : Prop := ∀ t s r s', rec t s = some (r, s') → Good P t s r s'
def XOk (P : Program) (xk : FuncId → Option XK) : Prop := ∀ f k, xk f = some k → ∃ fn e, P.funcs[f]? = some fn ∧ fn.body = none ∧ (fn.name == "runtime.NumGoroutine") = false ∧ Extern.findNext fn = none ∧ Extern.find fn = some e ∧ XDen k e
def OrcOk (P : Program) (orc : Orc) : Prop := ∀ f args s v s', orc f args s = some (v, s') → (∃ fn, P.funcs[f]? = some fn ∧ fn.body.isSome = true ∧ (fn.name == "runtime.NumGoroutine") = false) ∧ CallG P f args s v s'
/-- No function with a body is the one that counts goroutines. -/
def NumOk (P : Program) : Prop := ∀ (f : Nat) (fn : Func), P.funcs[f]? = some fn → fn.body.isSome = true → (fn.name == "runtime.NumGoroutine") = false

theorem callFunc_enter {f : FuncId} {fn : Func} {args : Array Value} {w : World} (hf : P.funcs[f]? = some fn) (hb : fn.body.isSome = true) (hn : (fn.name == "runtime.NumGoroutine") = false) :
    (callFunc f args).run P w = .ok (.enter f args) w := by
  have : fn.body.isNone = false := by cases h : fn.body <;> simp_all
  simp only [callFunc, program, Sem.run_bind, Sem.run, Result.andThen, hf, hn, this, Bool.false_eq_true, if_false, pure]

variable {xk : FuncId → Option XK} {orc : Orc}

theorem callF_sound (hx : XOk P xk) (ho : OrcOk P orc) (hn : NumOk P) {rec : Rec} (hr : RecOk P rec) {μ : Ren} {s s' : St} {w : World} (h : Sim μ s w) {f : FuncId} {args : List Value} {args' : Array Value} {v : Value}
    (ha : VRs μ args args'.toList) (hv : callF P xk orc rec f args s = some (v, s')) : NextR P μ s w (callFunc f args') v s' := by
  unfold callF at hv
  split at hv
  · next r hor =>
    simp only [Option.some.injEq] at hv
    subst hv
    obtain ⟨⟨fn, h1, h2, h3⟩, h4⟩ := ho f args s _ _ hor
    exact .inr (.inl ⟨f, args', callFunc_enter h1 h2 h3, h4 μ w args' h ha⟩)
  · split at hv
    · next k hk =>
      obtain ⟨fn, e, h1, h2, h3, h4, h5, h6⟩ := hx f k hk
      obtain ⟨ν, w', r, h7, h8, h9⟩ := extern_sound h h6 ha hv
      refine .inl ⟨ν, w', r, .inl ?_, h8, h9⟩
      have h2' : fn.body.isNone = true := by rw [h2]; rfl
      simp only [callFunc, program, Sem.run_bind, Sem.run, Result.andThen, h1, h3, h2', h4, h5, mark, h7, pure, Bool.false_eq_true, if_false, if_true]
    · split at hv
      · next v' s1 hrec =>
        simp only [Option.some.injEq, Prod.mk.injEq] at hv
        obtain ⟨rfl, rfl⟩ := hv
        obtain ⟨⟨fn, h1, h2⟩, h3⟩ := hr _ _ _ _ hrec
        exact .inr (.inl ⟨f, args', callFunc_enter h1 h2 (hn f fn h1 h2), h3 μ w args' h ha⟩)
      · cases hv

theorem resolve_call {ρ : Operand → Value} {c : Call} {ty : TypeId} {w : World} {d : Deferred} (h : (resolve ρ c ty).run P w = .ok d w) : (do let d ← resolve ρ c ty; invoke d.target d.args : Sem Next).run P w = (invoke d.target d.args).run P w := by
  simp only [Sem.run_bind, h, Result.andThen]

theorem effOp_sound (hx : XOk P xk) (ho : OrcOk P orc) (hn : NumOk P) {rec : Rec} (hr : RecOk P rec) {μ : Ren} {s s' : St} {w : World} (h : Sim μ s w) {nt : Nat} {a : AAct} {a' : Act} (ha : ActR μ nt a a')
    {o : Oper} (hok : o.op.operands.toList.all (okOpd nt) = true) {v : Value} (hv : effOp P xk orc rec a o s = some (v, s')) : NextR P μ s w (execOp a'.eval o) v s' := by
  obtain ⟨dst, op, ty, pos, aft, grd⟩ := o
  have hop : ∀ x, x ∈ op.operands → VR μ (opd a x) (a'.eval x) := fun x hx => opd_sound h ha (List.all_eq_true.1 hok x (by simpa using hx))
  cases op with
  | store t x y =>
    simp only [effOp, Option.bind_eq_some_iff, Option.some.injEq, Prod.mk.injEq] at hv
    obtain ⟨p, hp, s1, hs, rfl, rfl⟩ := hv
    obtain ⟨l, hl, hsp, hx'⟩ := (hop x (by simp [Op.operands])).ptr_inv hp
    obtain ⟨b, off, sp⟩ := p
    subst hsp
    obtain ⟨w', h1, h2⟩ := store_sound (P := P) h hl hs (hop y (by simp [Op.operands]))
    refine .inl ?_
    simp only [execOp]
    exact EffR.unit (by simp only [Instr.storeAt, hx', Instr.sureAddr, Sem.run_bind, pure, Sem.run, Result.andThen]; exact h1) h2
  | mapUpdate t m k x =>
    simp only [effOp, Option.bind_eq_some_iff, Option.some.injEq, Prod.mk.injEq] at hv
    obtain ⟨s1, hs, rfl, rfl⟩ := hv
    obtain ⟨w', h1, h2⟩ := update_sound (P := P) h (hop m (by simp [Op.operands])) (hop k (by simp [Op.operands])) (hop x (by simp [Op.operands])) hs
    refine .inl ?_
    simp only [execOp]
    exact EffR.unit h1 h2
  | insert t m k x =>
    simp only [effOp, Option.bind_eq_some_iff, Option.some.injEq, Prod.mk.injEq] at hv
    obtain ⟨s1, hs, rfl, rfl⟩ := hv
    obtain ⟨w', h1, h2⟩ := update_sound (P := P) h (hop m (by simp [Op.operands])) (hop k (by simp [Op.operands])) (hop x (by simp [Op.operands])) hs
    refine .inl ?_
    simp only [execOp]
    exact EffR.unit h1 h2
  | convert src dst x =>
    have hxx := hop x (by simp [Op.operands])
    simp only [effOp] at hv
    split at hv
    · next b e h1 h2 h3 =>
      rw [h1] at hxx
      have hxe := hxx.of_atom rfl
      split at hv
      · next h4 h5 =>
        simp only [Option.some.injEq, Prod.mk.injEq] at hv
        obtain ⟨rfl, rfl⟩ := hv
        obtain ⟨ν, v', w', h6, h7, h8⟩ := stringToBytes_sound (P := P) h e b
        refine .inl ?_
        simp only [execOp, hxe]
        refine EffR.val ?_ h7 h8
        simp only [convert, Sem.run_bind, run_und h2, run_und h3, run_und h4, Result.andThen]
        exact h6
      · cases hv
    · cases hv
  | range t x =>
    have hxx := hop x (by simp [Op.operands])
    simp only [effOp] at hv
    split at hv
    · next kt et m h1 h2 =>
      rw [h2] at hxx
      split at hv
      · next es clk h3 =>
        simp only [Option.some.injEq, Prod.mk.injEq] at hv
        obtain ⟨rfl, rfl⟩ := hv
        obtain ⟨ν, w', v', h6, h7, h8⟩ := range_sound (P := P) h hxx h1 h3
        refine .inl ?_
        simp only [execOp]
        exact EffR.val h6 h7 h8
      · cases hv
    · cases hv
  | next it str =>
    have hit := hop it (by simp [Op.operands])
    cases str with
    | true => simp [effOp] at hv
    | false =>
      simp only [effOp] at hv
      split at hv
      · next r h1 =>
        rw [h1] at hit
        split at hv
        · next m since seen last h2 =>
          split at hv
          · next es clk h3 =>
            cases hc : (!seen.isEmpty && !es.isEmpty && es.all (fun e => decide (e.born ≥ last)))
            · rw [hc, cond_false] at hv
              obtain ⟨n1, n2⟩ := next_sound (P := P) h hit ty h2 h3 hc
              split at hv
              · next h4 =>
                simp only [Option.some.injEq, Prod.mk.injEq] at hv
                obtain ⟨rfl, rfl⟩ := hv
                obtain ⟨v', h5, h6⟩ := n1 h4
                refine .inl ?_
                simp only [execOp]
                exact EffR.val h5 (Stp.refl h) h6
              · next e h4 =>
                simp only [blt_dec] at hv
                by_cases hb : e.born < since
                · simp only [hb, decide_true, cond_true, Option.some.injEq, Prod.mk.injEq] at hv
                  obtain ⟨rfl, rfl⟩ := hv
                  obtain ⟨w', v', h5, h6, h7⟩ := n2 e h4 hb
                  refine .inl ?_
                  simp only [execOp]
                  exact EffR.val h5 h6 h7
                · simp [hb] at hv
              · cases hv
            · simp [hc] at hv
          · cases hv
        · cases hv
      · cases hv
  | call c =>
    obtain ⟨cal, cargs, ctys⟩ := c
    cases cal with
    | builtin b =>
      simp only [effOp] at hv
      have hargs : VRs μ (cargs.toList.map (opd a)) (cargs.map a'.eval).toList := by
        rw [Array.toList_map]
        exact opds_sound h ha (List.all_eq_true.2 fun x hx => List.all_eq_true.1 hok x (by simp [Op.operands, Call.operands] at hx ⊢; exact hx))
      obtain ⟨X, hX⟩ : ∃ X, (resolve a'.eval ⟨.builtin b, cargs, ctys⟩ ty).run P w = .ok ⟨.builtin b ctys ty X, cargs.map a'.eval⟩ w := ⟨_, rfl⟩
      obtain ⟨ν, w', x, h1, h2, h3⟩ := builtinV_sound (P := P) (ty := ty) (cs := X) h hargs hv
      refine .inl ⟨ν, w', x, ?_, h2, h3⟩
      have he : Sem.run P (execOp a'.eval ⟨dst, .call ⟨.builtin b, cargs, ctys⟩, ty, pos, aft, grd⟩) w = Sem.run P (builtin b ctys ty X (cargs.map a'.eval)) w := by
        simp only [execOp]
        rw [resolve_call hX]
        rfl
      rw [he]; exact h1
    | invoke r nm => simp [effOp, resolveC] at hv
    | value f =>
      simp only [effOp, Option.bind_eq_some_iff] at hv
      obtain ⟨r, hres, hv⟩ := hv
      simp only [resolveC] at hres
      split at hres
      · next fn first cap hfv =>
        simp only [Option.some.injEq] at hres
        subst hres
        have hff := hop f (by simp [Op.operands, Call.operands])
        have hargs : VRs μ (cargs.toList.map (opd a)) (cargs.map a'.eval).toList := by
          rw [Array.toList_map]
          exact opds_sound h ha (List.all_eq_true.2 fun x hx => List.all_eq_true.1 hok x (by simp [Op.operands, Call.operands] at hx ⊢; exact .inr hx))
        rw [hfv] at hff
        obtain ⟨first⟩ := first
        obtain ⟨cap⟩ := cap
        cases fn with
        | func g =>
          obtain ⟨p', c', he, hp, hc⟩ := hff.func_inv
          simp only [invokeT] at hv
          have hall : VRs μ (first ++ cargs.toList.map (opd a) ++ cap) ((⟨p'⟩ : Array Value) ++ cargs.map a'.eval ++ ⟨c'⟩).toList := by
            simpa using (hp.append (by simpa using hargs)).append hc
          have key := callF_sound hx ho hn hr h hall hv
          have he2 : Sem.run P (execOp a'.eval ⟨dst, .call ⟨.value f, cargs, ctys⟩, ty, pos, aft, grd⟩) w = Sem.run P (callFunc g ((⟨p'⟩ : Array Value) ++ cargs.map a'.eval ++ ⟨c'⟩)) w := by
            simp only [execOp]
            rw [resolve_call (d := ⟨.fn (.func g) ⟨c'⟩, (⟨p'⟩ : Array Value) ++ cargs.map a'.eval⟩) (w := w) (by simp only [resolve]; rw [he]; rfl)]
            rfl
          unfold NextR EffR at key ⊢
          rw [he2]; exact key
        | yield l =>
          obtain ⟨lo, hl, hp, hc, he⟩ := hff.yield_inv
          simp only [invokeT] at hv
          split at hv
          · next v' s1 hrec =>
            simp only [Option.some.injEq, Prod.mk.injEq] at hv
            obtain ⟨rfl, rfl⟩ := hv
            injection hp with hp
            subst hp
            have key := hr _ _ _ _ hrec μ w lo _ h hl hargs
            have he2 : Sem.run P (execOp a'.eval ⟨dst, .call ⟨.value f, cargs, ctys⟩, ty, pos, aft, grd⟩) w = Sem.run P (Instr.yield lo.blk ⟨(cargs.map a'.eval).toList⟩) w := by
              simp only [execOp]
              rw [resolve_call (d := ⟨.fn (.yield lo.blk) ⟨[]⟩, (⟨[]⟩ : Array Value) ++ cargs.map a'.eval⟩) (w := w) (by simp only [resolve]; rw [he]; rfl)]
              show Sem.run P (Instr.yield lo.blk ((⟨[]⟩ : Array Value) ++ cargs.map a'.eval)) w = _
              congr 2
              apply Array.toList_inj.1
              simp
            unfold NextR EffR at key ⊢
            rw [he2]; exact key
          · cases hv
        | _ => simp [invokeT] at hv
      · cases hres
  | _ => simp [effOp] at hv
end Go.Ev

namespace Go.Ev
variable {P : Program} {xk : FuncId → Option XK} {orc : Orc}

theorem upon_of {rr : Option Nat} {μ : Ren} {s s' : St} {w : World} {o : Oper} {a' : Act} {v : Value} (h : NextR P μ s w (execOp a'.eval o) v s') (hd : ∀ c, o.op ≠ .defer c)
    {next : Act → World → Prop} {Q : Exit → Act → World → Prop} (hn : ∀ ν w' x, Stp μ s w ν s' w' → VR ν v x → next (a'.put o.dst x) w') : o.wpIn (fenc rr) 0 P a' w next Q := by
  refine ⟨fun f _ => trivial, ?_⟩
  rw [Oper.semAt_eq _ _ _ hd]
  rcases h with ⟨ν, w', x, hrun, hs, hx⟩ | ⟨f, args, hrun, hc⟩ | ⟨l, f, tm, as, bd, hrun, hc⟩
  · rcases hrun with hrun | ⟨hrun, rfl⟩
    · rw [hrun]; exact hn ν w' x hs hx
    · rw [hrun]; exact hn ν w' _ hs hx
  · rw [hrun]
    refine ⟨fun h => (by cases h), ?_⟩
    refine CallsIn.mono (F := fenc rr) (n := 0) hc fun e w' hr => ?_
    cases e with
    | returned x => obtain ⟨ν, hs, hx⟩ := hr; exact hn ν w' x hs hx
    | panicked c => exact hr.elim
    | outgrown => exact hr.elim
  · rw [hrun]
    refine ⟨fun h => (by cases h), ?_⟩
    refine RoundIn.mono (F := fenc rr) (n := 0) hc fun e w' hr => ?_
    cases e with
    | returned x => obtain ⟨ν, hs, hx⟩ := hr; exact hn ν w' x hs hx
    | panicked c => exact hr.elim
    | outgrown => exact hr.elim

theorem okOper_ops {nt : Nat} {o : Oper} (h : okOper nt o = true) : o.op.operands.toList.all (okOpd nt) = true := by
  simp only [okOper, Bool.and_eq_true] at h; exact h.1
theorem okOper_dst {nt : Nat} {o : Oper} (h : okOper nt o = true) : (match o.dst with | some d => Nat.blt d nt | none => true) = true := by
  simp only [okOper, Bool.and_eq_true] at h; exact h.2

theorem wanted_eq {μ : Ren} {nt : Nat} {a : AAct} {a' : Act} (ha : ActR μ nt a a') {ops : Array Oper} (hok : okOps nt ops = true) (o : Oper) : Region.wanted o (yielded ops a'.tmps) = wantedA a ops o := by
  unfold Region.wanted wantedA
  cases hg : o.guard with
  | none => rfl
  | some p =>
    obtain ⟨j, want⟩ := p
    simp only [yielded]
    cases hj : ops[j]? with
    | none => simp
    | some oj =>
      cases hd : oj.dst with
      | none => simp [hd]
      | some d =>
        have hoj : oj ∈ ops.toList := by
          rw [Array.getElem?_eq_some_iff] at hj
          obtain ⟨h1, h2⟩ := hj
          rw [← h2]; simp
        have hdn : d < nt := by
          have := okOper_dst (List.all_eq_true.1 hok oj hoj)
          simpa [hd] using this
        have hv := ha.tm.at_ d hdn
        have hget : a'.tmps[d]? = some (a'.tmps.getD d undef) := by
          have : d < a'.tmps.size := Nat.lt_of_lt_of_le hdn ha.tm.size
          simp [Array.getD, this]
        simp only [Option.bind_some, hd, hget, AAct.tmp]
        generalize (a.tm.get d).getD undef = x at hv
        generalize a'.tmps.getD d undef = x' at hv
        cases hv with
        | atom h => cases x <;> first | rfl | (simp; done)
        | _ => rfl

/-- One operation. -/
theorem evOp_sound (hx : XOk P xk) (ho : OrcOk P orc) (hn : NumOk P) {rec : Rec} (hr : RecOk P rec) {μ : Ren} {s s' : St} {w : World} (h : Sim μ s w) {nt : Nat} {a b : AAct} {a' : Act} (ha : ActR μ nt a a')
    {o : Oper} (hok : okOper nt o = true) (hv : evOp P xk orc rec a o s = some (b, s')) : ∃ v, b = putA a o.dst v ∧ NextR P μ s w (execOp a'.eval o) v s' := by
  have hok1 := okOper_ops hok
  unfold evOp at hv
  split at hv <;> simp only [Option.bind_eq_some_iff, Option.some.injEq, Prod.mk.injEq] at hv
  · obtain ⟨v, h1, rfl, rfl⟩ := hv
    obtain ⟨v', h2, h3⟩ := pureOp'_sound h ha hok1 h1
    exact ⟨v, rfl, .inl ⟨μ, w, v', .inl h2, Stp.refl h, h3⟩⟩
  · obtain ⟨v, h1, rfl, rfl⟩ := hv
    obtain ⟨v', h2, h3⟩ := readOp_sound h ha hok1 h1
    exact ⟨v, rfl, .inl ⟨μ, w, v', .inl h2, Stp.refl h, h3⟩⟩
  · obtain ⟨⟨bl, f⟩, h1, rfl, rfl⟩ := hv
    obtain ⟨obj, csz, v', h2, h3, h4⟩ := allocOp_sound h ha hok1 h1
    exact ⟨_, rfl, .inl ⟨_, _, v', .inl h2, Stp.drawNew h csz w.drawn rfl h3, h4⟩⟩
  · obtain ⟨⟨v, s1⟩, h1, rfl, rfl⟩ := hv
    exact ⟨v, rfl, effOp_sound hx ho hn hr h ha hok1 h1⟩

theorem resolve_func {μ : Ren} {s : St} {w : World} (h : Sim μ s w) {nt : Nat} {a : AAct} {a' : Act} (ha : ActR μ nt a a') {c : Call} {ty : TypeId} {g : FuncId} {args cap : List Value} (hok : ∀ x ∈ c.operands, okOpd nt x = true)
    (hv : resolveC a c = some (.func g, args, cap)) : ∃ args' cap', (resolve a'.eval c ty).run P w = .ok ⟨.fn (.func g) ⟨cap'⟩, ⟨args'⟩⟩ w ∧ VRs μ args args' ∧ VRs μ cap cap' := by
  obtain ⟨cal, cargs, ctys⟩ := c
  cases cal with
  | value f =>
    simp only [resolveC] at hv
    split at hv
    · next fn first cap0 hfv =>
      obtain ⟨first⟩ := first
      obtain ⟨cap0⟩ := cap0
      simp only [Option.some.injEq, Prod.mk.injEq] at hv
      obtain ⟨rfl, rfl, rfl⟩ := hv
      have hff := opd_sound h ha (hok f (by simp [Call.operands]))
      have hargs : VRs μ (cargs.toList.map (opd a)) (cargs.map a'.eval).toList := by
        rw [Array.toList_map]
        exact opds_sound h ha (List.all_eq_true.2 fun x hx => hok x (by simp [Call.operands]; exact .inr (by simpa using hx)))
      rw [hfv] at hff
      obtain ⟨p', c', he, hp, hc⟩ := hff.func_inv
      refine ⟨p' ++ (cargs.map a'.eval).toList, c', ?_, hp.append hargs, hc⟩
      simp only [resolve]
      rw [he]
      have : (⟨p' ++ (cargs.map a'.eval).toList⟩ : Array Value) = (⟨p'⟩ : Array Value) ++ cargs.map a'.eval := by
        apply Array.toList_inj.1; simp
      rw [this]; rfl
    · cases hv
  | _ => simp [resolveC] at hv

theorem evOps_sound (hx : XOk P xk) (ho : OrcOk P orc) (hn : NumOk P) {rec : Rec} (hr : RecOk P rec) {ro rr : Option Nat} (hro : rr.isSome = ro.isSome) {nt : Nat} {ops : Array Oper} (hok : okOps nt ops = true)
    {Q : Exit → Act → World → Prop} : ∀ (l : List Oper) {μ : Ren} {s s' : St} {w : World} {a b : AAct} {a' : Act}, (∀ o ∈ l, okOper nt o = true) → Sim μ s w → ActR μ nt a a' →
    evOps P xk orc rec ro ops l a s = some (b, s') → (∀ ν w' b', Stp μ s w ν s' w' → ActR ν nt b b' → Q .normal b' w') → wpListIn (fenc rr) 0 P ops Q l a' w
  | [], μ, s, s', w, a, b, a', _, h, ha, hv, hq => by
    simp only [evOps, Option.some.injEq, Prod.mk.injEq] at hv
    obtain ⟨rfl, rfl⟩ := hv
    exact hq μ w a' (Stp.refl h) ha
  | o :: rest, μ, s, s', w, a, b, a', hl, h, ha, hv, hq => by
    have hoo := hl o (List.mem_cons_self ..)
    have hrest : ∀ o ∈ rest, okOper nt o = true := fun o h => hl o (List.mem_cons_of_mem _ h)
    refine wpListIn_step fun K hK => ?_
    rw [wanted_eq ha hok]
    unfold evOps at hv
    cases hw : wantedA a ops o
    · simp only [hw, cond_false] at hv
      simp only [Bool.false_eq_true, if_false]
      exact ⟨fun f _ => trivial, hK _ _ (evOps_sound hx ho hn hr hro hok rest hrest h (putA_sound ha (okOper_dst hoo) (VR.undef μ)) hv hq)⟩
    · simp only [hw, cond_true] at hv
      simp only [if_true]
      by_cases hdef : ∃ c, o.op = .defer c
      · obtain ⟨c, hc⟩ := hdef
        simp only [hc] at hv
        cases ro with
        | some l => cases hv
        | none =>
          simp only [Option.bind_eq_some_iff] at hv
          obtain ⟨⟨fn, args, cap⟩, h1, hv⟩ := hv
          cases fn with
          | func g =>
            simp only at hv
            have hrr : rr = none := by cases rr <;> simp_all
            subst hrr
            have hres : ∃ args' cap', (resolve a'.eval c o.type).run P w = .ok ⟨.fn (.func g) ⟨cap'⟩, ⟨args'⟩⟩ w ∧ VRs μ args args' ∧ VRs μ cap cap' :=
              resolve_func h ha (fun x hx => List.all_eq_true.1 (okOper_ops hoo) x (by rw [hc]; simpa [Op.operands] using hx)) h1
            obtain ⟨args', cap', hrun, hra, hrc⟩ := hres
            refine ⟨fun f _ => trivial, ?_⟩
            change Oper.uponIn (fenc none) 0 P o a' K Q (Sem.run P (execOp a'.eval o) w)
            have he : Sem.run P (execOp a'.eval o) w = .ok (.defer ⟨.fn (.func g) ⟨cap'⟩, ⟨args'⟩⟩) w := by
              simp only [execOp, hc, Sem.run_bind, hrun, Result.andThen, pure, Sem.run]
            rw [he]
            refine hK _ _ ?_
            refine evOps_sound hx ho hn hr hro hok rest hrest h ?_ hv hq
            exact putA_sound (a := ⟨a.tm, ⟨.fn (.func g) ⟨cap⟩, ⟨args⟩⟩ :: a.df⟩) (a' := { a' with defers := ⟨.fn (.func g) ⟨cap'⟩, ⟨args'⟩⟩ :: a'.defers }) ⟨ha.tm, .cons (.fn hrc hra) ha.df⟩ (okOper_dst hoo) (VR.undef μ)
          | _ => cases hv
      · split at hv
        · exact absurd ⟨_, ‹o.op = .defer _›⟩ hdef
        · exact absurd ⟨_, ‹o.op = .defer _›⟩ hdef
        · have hnd : ∀ c, o.op ≠ .defer c := fun c hc => hdef ⟨c, hc⟩
          simp only [Option.bind_eq_some_iff] at hv
          obtain ⟨⟨b1, s1⟩, h1, h2⟩ := hv
          obtain ⟨v, rfl, hnext⟩ := evOp_sound hx ho hn hr h ha hoo h1
          refine upon_of hnext hnd fun ν w' x hs hxv => hK _ _ ?_
          exact evOps_sound hx ho hn hr hro hok rest hrest hs.sim (putA_sound (ha.mono hs.le) (okOper_dst hoo) hxv) h2 (fun ν' w'' b' hs' hb' => hq ν' w'' b' (hs.trans hs') hb')
end Go.Ev

namespace Go.Ev
variable {P : Program} {xk : FuncId → Option XK} {orc : Orc}

theorem initTm_get : ∀ (l : List Value) (i : Nat) (t : Tr Value) (j : Nat), (initTm l i t).get j = if i ≤ j ∧ j < i + l.length then l[j - i]? else t.get j
  | [], i, t, j => by simp only [initTm]; rw [if_neg (by simp only [List.length_nil]; omega)]
  | v :: l, i, t, j => by
    rw [initTm, initTm_get l, Tr.get_set]
    by_cases h : i.succ ≤ j ∧ j < i.succ + l.length
    · rw [if_pos h, if_pos (by simp; omega), show j - i = (j - i.succ) + 1 by omega]; simp
    · rw [if_neg h]
      by_cases h2 : j = i
      · subst h2; rw [if_pos rfl, if_pos (by simp)]; simp
      · rw [if_neg h2, if_neg (by simp; omega)]

theorem init_rel {μ : Ren} {args : List Value} {args' : Array Value} (h : VRs μ args args'.toList) {nt : Nat} (hle : args.length ≤ nt) :
    ActR μ nt ⟨initTm args 0 .lf, []⟩ { tmps := args' ++ Array.replicate (nt - args'.size) undef, defers := [] } := by
  have hlen := h.length
  simp only [Array.length_toList] at hlen
  refine ⟨⟨by simp; omega, fun t ht => ?_⟩, .nil⟩
  simp only [initTm_get, Nat.zero_le, true_and, Nat.zero_add, Nat.sub_zero, Array.getD_eq_getD_getElem?]
  by_cases hlt : t < args.length
  · rw [if_pos hlt, Array.getElem?_append_left (by omega)]
    obtain ⟨v', h1, h2⟩ := h.get t args[t] (List.getElem?_eq_getElem hlt)
    rw [List.getElem?_eq_getElem hlt]
    simp only [Array.getElem?_toList] at h1
    rw [h1]; exact h2
  · rw [if_neg hlt, Array.getElem?_append_right (by omega)]
    have : (Array.replicate (nt - args'.size) undef)[t - args'.size]?.getD undef = undef := by
      by_cases h : t - args'.size < nt - args'.size
      · simp [h]
      · simp [h]
    rw [this]; exact VR.undef μ

theorem setTm_rel {μ : Ren} {nt : Nat} : ∀ {l : List (Tmp × Value)} {l' : List (Tmp × Value)} {t r : Tr Value} {tmps : Array Value}, l.map (·.1) = l'.map (·.1) → VRs μ (l.map (·.2)) (l'.map (·.2)) →
    setTm nt l t = some r → TmR μ nt t tmps → TmR μ nt r (l'.foldl (fun tmps p => tmps.setIfInBounds p.1 p.2) tmps)
  | [], [], t, r, tmps, _, _, h, ht => by simp [setTm] at h; subst h; exact ht
  | [], _ :: _, _, _, _, hm, _, _, _ => by simp at hm
  | _ :: _, [], _, _, _, hm, _, _, _ => by simp at hm
  | (k, v) :: l, (k', v') :: l', t, r, tmps, hm, hv, h, ht => by
    simp only [List.map_cons, List.cons.injEq] at hm
    obtain ⟨rfl, hm⟩ := hm
    simp only [List.map_cons] at hv
    cases hv with
    | cons hv1 hv2 =>
      unfold setTm at h
      by_cases hk : k < nt
      · simp only [blt_dec, hk, decide_true, cond_true] at h
        simp only [List.foldl_cons]
        refine setTm_rel hm hv2 h ?_
        have := putA_sound (μ := μ) (nt := nt) (a := ⟨t, []⟩) (a' := { tmps := tmps, defers := [] }) ⟨ht, .nil⟩ (d := some k) (by simp [hk]) hv1
        exact this.tm
      · simp [hk] at h

theorem loadVar_ptr {μ : Ren} {s : St} {w : World} (h : Sim μ s w) {t : TypeId} {x x' : Value} {p : Addr} {v : Value} (hp : ptr x = some p) (hx : VR μ x x') (hv : loadV P s t p = some v) :
    ∃ v', (do loadVar t (← asAddr x') : Sem Value).run P w = .ok v' w ∧ VR μ v v' := by
  obtain ⟨l, hl, hsp, rfl⟩ := hx.ptr_inv hp
  obtain ⟨b, off, sp⟩ := p
  subst hsp
  obtain ⟨v', h1, h2⟩ := load_sound (P := P) h hl hv
  exact ⟨v', by simp only [asAddr, Sem.run_bind, pure, Sem.run, Result.andThen]; exact h1, h2⟩

theorem resV_sound {μ : Ren} {s : St} {w : World} (h : Sim μ s w) {nt : Nat} {a : AAct} {a' : Act} (ha : ActR μ nt a a') {f : ResultVar → Sem Value}
    (hf1 : ∀ t, f (.tmp t) = pure (a'.tmps.getD t undef)) (hf2 : ∀ p t, f (.cell p t) = (do loadVar t (← asAddr (a'.tmps.getD p undef)))) :
    ∀ (l : List ResultVar) (vs : List Value), resV P nt a s l = some vs → ∃ vs', (l.mapM f).run P w = .ok vs' w ∧ VRs μ vs vs' := by
  intro l
  induction l with
  | nil => intro vs h; simp [resV] at h; subst h; exact ⟨[], by simp [pure, Sem.run], .nil⟩
  | cons x l ih =>
    intro vs hvs
    cases x with
    | tmp t =>
      simp only [resV] at hvs
      by_cases ht : t < nt
      · simp only [blt_dec, ht, decide_true, cond_true, Option.bind_eq_some_iff, Option.some.injEq] at hvs
        obtain ⟨l', h1, rfl⟩ := hvs
        obtain ⟨vs', h2, h3⟩ := ih _ h1
        refine ⟨_ :: vs', ?_, .cons (ha.tm.at_ t ht) h3⟩
        rw [List.mapM_cons, Sem.run_bind, hf1]
        simp only [pure, Sem.run, Result.andThen]
        rw [Sem.run_bind, h2]
        rfl
      · simp [ht] at hvs
    | cell p t =>
      simp only [resV] at hvs
      by_cases ht : p < nt
      · simp only [blt_dec, ht, decide_true, cond_true, Option.bind_eq_some_iff, Option.some.injEq] at hvs
        obtain ⟨q, hq, u, hu, l', h1, rfl⟩ := hvs
        obtain ⟨vs', h2, h3⟩ := ih _ h1
        obtain ⟨u', h4, h5⟩ := loadVar_ptr (P := P) h hq (ha.tm.at_ p ht) hu
        refine ⟨u' :: vs', ?_, .cons h5 h3⟩
        rw [List.mapM_cons, Sem.run_bind, hf2, h4]
        simp only [Result.andThen]
        rw [Sem.run_bind, h2]
        rfl
      · simp [ht] at hvs

theorem results_sound {μ : Ren} {s : St} {w : World} (h : Sim μ s w) {fn : Func} {a : AAct} {a' : Act} (ha : ActR μ fn.ntmps a a') {v : Value} (hv : resultsV P fn a s = some v) :
    ∃ v', (results fn a'.tmps).run P w = .ok v' w ∧ VR μ v v' := by
  unfold resultsV at hv
  cases hr : resV P fn.ntmps a s fn.results.toList with
  | none => simp [hr] at hv
  | some vs =>
    have e1 : ∃ vs', VRs μ vs vs' ∧ (results fn a'.tmps).run P w = .ok (if h : (⟨vs'⟩ : Array Value).size = 1 then (⟨vs'⟩ : Array Value)[0] else .tuple ⟨vs'⟩) w := by
      unfold results
      simp only [Array.mapM_eq_mapM_toList, Sem.run_bind, map_eq_pure_bind]
      generalize hf : (fun x : ResultVar => _) = f
      obtain ⟨vs', h1, h2⟩ := resV_sound (P := P) h ha (f := f) (fun _ => by subst hf; rfl) (fun _ _ => by subst hf; rfl) _ _ hr
      refine ⟨vs', h2, ?_⟩
      rw [h1]
      rfl
    obtain ⟨vs', h2, h1⟩ := e1
    refine ⟨_, h1, ?_⟩
    simp only [hr] at hv
    cases h2 with
    | nil => simp at hv; subst hv; exact .tuple .nil
    | cons h3 h4 =>
      cases h4 with
      | nil => simp at hv; subst hv; exact h3
      | cons h5 h6 => simp at hv; subst hv; exact .tuple (.cons h3 (.cons h5 h6))
end Go.Ev

namespace Go.Ev
variable {P : Program} {xk : FuncId → Option XK} {orc : Orc} {dorc : FuncId → Bool}

theorem loopAt_eq {s : St} {l : Nat} {r : LoopR} (h : loopAt s l = some r) : s.hp.get l = some (.loop r) := by
  unfold loopAt at h
  split at h
  · next r' hr => simp at h; subst h; exact hr
  · cases h

theorem run_getLoop {w : World} {l : Nat} {L : Go.Loop} (h : w.heap[l]? = some (.loop L)) : (Instr.getLoop l).run P w = .ok L w := by
  simp only [Instr.getLoop, Sem.run_bind, run_getObj h (by intros; simp), Result.andThen, pure, Sem.run]

theorem loop_set {μ : Ren} {s : St} {w : World} (h : Sim μ s w) {l : Nat} {lo : Loc} {r r' : LoopR} {L L' : Go.Loop} (hb : s.hp.get l = some (.loop r)) (hl : μ l = some lo) (ho : w.heap[lo.blk]? = some (.loop L))
    (h1 : L'.state = r'.st) (h2 : L'.pending = r'.jump) (h3 : TmR μ r'.nt r'.tmps L'.tmps) (h4 : L'.params = r'.params) (h5 : L'.assign = r'.assign) (h6 : L'.body = r'.body) :
    Stp μ s w μ ⟨s.hp.set l (.loop r'), s.nx⟩ { w with heap := w.heap.setIfInBounds lo.blk (.loop L') } :=
  Stp.upd h hb hl (set_upd ho) ⟨L', rfl, h1, h2, h3, h4, h5, h6⟩

theorem round_sound {rec : Rec} (hr : RecOk P rec) {l : Nat} {args : List Value} {s s' : St} {r : R} (hv : step P xk orc dorc rec (.round l args) s = some (r, s')) : Good P (.round l args) s r s' := by
  simp only [step, Option.bind_eq_some_iff] at hv
  obtain ⟨lr, hlr, hv⟩ := hv
  simp only [beq_dec] at hv
  by_cases hsz : lr.params.size = args.length
  · simp only [hsz, decide_true, cond_true, Option.bind_eq_some_iff] at hv
    obtain ⟨tm, htm, hv⟩ := hv
    split at hv
    · next a s1 hrec1 =>
      simp only [Option.bind_eq_some_iff] at hv
      obtain ⟨r1, hr1, hv⟩ := hv
      split at hv
      · next hst =>
        split at hv
        · next a2 s2 hrec2 =>
          simp only [Option.bind_eq_some_iff, Option.some.injEq, Prod.mk.injEq] at hv
          obtain ⟨r2, hr2, rfl, rfl⟩ := hv
          intro μ w lo args' h hl ha
          obtain ⟨L, ho, g1, g2, g3, g4, g5, g6⟩ := h.blk (loopAt_eq hlr) hl
          refine .inr (.inr ⟨lo.blk, L.fn, (L.params.zip ⟨args'⟩).foldl (fun tmps p => tmps.setIfInBounds p.1 p.2) L.tmps, L.assign, L.body, ?_, ?_⟩)
          · have hne : ¬ ((⟨args'⟩ : Array Value).size ≠ L.params.size) := by
              have := ha.length
              rw [g4]; simp [this, hsz]
            simp only [Instr.yield, Sem.run_bind, run_getLoop ho, Result.andThen, if_neg hne, pure, Sem.run]
          · have htmR : TmR μ lr.nt tm ((L.params.zip ⟨args'⟩).foldl (fun tmps p => tmps.setIfInBounds p.1 p.2) L.tmps) := by
              rw [← Array.foldl_toList, Array.toList_zip]
              have hlen := ha.length
              have hps : L.params.toList.length = args.length := by rw [g4]; simpa using hsz
              refine setTm_rel (l := lr.params.toList.zip args) ?_ ?_ htm g3
              · rw [List.map_fst_zip (by rw [← g4]; omega), List.map_fst_zip (by simp only; omega), g4]
              · rw [List.map_snd_zip (by rw [← g4]; omega), List.map_snd_zip (by simp only; omega)]
                exact ha
            refine roundIn_of_wpIn (F := Fence.wide) trivial ?_
            have k1 := (hr _ _ _ _ hrec1 μ w { tmps := _, defers := [] } (some lo.blk) h ⟨htmR, .nil⟩ rfl).wpIn
            rw [g5]
            refine wpIn_mono k1 fun e a' w1 hq => ?_
            obtain ⟨rfl, ν, hs1, ha1⟩ := hq
            have hl1 := hs1.le _ _ hl
            obtain ⟨L1, ho1, q1, q2, q3, q4, q5, q6⟩ := hs1.sim.blk (loopAt_eq hr1) hl1
            have hs2 := loop_set hs1.sim (r' := { r1 with st := .busy }) (L' := { L1 with state := .busy }) (loopAt_eq hr1) hl1 ho1 rfl q2 q3 q4 q5 q6
            refine ⟨{ w1 with heap := w1.heap.setIfInBounds lo.blk (.loop { L1 with state := .busy }) }, ?_, ?_⟩
            · simp only [Instr.beginRound, Sem.run_bind, run_getLoop ho1, run_setObj ho1 (by intros; simp), Result.andThen, q1, hst, pure, Sem.run]
            · have k2 := (hr _ _ _ _ hrec2 ν _ a' (some lo.blk) hs2.sim ha1 rfl).wpIn
              rw [g6]
              refine wpIn_mono k2 fun e a'' w3 hq => ?_
              obtain ⟨rfl, ρ, hs3, ha3⟩ := hq
              have hl3 := hs3.le _ _ hl1
              obtain ⟨L3, ho3, p1, p2, p3, p4, p5, p6⟩ := hs3.sim.blk (loopAt_eq hr2) hl3
              have hs4 := loop_set hs3.sim (r' := { r2 with st := .ready, jump := none }) (L' := { L3 with state := .ready, pending := none }) (loopAt_eq hr2) hl3 ho3 rfl rfl p3 p4 p5 p6
              refine ⟨.bool true, { w3 with heap := w3.heap.setIfInBounds lo.blk (.loop { L3 with state := .ready, pending := none }) }, ?_, ρ, hs1.trans (hs2.trans (hs3.trans hs4)), VR.closed ρ rfl⟩
              simp only [Instr.endRound, Sem.run_bind, run_getLoop ho3, run_setObj ho3 (by intros; simp), Result.andThen, pure, Sem.run]
              rfl
        · cases hv
      · cases hv
    · cases hv
  · simp [hsz] at hv
end Go.Ev

namespace Go.Ev
variable {P : Program} {xk : FuncId → Option XK} {orc : Orc} {dorc : FuncId → Bool}

/-- Deferred functions that do nothing when the frame below returns. -/
def DorcOk (P : Program) (dorc : FuncId → Bool) : Prop := ∀ f, dorc f = true → (∃ fn, P.funcs[f]? = some fn ∧ fn.body.isSome = true) ∧
  ∀ args w, CallsDIn Fence.wide 0 P f args .returning w fun e u w' => (∃ v, e = .returned v) ∧ u = .returning ∧ w'.heap = w.heap ∧ w'.os = w.os ∧ w'.tape = w.tape ∧ w'.output = w.output

theorem defers_sound (hn : NumOk P) (hd : DorcOk P dorc) {rec : Rec} (hr : RecOk P rec) {ds : List Deferred} {s s' : St} {r : R} (hv : step P xk orc dorc rec (.defers ds) s = some (r, s')) : Good P (.defers ds) s r s' := by
  cases ds with
  | nil =>
    simp only [step, Option.some.injEq, Prod.mk.injEq] at hv
    obtain ⟨rfl, rfl⟩ := hv
    intro μ w ds' fn tmps R h hdd hk
    cases hdd
    exact hk μ w (Stp.refl h)
  | cons d ds =>
    simp only [step] at hv
    intro μ w ds' fn tmps R h hdd hk
    cases hdd with
    | cons hd1 hd2 =>
      rename_i d' ds2
      cases hd1 with
      | coll hl =>
        next rr l =>
        simp only at hv
        split at hv
        · next hb =>
          have ho : w.heap[l.blk]? = some (.deferred (some [])) := h.blk hb hl
          have hstp : Stp μ s w μ ⟨s.hp.set rr (.dfr false), s.nx⟩ { w with heap := w.heap.setIfInBounds l.blk (.deferred none) } :=
            Stp.upd h hb hl (set_upd ho) rfl
          refine ⟨by simp, .inl ⟨l.blk, { w with heap := w.heap.setIfInBounds l.blk (.deferred none) }, rfl, ?_, ?_⟩⟩
          · simp only [Instr.takeDeferred, Sem.run_bind, run_getObj ho (by intros; simp), run_setObj ho (by intros; simp), Result.andThen, pure, Sem.run]
          · exact hr _ _ _ _ hv μ _ _ fn tmps R hstp.sim hd2 (fun ν w' hs => hk ν w' (hstp.trans hs))
        · cases hv
      | fn hc ha =>
        next f cap cap' args args' =>
        simp only at hv
        have hall : VRs μ (args ++ cap) ((⟨args'⟩ : Array Value) ++ ⟨cap'⟩).toList := by simpa using ha.append hc
        have hinv : ∀ fn', P.funcs[f]? = some fn' → fn'.body.isSome = true → (invoke (.fn (.func f) ⟨cap'⟩) ⟨args'⟩).run P w = .ok (.enter f ((⟨args'⟩ : Array Value) ++ ⟨cap'⟩)) w := fun fn' h1 h2 => callFunc_enter h1 h2 (hn f fn' h1 h2)
        cases hdo : dorc f
        · simp only [hdo, cond_false] at hv
          split at hv
          · next fn' hfn =>
            split at hv
            · next c hc' =>
              simp only [ble_dec] at hv
              by_cases hle : (args ++ cap).length ≤ fn'.ntmps
              · simp only [hle, decide_true, cond_true] at hv
                have hbs : fn'.body.isSome = true := by rw [hc']; rfl
                have fin : ∀ (e : AExit) (b : AAct) (s1 : St), (e = .normal ∨ e = .ret) → rec (.code none f fn'.ntmps c ⟨initTm (args ++ cap) 0 .lf, []⟩) s = some (.code e b, s1) →
                    (match b.df with | [] => (resultsV P fn' b s1).bind fun _ => rec (.defers ds) s1 | _ :: _ => none) = some (r, s') →
                    LeavesInM Fence.wide 0 P fn tmps R (⟨.fn (.func f) ⟨cap'⟩, ⟨args'⟩⟩ :: ds2) .returning w := by
                  intro e b s1 he hrec hv
                  split at hv
                  · next hdf =>
                    simp only [Option.bind_eq_some_iff] at hv
                    obtain ⟨v, hres, hv⟩ := hv
                    refine ⟨by simp, .inr ⟨fun h => (by cases h), _, _, f, _, rfl, hinv fn' hfn hbs, fun _ _ => trivial, ?_⟩⟩
                    have k1 := (hr _ _ _ _ hrec μ w _ none h (init_rel hall hle) rfl).wpIn
                    have k2 : CallsDIn Fence.wide 0 P f _ .returning w _ := callsDIn_of_wp (F := Fence.wide) (n := 0) (u := .returning) (R := fun e w' => match e with | .returned _ => ∃ ν, Stp μ s w ν s1 w' | _ => False) hfn hc' trivial (wpIn_mono k1 fun x a' w' hq => by
                      obtain ⟨rfl, ν, hs, hab⟩ := hq
                      have hnil : a'.defers = [] := by
                        have := hab.df
                        rw [hdf] at this
                        generalize a'.defers = x at this ⊢
                        cases this; rfl
                      obtain ⟨v', hrun, _⟩ := results_sound hs.sim hab hres
                      rcases he with rfl | rfl
                      · exact ⟨hnil, v', hrun, ν, hs⟩
                      · exact ⟨hnil, v', hrun, ν, hs⟩)
                    refine CallsDIn.mono k2 fun e u' w' hq => ?_
                    obtain ⟨rfl, hq⟩ := hq
                    cases e with
                    | returned v =>
                      obtain ⟨ν, hs⟩ := hq
                      exact hr _ _ _ _ hv ν w' _ fn tmps R hs.sim (hd2.mono hs.le) (fun ν' w'' hs' => hk ν' w'' (hs.trans hs'))
                    | _ => exact hq.elim
                  · cases hv
                split at hv
                · next b s1 hrec => exact fin _ b s1 (.inl rfl) hrec hv
                · next b s1 hrec => exact fin _ b s1 (.inr rfl) hrec hv
                · cases hv
              · rw [decide_eq_false hle] at hv; cases hv
            · cases hv
          · cases hv
        · simp only [hdo, cond_true] at hv
          obtain ⟨⟨fn', h1, h2⟩, h3⟩ := hd f hdo
          refine ⟨by simp, .inr ⟨fun h => (by cases h), _, _, f, _, rfl, hinv fn' h1 h2, fun _ _ => trivial, ?_⟩⟩
          refine CallsDIn.mono (h3 _ w) fun e u' w' hq => ?_
          obtain ⟨⟨v, rfl⟩, rfl, e1, e2, e3, e4⟩ := hq
          have hs : Stp μ s w μ s w' := Stp.same h e1 e2 e3 e4
          exact hr _ _ _ _ hv μ w' _ fn tmps R hs.sim hd2 (fun ν' w'' hs' => hk ν' w'' (hs.trans hs'))
end Go.Ev

namespace Go.Ev
variable {P : Program} {xk : FuncId → Option XK} {orc : Orc} {dorc : FuncId → Bool}

theorem call_sound {rec : Rec} (hr : RecOk P rec) {f : FuncId} {args : List Value} {s s' : St} {r : R} (hv : step P xk orc dorc rec (.call f args) s = some (r, s')) : Good P (.call f args) s r s' := by
  simp only [step] at hv
  split at hv
  · next fn hfn =>
    split at hv
    · next c hc =>
      simp only [ble_dec] at hv
      by_cases hle : args.length ≤ fn.ntmps
      · simp only [hle, decide_true, cond_true] at hv
        have fin : ∀ (e : AExit) (b : AAct) (s1 : St), (e = .normal ∨ e = .ret) → rec (.code none f fn.ntmps c ⟨initTm args 0 .lf, []⟩) s = some (.code e b, s1) →
            (match rec (.defers b.df) s1 with | some (_, s) => (resultsV P fn b s).bind fun v => some (.val v, s) | none => none) = some (r, s') → Good P (.call f args) s r s' := by
          intro e b s1 he hrec hv
          split at hv
          · next r2 s2 hrd =>
            simp only [Option.bind_eq_some_iff, Option.some.injEq, Prod.mk.injEq] at hv
            obtain ⟨v, hres, rfl, rfl⟩ := hv
            refine ⟨⟨fn, hfn, by rw [hc]; rfl⟩, fun μ w args' h ha => ?_⟩
            have k1 := (hr _ _ _ _ hrec μ w _ none h (init_rel ha hle) rfl).wpIn
            refine callsIn_of_wp_marks (F := Fence.wide) (n := 0) hfn hc trivial (wpIn_mono k1 fun x a' w' hq => ?_)
            obtain ⟨rfl, ν, hs, hab⟩ := hq
            have key : LeavesInM Fence.wide 0 P fn a'.tmps (RetR μ s w v s2) a'.defers .returning w' := by
              refine hr _ _ _ _ hrd ν w' _ fn a'.tmps _ hs.sim hab.df fun ν' w'' hs' => ?_
              obtain ⟨v', h1, h2⟩ := results_sound (a := b) (a' := a') hs'.sim ⟨hab.tm.mono hs'.le, hab.df.mono hs'.le⟩ hres
              exact ⟨v', h1, ν', hs.trans hs', h2⟩
            rcases he with rfl | rfl
            · exact key
            · exact key
          · cases hv
        split at hv
        · next b s1 hrec => exact fin _ b s1 (.inl rfl) hrec hv
        · next b s1 hrec => exact fin _ b s1 (.inr rfl) hrec hv
        · cases hv
      · rw [decide_eq_false hle] at hv; cases hv
    · cases hv
  · cases hv
end Go.Ev

namespace Go.Ev
variable {P : Program} {xk : FuncId → Option XK} {orc : Orc} {dorc : FuncId → Bool}

theorem TmR.add {μ : Ren} {nt : Nat} {tm : Tr Value} {t : Array Value} (h : TmR μ nt tm t) : TmR μ nt tm t := h

theorem rangeFunc_sound (hn : NumOk P) {rec : Rec} (hr : RecOk P rec) {μ : Ren} {s s2 : St} {w : World} (h : Sim μ s w) {nt : Nat} {a : AAct} {a' : Act} (ha : ActR μ nt a a') {g : Operand} (hg : okOpd nt g = true)
    {fn : FuncId} {ps : Array Tmp} {assign body : Code} {f : FuncId} {first cap : List Value} (hgv : opd a g = .func (.func f) ⟨first⟩ ⟨cap⟩) {v : Value} {lr : LoopR}
    (hrec : rec (.call f (first ++ [.func (.yield (s.nx + 1)) ⟨[]⟩ ⟨[]⟩] ++ cap)) (newBlk (newBlk s (.dfr true)) (.loop ⟨.ready, none, fn, nt, a.tm, ps, assign, body, s.nx⟩)) = some (.val v, s2))
    (hlr : loopAt s2 (s.nx + 1) = some lr) (hst : lr.st = .ready) (hj : lr.jump = none) :
    (Code.rangeFunc g ps assign body).wpIn (fenc none) 0 P (PostC μ s w nt .normal ⟨a.tm, ⟨.collected s.nx, ⟨[]⟩⟩ :: a.df⟩ ⟨s2.hp.set (s.nx + 1) (.loop { lr with st := .exhausted }), s2.nx⟩) a' w := by
  have hgg := opd_sound h ha hg
  rw [hgv] at hgg
  obtain ⟨p', c', hge, hp, hc⟩ := hgg.func_inv
  obtain ⟨⟨fd, hf1, hf2⟩, hcall⟩ := hr _ _ _ _ hrec
  refine wpIn_rangeFunc (F := fenc none) (n := 0) fun fn' _ => ?_
  let L0 : Go.Loop := { state := .ready, pending := none, fn := fn', tmps := a'.tmps, params := ps, assign, body, defers := w.heap.size }
  let w1 : World := { w with heap := w.heap.push (.deferred (some [])) }
  let w2 : World := { w1 with heap := w1.heap.push (.loop L0) }
  let μ1 := μ.add s.nx ⟨w.heap.size, 0, 0⟩
  have hs1 : Stp μ s w μ1 (newBlk s (.dfr true)) w1 := Stp.drawNew h 0 w.drawn rfl rfl
  have hsz1 : w1.heap.size = w.heap.size + 1 := by simp [w1]
  let μ2 := μ1.add (s.nx + 1) ⟨w1.heap.size, 0, 0⟩
  have hle2 : μ1.le μ2 := Ren.le_add (hs1.sim.nxt _ (Nat.le_refl _)) _
  have hle1 : μ.le μ1 := hs1.le
  have hs2 : Stp μ1 (newBlk s (.dfr true)) w1 μ2 (newBlk (newBlk s (.dfr true)) (.loop ⟨.ready, none, fn, nt, a.tm, ps, assign, body, s.nx⟩)) w2 :=
    Stp.drawNew hs1.sim 0 w1.drawn rfl ⟨L0, rfl, rfl, rfl, (ha.tm.mono hle1).mono hle2, rfl, rfl, rfl⟩
  have hl2 : μ2 (s.nx + 1) = some ⟨w1.heap.size, 0, 0⟩ := Ren.add_self ..
  have hl1 : μ2 s.nx = some ⟨w.heap.size, 0, 0⟩ := hle2 _ _ (Ren.add_self ..)
  have hargs : VRs μ2 (first ++ [Value.func (.yield (s.nx + 1)) ⟨[]⟩ ⟨[]⟩] ++ cap) ((⟨p'⟩ : Array Value) ++ #[Value.func (.yield w1.heap.size) #[] #[]] ++ ⟨c'⟩).toList := by
    have e : ((⟨p'⟩ : Array Value) ++ #[Value.func (.yield w1.heap.size) #[] #[]] ++ ⟨c'⟩).toList = p' ++ [Value.func (.yield w1.heap.size) ⟨[]⟩ ⟨[]⟩] ++ c' := by simp
    rw [e]
    have hle := hle1.trans hle2
    exact ((hp.mono hle).append (.cons (.yield hl2) .nil)).append (hc.mono hle)
  refine ⟨w1.heap.size, [⟨.collected w.heap.size, #[]⟩], w2, ⟨.fn (.func f) ⟨c'⟩, (⟨p'⟩ : Array Value) ++ #[Value.func (.yield w1.heap.size) #[] #[]]⟩, w2, f, _, w2, ?_, ?_, fun _ _ => trivial, callFunc_enter hf1 hf2 (hn f fd hf1 hf2), fun h => (by cases h), ?_⟩
  · change Sem.run P (Instr.enterLoop fn' a'.tmps ps assign body none) w = _
    simp only [Instr.enterLoop, Sem.run_bind, run_newObj, Result.andThen, pure, Sem.run]
    rfl
  · have : resolve a'.eval (rangeCall g w1.heap.size) 0 = Deferred.ofValue (a'.eval g) #[Value.func (.yield w1.heap.size) #[] #[]] := by
      simp only [resolve]
      congr 1
      all_goals simp [Act.eval]
    rw [this, hge]
    rfl
  · refine CallsIn.mono (F := fenc none) (n := 0) (hcall μ2 w2 _ hs2.sim hargs) fun e w3 hq => ?_
    cases e with
    | returned x =>
      obtain ⟨ν, hs3, _⟩ := hq
      have hl3 := hs3.le _ _ hl2
      obtain ⟨L3, ho3, p1, p2, p3, p4, p5, p6⟩ := hs3.sim.blk (loopAt_eq hlr) hl3
      have hs4 := loop_set hs3.sim (r' := { lr with st := .exhausted }) (L' := { L3 with state := .exhausted }) (loopAt_eq hlr) hl3 ho3 rfl p2 p3 p4 p5 p6
      have hnb : ¬ ((L3.state == .busy) = true) := by rw [p1, hst]; decide
      refine ⟨none, { w3 with heap := w3.heap.setIfInBounds w1.heap.size (.loop { L3 with state := .exhausted }) }, ?_, rfl, ν, hs1.trans (hs2.trans (hs3.trans hs4)), ?_⟩
      · simp only [Instr.endLoop, Sem.run_bind, run_getLoop ho3, run_setObj ho3 (by intros; simp), Result.andThen, if_neg hnb, pure, Sem.run, p2, hj]
      · have hle := (hle1.trans hle2).trans hs3.le
        exact ⟨ha.tm.mono hle, .cons (.coll (hs3.le _ _ hl1)) (ha.df.mono hle)⟩
    | panicked c => exact hq.elim
    | outgrown => exact hq.elim
end Go.Ev

namespace Go.Ev
variable {P : Program} {xk : FuncId → Option XK} {orc : Orc} {dorc : FuncId → Bool}

/-- What is owed for a region whose order is open. -/
def DrawG (P : Program) (xk : FuncId → Option XK) (orc : Orc) : Prop := ∀ (rec : Rec), RecOk P rec → ∀ (nt : Nat) (ops : Array Oper) (a b : AAct) (s s' : St) (id : Nat), okOps nt ops = true → regOk ops = true → ordOk ops 0 (ordOf ops) = true →
  evDraw P xk orc rec ops (Region.before ops) (ordOf ops) a s ⟨[], s, [], []⟩ = some (b, s') → ∀ μ w a' rr, Sim μ s w → ActR μ nt a a' → (Code.region id ops true).wpIn (fenc rr) 0 P (PostC μ s w nt .normal b s') a' w

theorem stepCode_sound (hx : XOk P xk) (ho : OrcOk P orc) (hn : NumOk P) (hdr : DrawG P xk orc) {rec : Rec} (hr : RecOk P rec) {ro : Option Nat} {fn : FuncId} {nt : Nat} {c : Code} {a : AAct} {s s' : St} {r : R}
    (hv : stepCode P xk orc rec ro fn nt c a s = some (r, s')) : Good P (.code ro fn nt c a) s r s' := by
  cases c with
  | skip =>
    simp only [stepCode, Option.some.injEq, Prod.mk.injEq] at hv
    obtain ⟨rfl, rfl⟩ := hv
    intro μ w a' rr h ha _
    exact wpIn_skip ⟨rfl, μ, Stp.refl h, ha⟩
  | exit id =>
    simp only [stepCode, Option.some.injEq, Prod.mk.injEq] at hv
    obtain ⟨rfl, rfl⟩ := hv
    intro μ w a' rr h ha _
    exact wpIn_exit ⟨rfl, μ, Stp.refl h, ha⟩
  | ret =>
    simp only [stepCode, Option.some.injEq, Prod.mk.injEq] at hv
    obtain ⟨rfl, rfl⟩ := hv
    intro μ w a' rr h ha _
    exact wpIn_ret ⟨rfl, μ, Stp.refl h, ha⟩
  | region id ops draw =>
    simp only [stepCode] at hv
    cases hok : okOps nt ops
    · simp [hok] at hv
    simp only [hok, cond_true] at hv
    cases draw with
    | true =>
      simp only [cond_true] at hv
      cases hreg : (regOk ops && ordOk ops 0 (ordOf ops))
      · simp [hreg] at hv
      simp only [hreg, cond_true, Option.bind_eq_some_iff, Option.some.injEq, Prod.mk.injEq] at hv
      obtain ⟨⟨b, s1⟩, h1, rfl, rfl⟩ := hv
      simp only [Bool.and_eq_true] at hreg
      intro μ w a' rr h ha _
      exact hdr rec hr nt ops a b s s1 id hok hreg.1 hreg.2 h1 μ w a' rr h ha
    | false =>
      simp only [cond_false, Option.bind_eq_some_iff, Option.some.injEq, Prod.mk.injEq] at hv
      obtain ⟨⟨b, s1⟩, h1, rfl, rfl⟩ := hv
      intro μ w a' rr h ha hro
      exact wpIn_region_list (evOps_sound hx ho hn hr hro hok ops.toList (fun o h => List.all_eq_true.1 hok o h) h ha h1 (fun ν w' b' hs hb => ⟨rfl, ν, hs, hb⟩))
  | seq x y =>
    simp only [stepCode] at hv
    split at hv
    · next b s1 h1 =>
      have g1 := hr _ _ _ _ h1
      have g2 := hr _ _ _ _ hv
      cases r with
      | val v => exact g2.elim
      | code e b2 =>
        intro μ w a' rr h ha hro
        refine wpIn_seq (wpIn_mono (g1 μ w a' rr h ha hro).wpIn fun x a1 w1 hq => ?_)
        obtain ⟨rfl, ν, hs, hb⟩ := hq
        refine wpIn_mono (g2 ν w1 a1 rr hs.sim hb hro).wpIn fun x a2 w2 hq => ?_
        obtain ⟨rfl, ρ, hs2, hb2⟩ := hq
        exact ⟨rfl, ρ, hs.trans hs2, hb2⟩
    · next hne =>
      have g1 := hr _ _ _ _ hv
      cases r with
      | val v => exact g1.elim
      | code e b =>
        cases e with
        | normal => exact absurd hv (hne b s')
        | exit id =>
          intro μ w a' rr h ha hro
          refine wpIn_seq (wpIn_mono (g1 μ w a' rr h ha hro).wpIn fun x a1 w1 hq => ?_)
          obtain ⟨rfl, hq⟩ := hq
          exact ⟨rfl, hq⟩
        | ret =>
          intro μ w a' rr h ha hro
          refine wpIn_seq (wpIn_mono (g1 μ w a' rr h ha hro).wpIn fun x a1 w1 hq => ?_)
          obtain ⟨rfl, hq⟩ := hq
          exact ⟨rfl, hq⟩
  | cond cc x y =>
    simp only [stepCode] at hv
    cases hok : okOpd nt cc
    · simp [hok] at hv
    simp only [hok, cond_true] at hv
    split at hv
    · next hb =>
      have g := hr _ _ _ _ hv
      cases r with
      | val v => exact g.elim
      | code e b =>
        intro μ w a' rr h ha hro
        have hcv := opd_sound h ha hok
        rw [hb] at hcv
        exact wpIn_cond_true (hcv.of_atom rfl) (g μ w a' rr h ha hro).wpIn
    · next hb =>
      have g := hr _ _ _ _ hv
      cases r with
      | val v => exact g.elim
      | code e b =>
        intro μ w a' rr h ha hro
        have hcv := opd_sound h ha hok
        rw [hb] at hcv
        exact wpIn_cond_false (hcv.of_atom rfl) (g μ w a' rr h ha hro).wpIn
    · cases hv
  | block id c =>
    simp only [stepCode] at hv
    split at hv
    · next id' b s1 h1 =>
      have g := hr _ _ _ _ h1
      simp only [beq_dec] at hv
      by_cases hid : id' = id
      · simp only [hid, decide_true, cond_true, Option.some.injEq, Prod.mk.injEq] at hv
        obtain ⟨rfl, rfl⟩ := hv
        intro μ w a' rr h ha hro
        refine wpIn_block (wpIn_mono (g μ w a' rr h ha hro).wpIn fun x a1 w1 hq => ?_)
        obtain ⟨rfl, hq⟩ := hq
        simp only [AExit.to, Exit.inBlock, hid, if_true]
        exact ⟨rfl, hq⟩
      · simp only [hid, decide_false, cond_false, Option.some.injEq, Prod.mk.injEq] at hv
        obtain ⟨rfl, rfl⟩ := hv
        intro μ w a' rr h ha hro
        refine wpIn_block (wpIn_mono (g μ w a' rr h ha hro).wpIn fun x a1 w1 hq => ?_)
        obtain ⟨rfl, hq⟩ := hq
        simp only [AExit.to, Exit.inBlock, hid, if_false]
        exact ⟨rfl, hq⟩
    · next hne =>
      have g := hr _ _ _ _ hv
      cases r with
      | val v => exact g.elim
      | code e b =>
        cases e with
        | exit id' => exact absurd hv (hne id' b s')
        | normal =>
          intro μ w a' rr h ha hro
          refine wpIn_block (wpIn_mono (g μ w a' rr h ha hro).wpIn fun x a1 w1 hq => ?_)
          obtain ⟨rfl, hq⟩ := hq
          exact ⟨rfl, hq⟩
        | ret =>
          intro μ w a' rr h ha hro
          refine wpIn_block (wpIn_mono (g μ w a' rr h ha hro).wpIn fun x a1 w1 hq => ?_)
          obtain ⟨rfl, hq⟩ := hq
          exact ⟨rfl, hq⟩
  | loop c =>
    simp only [stepCode] at hv
    split at hv
    · next b s1 h1 =>
      have g1 := hr _ _ _ _ h1
      have g2 := hr _ _ _ _ hv
      cases r with
      | val v => exact g2.elim
      | code e b2 =>
        intro μ w a' rr h ha hro
        refine loop_once (wpIn_mono (g1 μ w a' rr h ha hro).wpIn fun x a1 w1 hq => ?_)
        obtain ⟨rfl, ν, hs, hb⟩ := hq
        intro fr k cs q1 q2 q3
        obtain ⟨x, a2, w2, hq, harr⟩ := g2 ν w1 a1 rr hs.sim hb hro fr k cs q1 q2 q3
        obtain ⟨rfl, ρ, hs2, hb2⟩ := hq
        exact ⟨_, a2, w2, ⟨rfl, ρ, hs.trans hs2, hb2⟩, harr⟩
    · next hne =>
      have g1 := hr _ _ _ _ hv
      cases r with
      | val v => exact g1.elim
      | code e b =>
        cases e with
        | normal => exact absurd hv (hne b s')
        | exit id =>
          intro μ w a' rr h ha hro
          refine loop_once (wpIn_mono (g1 μ w a' rr h ha hro).wpIn fun x a1 w1 hq => ?_)
          obtain ⟨rfl, hq⟩ := hq
          exact ⟨rfl, hq⟩
        | ret =>
          intro μ w a' rr h ha hro
          refine loop_once (wpIn_mono (g1 μ w a' rr h ha hro).wpIn fun x a1 w1 hq => ?_)
          obtain ⟨rfl, hq⟩ := hq
          exact ⟨rfl, hq⟩
  | rangeFunc g ps assign body =>
    simp only [stepCode] at hv
    cases hok : okOpd nt g
    · simp [hok] at hv
    simp only [hok, cond_true] at hv
    split at hv
    · next f first cap hgv =>
      obtain ⟨first⟩ := first
      obtain ⟨cap⟩ := cap
      split at hv
      · next v s2 hrec =>
        simp only [Option.bind_eq_some_iff] at hv
        obtain ⟨lr, hlr, hv⟩ := hv
        split at hv
        · next hst hj =>
          simp only [Option.some.injEq, Prod.mk.injEq] at hv
          obtain ⟨rfl, rfl⟩ := hv
          intro μ w a' rr h ha hro
          have hrr : rr = none := by cases rr <;> simp_all
          subst hrr
          exact rangeFunc_sound hn hr h ha hok hgv hrec hlr hst hj
        · cases hv
      · cases hv
    · cases hv
  | _ => simp [stepCode] at hv

theorem step_sound (hx : XOk P xk) (ho : OrcOk P orc) (hn : NumOk P) (hd : DorcOk P dorc) (hdr : DrawG P xk orc) {rec : Rec} (hr : RecOk P rec) : RecOk P (step P xk orc dorc rec) := by
  intro t s r s' hv
  cases t with
  | code ro fn nt c a => exact stepCode_sound hx ho hn hdr hr hv
  | call f args => exact call_sound hr hv
  | round l args => exact round_sound hr hv
  | defers ds => exact defers_sound hn hd hr hv

theorem ev_sound (hx : XOk P xk) (ho : OrcOk P orc) (hn : NumOk P) (hd : DorcOk P dorc) (hdr : DrawG P xk orc) : ∀ n, RecOk P (ev P xk orc dorc n)
  | 0 => fun t s r s' h => by simp [ev] at h
  | n + 1 => fun t s r s' h => step_sound hx ho hn hd hdr (ev_sound hx ho hn hd hdr n) t s r s' h
end Go.Ev

namespace Go.Ev
variable {P : Program} {xk : FuncId → Option XK} {orc : Orc} {dorc : FuncId → Bool}

/-! ### An operation looks at its operands alone -/
theorem fallback_congr {ρ ρ' : Operand → Value} {o : Oper} (hs : ∀ cs b, o.op ≠ .select cs b) (h : ∀ x ∈ o.op.operands, ρ x = ρ' x) : fallback P ρ o = fallback P ρ' o := by
  unfold fallback
  rw [execOp_congr o hs h]
  have : o.op.operands.toList.all (fun x => closed (ρ x)) = o.op.operands.toList.all (fun x => closed (ρ' x)) :=
    Bool.eq_iff_iff.2 ⟨fun hh => List.all_eq_true.2 fun x hx => by rw [← h x (by simpa using hx)]; exact List.all_eq_true.1 hh x hx,
      fun hh => List.all_eq_true.2 fun x hx => by rw [h x (by simpa using hx)]; exact List.all_eq_true.1 hh x hx⟩
  rw [this]

theorem opts_congr {ρ ρ' : Operand → Value} {x : Option Operand} (h : ∀ y, x = some y → ρ y = ρ' y) : x.map ρ = x.map ρ' := by
  cases x with
  | none => rfl
  | some y => simp [h y rfl]
theorem parts_congr {ρ ρ' : Operand → Value} {ps : Array (Nat × Operand)} (h : ∀ x ∈ ps.map (·.2), ρ x = ρ' x) : (ps.map fun p => (p.1, ρ p.2)) = ps.map fun p => (p.1, ρ' p.2) :=
  Array.map_congr_left fun p hp => by rw [h p.2 (Array.mem_map.2 ⟨p, hp, rfl⟩)]
theorem args_congr {ρ ρ' : Operand → Value} {xs : Array Operand} (h : ∀ x ∈ xs, ρ x = ρ' x) : xs.toList.map ρ = xs.toList.map ρ' :=
  List.map_congr_left fun x hx => h x (by simpa using hx)

theorem pureOp_congr {a b : AAct} {o : Oper} (h : ∀ x ∈ o.op.operands, opd a x = opd b x) : pureOp P a o = pureOp P b o := by
  have hf : (∀ cs b, o.op ≠ .select cs b) → fallback P (opd a) o = fallback P (opd b) o := fun hs => fallback_congr hs h
  unfold pureOp
  cases hop : o.op <;> simp only [hop, Op.operands] at h hf ⊢ <;> first | rfl | skip
  case move x => rw [h x (by simp)]
  case assign x => rw [h x (by simp)]
  case pick c x y => rw [h c (by simp), h x (by simp), h y (by simp)]
  case build t ps => rw [parts_congr (fun x hx => h x (by simpa using hx))]
  case nilCheck x => rw [h x (by simp)]
  case binOp => exact hf (by simp)
  case unOp => exact hf (by simp)
  case convert => exact hf (by simp)
  case makeInterface t x => rw [h x (by simp)]
  case makeFunc fn first cap =>
    cases fn <;> first | rfl | skip
    simp only
    congr 2
    · exact Array.map_congr_left fun x hx => h x (by simp [hx])
    · exact Array.map_congr_left fun x hx => h x (by simp [hx])
  case slice t x lo hi mx =>
    rw [h x (by simp), hf (by simp), opts_congr (x := lo) (fun y hy => h y (by simp [hy])), opts_congr (x := hi) (fun y hy => h y (by simp [hy])), opts_congr (x := mx) (fun y hy => h y (by simp [hy]))]
  case fieldAddr t x f => rw [h x (by simp)]
  case field t x f => rw [h x (by simp)]
  case indexAddr t x i => rw [h x (by simp), h i (by simp)]
  case index t x i => rw [h x (by simp), h i (by simp), hf (by simp)]
  case typeAssert x t want ok => rw [h x (by simp)]
  case extract t i => rw [h t (by simp)]
  case call c => rw [args_congr (fun x hx => h x (by simp [Call.operands, hx])), hf (by simp)]

theorem pureOp'_congr {a b : AAct} {o : Oper} (h : ∀ x ∈ o.op.operands, opd a x = opd b x) : pureOp' P a o = pureOp' P b o := by
  have hp := pureOp_congr (P := P) h
  have hf : (∀ cs b, o.op ≠ .select cs b) → fallback P (opd a) o = fallback P (opd b) o := fun hs => fallback_congr hs h
  unfold pureOp'
  cases hop : o.op with
  | binOp bo t x y yt =>
    have hf := hf (by simp [hop])
    simp only [hop, Op.operands] at h
    have hx := h x (by simp)
    have hy := h y (by simp)
    cases bo <;> first | exact hp | (simp only; rw [hx, hy, hf])
  | _ => exact hp

theorem readOp_congr {a b : AAct} {o : Oper} (h : ∀ x ∈ o.op.operands, opd a x = opd b x) (s : St) : readOp P a o s = readOp P b o s := by
  unfold readOp
  cases hop : o.op <;> simp only [hop, Op.operands] at h ⊢ <;> first | rfl | skip
  case load t x => rw [h x (by simp)]
  case lookup t m k ok => rw [h m (by simp), h k (by simp)]
  case entry it => rw [h it (by simp)]
  case convert src dst x => rw [h x (by simp)]
  case call c => rw [args_congr (fun x hx => h x (by simp [Call.operands, hx]))]

theorem allocOp_congr {a b : AAct} {o : Oper} (h : ∀ x ∈ o.op.operands, opd a x = opd b x) : allocOp P a o = allocOp P b o := by
  unfold allocOp
  cases hop : o.op <;> simp only [hop, Op.operands] at h ⊢ <;> first | rfl | skip
  case box t x => rw [h x (by simp)]
  case buildSlice t len ps => rw [parts_congr (fun x hx => h x (by simpa using hx))]
  case makeMap t r => cases r <;> rfl
  case makeSlice t l c => rw [h l (by simp), h c (by simp)]

theorem effOp_congr {rec : Rec} {a b : AAct} {o : Oper} (h : ∀ x ∈ o.op.operands, opd a x = opd b x) (s : St) : effOp P xk orc rec a o s = effOp P xk orc rec b o s := by
  unfold effOp
  cases hop : o.op <;> simp only [hop, Op.operands] at h ⊢ <;> first | rfl | skip
  case store t x y => rw [h x (by simp), h y (by simp)]
  case mapUpdate t m k x => rw [h m (by simp), h k (by simp), h x (by simp)]
  case insert t m k x => rw [h m (by simp), h k (by simp), h x (by simp)]
  case convert src dst x => rw [h x (by simp)]
  case range t x => rw [h x (by simp)]
  case next it str => cases str <;> simp only <;> rw [h it (by simp)]
  case call c =>
    have hr : resolveC a c = resolveC b c := by
      unfold resolveC
      cases hc : c.callee with
      | value f => simp only [hc]; rw [h f (by simp [Call.operands, hc]), args_congr (fun x hx => h x (by simp [Call.operands, hx]))]
      | _ => rfl
    rw [args_congr (fun x hx => h x (by simp [Call.operands, hx])), hr]

theorem cls_congr {a b : AAct} {o : Oper} (h : ∀ x ∈ o.op.operands, opd a x = opd b x) : cls P a o = cls P b o := by
  unfold cls
  cases hop : o.op <;> simp only [hop, Op.operands] at h ⊢ <;> first | rfl | skip
  case convert src dst x => rw [h x (by simp)]
  case call c => rw [args_congr (fun x hx => h x (by simp [Call.operands, hx]))]
end Go.Ev

namespace Go.Ev
variable {P : Program} {xk : FuncId → Option XK} {orc : Orc}

/-! ### The run of a region, written down -/
inductive Kd where
  | skip | pure | read | eff
  | alloc (b : Blk) (f : Nat → Value)
structure Ent where
  i : Nat
  o : Oper
  k : Kd
  a : AAct
  s : St
  v : Value
  t : St

def Ent.ok (P : Program) (xk : FuncId → Option XK) (orc : Orc) (rec : Rec) (ops : Array Oper) (e : Ent) : Prop :=
  ops[e.i]? = some e.o ∧ match e.k with
  | .skip => wantedA e.a ops e.o = false ∧ e.v = undef ∧ e.t = e.s
  | .pure => wantedA e.a ops e.o = true ∧ (∀ c, e.o.op ≠ .defer c) ∧ pureOp' P e.a e.o = some e.v ∧ e.t = e.s
  | .read => wantedA e.a ops e.o = true ∧ (∀ c, e.o.op ≠ .defer c) ∧ readOp P e.a e.o e.s = some e.v ∧ e.t = e.s
  | .alloc b f => wantedA e.a ops e.o = true ∧ (∀ c, e.o.op ≠ .defer c) ∧ allocOp P e.a e.o = some (b, f) ∧ e.v = f e.s.nx ∧ e.t = newBlk e.s b
  | .eff => wantedA e.a ops e.o = true ∧ (∀ c, e.o.op ≠ .defer c) ∧ effOp P xk orc rec e.a e.o e.s = some (e.v, e.t) ∧ e.s.nx ≤ e.t.nx

def Fwd (P : Program) (bs : Array Nat) (r : RdRec) : List Ent → Prop
  | [] => True
  | e :: es => match e.k with
    | .eff => (bs.getD e.i 0).testBit r.i = true ∨ ((∃ v, readOp P r.a r.o e.t = some v ∧ vEq v r.v = true) ∧ Fwd P bs r es)
    | _ => Fwd P bs r es

def Ent.side (P : Program) (bs : Array Nat) (s0 : St) (lv : List (Nat × St)) (al : List Nat) (es : List Ent) (e : Ent) : Prop :=
  match e.k with
  | .read => backOk P (bs.getD e.i 0) ⟨e.i, e.o, e.a, e.v⟩ lv s0 = true ∧ Fwd P bs ⟨e.i, e.o, e.a, e.v⟩ es
  | .eff => (lv.all fun x => (bs.getD e.i 0).testBit x.1) = true ∧ (al.all fun x => (bs.getD e.i 0).testBit x) = true
  | _ => True

def Ent.lv (e : Ent) (lv : List (Nat × St)) : List (Nat × St) := match e.k with | .eff => (e.i, e.t) :: lv | _ => lv
def Ent.al (e : Ent) (al : List Nat) : List Nat := match e.k with | .alloc _ _ => e.i :: al | _ => al

def Chain (P : Program) (xk : FuncId → Option XK) (orc : Orc) (rec : Rec) (ops : Array Oper) (bs : Array Nat) (s0 : St) : List Ent → List (Nat × St) → List Nat → AAct → St → AAct → St → Prop
  | [], _, _, a, s, b, s' => a = b ∧ s = s'
  | e :: es, lv, al, a, s, b, s' => e.ok P xk orc rec ops ∧ e.a = a ∧ e.s = s ∧ e.side P bs s0 lv al es ∧
      Chain P xk orc rec ops bs s0 es (e.lv lv) (e.al al) (putA a e.o.dst e.v) e.t b s'

theorem fwdOk_spec {bs : Nat} {s : St} : ∀ {l rd : List RdRec}, fwdOk P bs s l = some rd → ∀ r ∈ l, bs.testBit r.i = true ∨ ((∃ v, readOp P r.a r.o s = some v ∧ vEq v r.v = true) ∧ r ∈ rd)
  | [], _, _, r, hr => by cases hr
  | x :: l, rd, h, r, hr => by
    unfold fwdOk at h
    cases hb : bs.testBit x.i
    · simp only [hb, cond_false] at h
      split at h
      · next v hv =>
        cases hq : vEq v x.v
        · simp [hq] at h
        simp only [hq, cond_true, Option.bind_eq_some_iff, Option.some.injEq] at h
        obtain ⟨l', h1, rfl⟩ := h
        rcases List.mem_cons.1 hr with rfl | hr
        · exact .inr ⟨⟨v, hv, hq⟩, List.mem_cons_self ..⟩
        · rcases fwdOk_spec h1 r hr with h2 | ⟨h2, h3⟩
          · exact .inl h2
          · exact .inr ⟨h2, List.mem_cons_of_mem _ h3⟩
      · cases h
    · simp only [hb, cond_true] at h
      rcases List.mem_cons.1 hr with rfl | hr
      · exact .inl hb
      · exact fwdOk_spec h r hr

theorem chain_of {rec : Rec} {ops : Array Oper} {bs : Array Nat} : ∀ {l : List Nat} {a : AAct} {s : St} {p : Pend} {b : AAct} {s' : St}, evDraw P xk orc rec ops bs l a s p = some (b, s') →
    ∃ es, es.map (·.i) = l ∧ Chain P xk orc rec ops bs p.s0 es p.lv p.al a s b s' ∧ ∀ r ∈ p.rd, Fwd P bs r es
  | [], a, s, p, b, s', h => by
    simp only [evDraw, Option.some.injEq, Prod.mk.injEq] at h
    exact ⟨[], rfl, h, fun _ _ => trivial⟩
  | i :: rest, a, s, p, b, s', h => by
    unfold evDraw at h
    split at h
    · cases h
    · next o ho =>
      cases hw : wantedA a ops o
      · simp only [hw, cond_false] at h
        obtain ⟨es, h1, h2, h3⟩ := chain_of h
        exact ⟨⟨i, o, .skip, a, s, undef, s⟩ :: es, by simp [h1], ⟨⟨ho, hw, rfl, rfl⟩, rfl, rfl, trivial, h2⟩, h3⟩
      · simp only [hw, cond_true] at h
        split at h
        · cases h
        · next hnd =>
          split at h
          · simp only [Option.bind_eq_some_iff] at h
            obtain ⟨v, h0, h⟩ := h
            obtain ⟨es, h1, h2, h3⟩ := chain_of h
            exact ⟨⟨i, o, .pure, a, s, v, s⟩ :: es, by simp [h1], ⟨⟨ho, hw, hnd, h0, rfl⟩, rfl, rfl, trivial, h2⟩, h3⟩
          · simp only [Option.bind_eq_some_iff] at h
            obtain ⟨v, h0, h⟩ := h
            cases hb : backOk P (bs.getD i 0) ⟨i, o, a, v⟩ p.lv p.s0
            · rw [hb] at h; cases h
            simp only [hb, cond_true] at h
            obtain ⟨es, h1, h2, h3⟩ := chain_of h
            exact ⟨⟨i, o, .read, a, s, v, s⟩ :: es, by simp [h1], ⟨⟨ho, hw, hnd, h0, rfl⟩, rfl, rfl, ⟨hb, h3 _ (List.mem_cons_self ..)⟩, h2⟩, fun r hr => h3 r (List.mem_cons_of_mem _ hr)⟩
          · simp only [Option.bind_eq_some_iff] at h
            obtain ⟨⟨bl, f⟩, h0, h⟩ := h
            obtain ⟨es, h1, h2, h3⟩ := chain_of h
            exact ⟨⟨i, o, .alloc bl f, a, s, f s.nx, newBlk s bl⟩ :: es, by simp [h1], ⟨⟨ho, hw, hnd, h0, rfl, rfl⟩, rfl, rfl, trivial, h2⟩, h3⟩
          · cases hc : (p.lv.all (fun e => (bs.getD i 0).testBit e.1) && p.al.all (fun e => (bs.getD i 0).testBit e))
            · rw [hc] at h; cases h
            simp only [hc, cond_true, Option.bind_eq_some_iff] at h
            obtain ⟨⟨v, s1⟩, h0, h⟩ := h
            simp only [ble_dec] at h
            by_cases hle : s.nx ≤ s1.nx
            · simp only [hle, decide_true, cond_true, Option.bind_eq_some_iff] at h
              obtain ⟨rd, hrd, h⟩ := h
              obtain ⟨es, h1, h2, h3⟩ := chain_of h
              simp only [Bool.and_eq_true] at hc
              refine ⟨⟨i, o, .eff, a, s, v, s1⟩ :: es, by simp [h1], ⟨⟨ho, hw, hnd, h0, hle⟩, rfl, rfl, hc, h2⟩, fun r hr => ?_⟩
              rcases fwdOk_spec hrd r hr with h4 | ⟨h4, h5⟩
              · exact .inl h4
              · exact .inr ⟨h4, h3 r h5⟩
            · simp [hle] at h
end Go.Ev

noncomputable section
namespace Go.Ev
variable {P : Program} {xk : FuncId → Option XK} {orc : Orc}

def lvAt (es : List Ent) (lv : List (Nat × St)) (q : Nat) : List (Nat × St) := (es.take q).foldl (fun lv e => e.lv lv) lv
def alAt (es : List Ent) (al : List Nat) (q : Nat) : List Nat := (es.take q).foldl (fun al e => e.al al) al
def stAt (es : List Ent) (s : St) (q : Nat) : St := (es.take q).foldl (fun _ e => e.t) s
def acAt (es : List Ent) (a : AAct) (q : Nat) : AAct := (es.take q).foldl (fun a e => putA a e.o.dst e.v) a

theorem take_step {α β : Type} (f : β → α → β) (x : β) {es : List α} {q : Nat} {e : α} (h : es[q]? = some e) : (es.take (q + 1)).foldl f x = f ((es.take q).foldl f x) e := by
  rw [List.take_add_one, h]; simp

theorem stAt_succ {es : List Ent} {s : St} {q : Nat} {e : Ent} (h : es[q]? = some e) : stAt es s (q + 1) = e.t := by simp only [stAt, take_step _ _ h]
theorem acAt_succ {es : List Ent} {a : AAct} {q : Nat} {e : Ent} (h : es[q]? = some e) : acAt es a (q + 1) = putA (acAt es a q) e.o.dst e.v := by simp only [acAt, take_step _ _ h]
theorem lvAt_succ {es : List Ent} {lv : List (Nat × St)} {q : Nat} {e : Ent} (h : es[q]? = some e) : lvAt es lv (q + 1) = e.lv (lvAt es lv q) := by simp only [lvAt, take_step _ _ h]
theorem alAt_succ {es : List Ent} {al : List Nat} {q : Nat} {e : Ent} (h : es[q]? = some e) : alAt es al (q + 1) = e.al (alAt es al q) := by simp only [alAt, take_step _ _ h]

section
variable {rec : Rec} {ops : Array Oper} {bs : Array Nat} {s0 : St}

theorem chain_idx : ∀ {es : List Ent} {lv : List (Nat × St)} {al : List Nat} {a : AAct} {s : St} {b : AAct} {s' : St}, Chain P xk orc rec ops bs s0 es lv al a s b s' →
    (∀ q e, es[q]? = some e → e.ok P xk orc rec ops ∧ e.side P bs s0 (lvAt es lv q) (alAt es al q) (es.drop (q + 1)) ∧ e.s = stAt es s q ∧ e.a = acAt es a q) ∧ b = acAt es a es.length ∧ s' = stAt es s es.length
  | [], lv, al, a, s, b, s', h => ⟨fun q e hq => by simp at hq, h.1.symm, h.2.symm⟩
  | e :: es, lv, al, a, s, b, s', h => by
    obtain ⟨h1, h2, h3, h4, h5⟩ := h
    obtain ⟨i1, i2, i3⟩ := chain_idx h5
    refine ⟨fun q e' hq => ?_, i2, i3⟩
    cases q with
    | zero =>
      simp only [List.getElem?_cons_zero, Option.some.injEq] at hq
      subst hq
      exact ⟨h1, h4, h3, h2⟩
    | succ q =>
      simp only [List.getElem?_cons_succ] at hq
      exact i1 q e' hq

/-- What the rest asks of the run that is written down. -/
structure Run (P : Program) (xk : FuncId → Option XK) (orc : Orc) (rec : Rec) (ops : Array Oper) (bs : Array Nat) (a0 : AAct) (s0 : St) (es : List Ent) : Prop where
  ok : ∀ (q : Nat) (e : Ent), es[q]? = some e → e.ok P xk orc rec ops
  st : ∀ (q : Nat) (e : Ent), es[q]? = some e → e.s = stAt es s0 q
  ac : ∀ (q : Nat) (e : Ent), es[q]? = some e → e.a = acAt es a0 q
  eff : ∀ (q : Nat) (e : Ent), es[q]? = some e → e.k = .eff → ∀ (q' : Nat) (e' : Ent), q' < q → es[q']? = some e' → (e'.k = .eff ∨ ∃ b f, e'.k = .alloc b f) → (bs.getD e.i 0).testBit e'.i = true
  read : ∀ (q : Nat) (e : Ent), es[q]? = some e → e.k = .read → ∀ k, (k = 0 ∨ ∃ f : Ent, es[k - 1]? = some f ∧ f.k = .eff) →
    (∀ (q' : Nat) (e' : Ent), k ≤ q' → q' < q → es[q']? = some e' → e'.k = .eff → (bs.getD e.i 0).testBit e'.i = false) →
    (∀ (q' : Nat) (e' : Ent), q < q' → q' < k → es[q']? = some e' → e'.k = .eff → (bs.getD e'.i 0).testBit e.i = false) →
    ∃ v, readOp P e.a e.o (stAt es s0 k) = some v ∧ vEq v e.v = true

theorem mem_lvAt {es : List Ent} : ∀ (q : Nat) {q' : Nat} {e' : Ent}, q ≤ es.length → q' < q → es[q']? = some e' → e'.k = .eff → (e'.i, e'.t) ∈ lvAt es [] q
  | 0, q', _, _, h, _, _ => by omega
  | q + 1, q', e', hq, h, he, hk => by
    obtain ⟨e, hee⟩ : ∃ e, es[q]? = some e := ⟨es[q], List.getElem?_eq_getElem (by omega)⟩
    rw [lvAt_succ hee]
    by_cases hqq : q' = q
    · subst hqq
      rw [hee] at he; injection he with he; subst he
      simp [Ent.lv, hk]
    · have := mem_lvAt q (by omega) (by omega) he hk
      unfold Ent.lv
      split
      · exact List.mem_cons_of_mem _ this
      · exact this
theorem mem_alAt {es : List Ent} : ∀ (q : Nat) {q' : Nat} {e' : Ent}, q ≤ es.length → q' < q → es[q']? = some e' → (∃ b f, e'.k = .alloc b f) → e'.i ∈ alAt es [] q
  | 0, q', _, _, h, _, _ => by omega
  | q + 1, q', e', hq, h, he, hk => by
    obtain ⟨e, hee⟩ : ∃ e, es[q]? = some e := ⟨es[q], List.getElem?_eq_getElem (by omega)⟩
    rw [alAt_succ hee]
    by_cases hqq : q' = q
    · subst hqq
      rw [hee] at he; injection he with he; subst he
      obtain ⟨b, f, hk⟩ := hk
      simp [Ent.al, hk]
    · have := mem_alAt q (by omega) (by omega) he hk
      unfold Ent.al
      split
      · exact List.mem_cons_of_mem _ this
      · exact this

theorem back_spec {es : List Ent} {bb : Nat} {r : RdRec} (k : Nat) : ∀ (d : Nat), k + d ≤ es.length → (∀ q' e', k ≤ q' → q' < k + d → es[q']? = some e' → e'.k = .eff → bb.testBit e'.i = false) →
    backOk P bb r (lvAt es [] (k + d)) s0 = true → backOk P bb r (lvAt es [] k) s0 = true
  | 0, _, _, h => h
  | d + 1, hl, hn, h => by
    obtain ⟨e, hee⟩ : ∃ e, es[k + d]? = some e := ⟨es[k + d], List.getElem?_eq_getElem (by omega)⟩
    rw [show k + (d + 1) = (k + d) + 1 by omega, lvAt_succ hee] at h
    refine back_spec k d (by omega) (fun q' e' h1 h2 => hn q' e' h1 (by omega)) ?_
    unfold Ent.lv at h
    split at h
    · next hk =>
      have := hn (k + d) e (by omega) (by omega) hee hk
      simp only [backOk, this, Bool.false_or, Bool.and_eq_true] at h
      exact h.2
    · exact h

theorem fwd_spec {es : List Ent} {r : RdRec} {f : Ent} : ∀ (d q : Nat), es[q + d]? = some f → f.k = .eff → (∀ q' e', q ≤ q' → q' ≤ q + d → es[q']? = some e' → e'.k = .eff → (bs.getD e'.i 0).testBit r.i = false) →
    Fwd P bs r (es.drop q) → ∃ v, readOp P r.a r.o f.t = some v ∧ vEq v r.v = true
  | 0, q, hf, hk, hn, h => by
    simp only [Nat.add_zero] at hf
    have hlt : q < es.length := by
      rcases Nat.lt_or_ge q es.length with h | h
      · exact h
      · simp [List.getElem?_eq_none h] at hf
    rw [List.drop_eq_getElem_cons hlt] at h
    have he : es[q] = f := by rw [List.getElem?_eq_getElem hlt] at hf; exact Option.some.inj hf
    rw [he] at h
    simp only [Fwd, hk] at h
    rcases h with h | h
    · rw [hn q f (Nat.le_refl _) (Nat.le_refl _) hf hk] at h; cases h
    · exact h.1
  | d + 1, q, hf, hk, hn, h => by
    have hlt : q < es.length := by
      rcases Nat.lt_or_ge q es.length with h | h
      · exact h
      · simp [List.getElem?_eq_none (show es.length ≤ q + (d + 1) by omega)] at hf
    rw [List.drop_eq_getElem_cons hlt] at h
    refine fwd_spec d (q + 1) (by rw [show q + 1 + d = q + (d + 1) by omega]; exact hf) hk (fun q' e' h1 h2 => hn q' e' (by omega) (by omega)) ?_
    unfold Fwd at h
    split at h
    · next hke =>
      rcases h with h | h
      · rw [hn q es[q] (Nat.le_refl _) (by omega) (List.getElem?_eq_getElem hlt) hke] at h; cases h
      · exact h.2
    · exact h

theorem run_of {es : List Ent} {a b : AAct} {s' : St} (h : Chain P xk orc rec ops bs s0 es [] [] a s0 b s') : Run P xk orc rec ops bs a s0 es := by
  obtain ⟨h1, h2, h3⟩ := chain_idx h
  have hlt : ∀ q e, es[q]? = some e → q < es.length := fun q e hq => by
    rcases Nat.lt_or_ge q es.length with h | h
    · exact h
    · simp [List.getElem?_eq_none h] at hq
  refine ⟨fun q e hq => (h1 q e hq).1, fun q e hq => (h1 q e hq).2.2.1, fun q e hq => (h1 q e hq).2.2.2, fun q e hq hk q' e' hq' he' hk' => ?_, fun q e hq hk k hb hn1 hn2 => ?_⟩
  · have hs := (h1 q e hq).2.1
    simp only [Ent.side, hk] at hs
    have hl := hlt q e hq
    rcases hk' with hke | hke
    · exact List.all_eq_true.1 hs.1 _ (mem_lvAt q (by omega) hq' he' hke)
    · exact List.all_eq_true.1 hs.2 _ (mem_alAt q (by omega) hq' he' hke)
  · have hs := (h1 q e hq).2.1
    simp only [Ent.side, hk] at hs
    have hl := hlt q e hq
    rcases Nat.lt_or_ge q k with hqk | hqk
    · rcases hb with rfl | ⟨f, hf, hfk⟩
      · omega
      · have hne : k - 1 ≠ q := fun he => by
          rw [he, hq] at hf; injection hf with hf; subst hf; rw [hk] at hfk; cases hfk
        have := fwd_spec (P := P) (bs := bs) (r := ⟨e.i, e.o, e.a, e.v⟩) (k - 1 - (q + 1)) (q + 1) (by rw [show q + 1 + (k - 1 - (q + 1)) = k - 1 by omega]; exact hf) hfk
          (fun q' e' g1 g2 g3 g4 => hn2 q' e' (by omega) (by omega) g3 g4) hs.2
        have hst : stAt es s0 k = f.t := by
          have := stAt_succ (s := s0) hf
          rwa [show k - 1 + 1 = k by omega] at this
        rw [hst]; exact this
    · have hbk := back_spec (P := P) (s0 := s0) (es := es) k (q - k) (by omega) (fun q' e' g1 g2 g3 g4 => hn1 q' e' g1 (by omega) g3 g4) (by rw [show k + (q - k) = q by omega]; exact hs.1)
      rcases hb with rfl | ⟨f, hf, hfk⟩
      · simp only [lvAt, List.take_zero, List.foldl_nil, backOk] at hbk
        simp only [stAt, List.take_zero, List.foldl_nil]
        split at hbk
        · next v hv => exact ⟨v, hv, hbk⟩
        · cases hbk
      · by_cases hk0 : k = 0
        · subst hk0
          simp only [lvAt, List.take_zero, List.foldl_nil, backOk] at hbk
          simp only [stAt, List.take_zero, List.foldl_nil]
          split at hbk
          · next v hv => exact ⟨v, hv, hbk⟩
          · cases hbk
        · have e1 : lvAt es [] k = (f.i, f.t) :: lvAt es [] (k - 1) := by
            have := lvAt_succ (lv := []) hf
            rw [show k - 1 + 1 = k by omega] at this
            rw [this]; simp [Ent.lv, hfk]
          have hst : stAt es s0 k = f.t := by
            have := stAt_succ (s := s0) hf
            rwa [show k - 1 + 1 = k by omega] at this
          rw [e1] at hbk
          simp only [backOk, Bool.and_eq_true] at hbk
          rw [hst]
          have hbk := hbk.1
          split at hbk
          · next v hv => exact ⟨v, hv, hbk⟩
          · cases hbk
end
end Go.Ev
end

namespace Go.Ev
variable {P : Program}

theorem ordOk_spec {ops : Array Oper} : ∀ (l : List Nat) (done : Nat), ordOk ops done l = true →
    (∀ (q i : Nat), l[q]? = some i → ∃ o, ops[i]? = some o ∧ done.testBit i = false ∧ (∀ q', q' < q → l[q']? ≠ some i) ∧ ∀ x ∈ o.after, Region.binds .any x = true → done.testBit x.on = true ∨ ∃ q', q' < q ∧ l[q']? = some x.on) ∧
    (∀ i, i < ops.size → done.testBit i = true ∨ ∃ q : Nat, l[q]? = some i)
  | [], done, h => by
    refine ⟨fun q i hq => by simp at hq, fun i hi => .inl ?_⟩
    simp only [ordOk] at h
    exact List.all_eq_true.1 h i (by simpa using hi)
  | j :: l, done, h => by
    unfold ordOk at h
    split at h
    · next o ho =>
      simp only [Bool.and_eq_true, Bool.not_eq_true'] at h
      obtain ⟨⟨h1, h2⟩, h3⟩ := h
      obtain ⟨i1, i2⟩ := ordOk_spec l _ h3
      have tb : ∀ i, (done ||| 2 ^ j).testBit i = true → done.testBit i = true ∨ i = j := fun i hi => by
        rw [Nat.testBit_or, Bool.or_eq_true] at hi
        rcases hi with hi | hi
        · exact .inl hi
        · rw [Nat.testBit_two_pow] at hi
          exact .inr (of_decide_eq_true hi).symm
      refine ⟨fun q i hq => ?_, fun i hi => ?_⟩
      · cases q with
        | zero =>
          simp only [List.getElem?_cons_zero, Option.some.injEq] at hq
          subst hq
          refine ⟨o, ho, h1, fun q' hq' => by omega, fun x hx hb => .inl ?_⟩
          simp only [readyIn] at h2
          have := List.all_eq_true.1 h2 x (by simpa using hx)
          simpa [hb] using this
        | succ q =>
          simp only [List.getElem?_cons_succ] at hq
          obtain ⟨o', g1, g2, g3, g4⟩ := i1 q i hq
          have g2' : done.testBit i = false ∧ i ≠ j := by
            rw [Nat.testBit_or, Bool.or_eq_false_iff, Nat.testBit_two_pow] at g2
            exact ⟨g2.1, fun he => by have := g2.2; simp [he] at this⟩
          refine ⟨o', g1, g2'.1, fun q' hq' => ?_, fun x hx hb => ?_⟩
          · cases q' with
            | zero => simp only [List.getElem?_cons_zero]; intro he; injection he with he; exact g2'.2 he.symm
            | succ q' => simp only [List.getElem?_cons_succ]; exact g3 q' (by omega)
          · rcases g4 x hx hb with g | ⟨q', g, g'⟩
            · rcases tb _ g with g | g
              · exact .inl g
              · exact .inr ⟨0, by omega, by simp [g]⟩
            · exact .inr ⟨q' + 1, by omega, by simpa using g'⟩
      · rcases i2 i hi with g | ⟨q, g⟩
        · rcases tb _ g with g | g
          · exact .inl g
          · exact .inr ⟨0, by simp [g]⟩
        · exact .inr ⟨q + 1, by simpa using g⟩
    · cases h

theorem push_fold {α β : Type} (g : Array β → α → β) (z : β) : ∀ (l : List α) (A : Array β) (k : Nat), 
    (k < A.size → (l.foldl (fun acc o => acc.push (g acc o)) A).getD k z = A.getD k z) ∧
    (∀ (r : Nat) (o : α), l[r]? = some o → k = A.size + r → ∃ B : Array β, B.size = k ∧ (∀ m, m < k → B.getD m z = (l.foldl (fun acc o => acc.push (g acc o)) A).getD m z) ∧ (l.foldl (fun acc o => acc.push (g acc o)) A).getD k z = g B o)
  | [], A, k => ⟨fun _ => rfl, fun r o h => by simp at h⟩
  | x :: l, A, k => by
    simp only [List.foldl_cons]
    refine ⟨fun hk => ?_, fun r o hr hk => ?_⟩
    · rw [(push_fold g z l (A.push (g A x)) k).1 (by simp; omega)]
      simp [Array.getD_eq_getD_getElem?, Array.getElem?_push, Nat.ne_of_lt hk]
    · cases r with
      | zero =>
        simp only [List.getElem?_cons_zero, Option.some.injEq] at hr
        subst hr
        refine ⟨A, by omega, fun m hm => ?_, ?_⟩
        · rw [(push_fold g z l (A.push (g A x)) m).1 (by simp; omega)]
          simp [Array.getD_eq_getD_getElem?, Array.getElem?_push, show m ≠ A.size by omega]
        · rw [(push_fold g z l (A.push (g A x)) k).1 (by simp; omega)]
          simp [Array.getD_eq_getD_getElem?, Array.getElem?_push, hk]
      | succ r =>
        simp only [List.getElem?_cons_succ] at hr
        exact (push_fold g z l (A.push (g A x)) k).2 r o hr (by simp; omega)

theorem fold_or (f : Edge → Nat) (j : Nat) : ∀ (l : List Edge) (s : Nat), (l.foldl (fun s e => if Region.binds .any e then s ||| 2 ^ e.on ||| f e else s) s).testBit j = true →
    s.testBit j = true ∨ ∃ x ∈ l, Region.binds .any x = true ∧ (x.on = j ∨ (f x).testBit j = true)
  | [], s, h => .inl h
  | e :: l, s, h => by
    simp only [List.foldl_cons] at h
    rcases fold_or f j l _ h with h | ⟨x, h1, h2⟩
    · by_cases hb : Region.binds .any e = true
      · rw [if_pos hb, Nat.testBit_or, Nat.testBit_or, Bool.or_eq_true, Bool.or_eq_true] at h
        rcases h with (h | h) | h
        · exact .inl h
        · rw [Nat.testBit_two_pow] at h
          exact .inr ⟨e, List.mem_cons_self .., hb, .inl (of_decide_eq_true h)⟩
        · exact .inr ⟨e, List.mem_cons_self .., hb, .inr h⟩
      · rw [if_neg hb] at h; exact .inl h
    · exact .inr ⟨x, List.mem_cons_of_mem _ h1, h2⟩

theorem before_spec {ops : Array Oper} {i j : Nat} {o : Oper} (ho : ops[i]? = some o) (h : ((Region.before ops).getD i 0).testBit j = true) :
    ∃ x ∈ o.after, Region.binds .any x = true ∧ (x.on = j ∨ (x.on < i ∧ ((Region.before ops).getD x.on 0).testBit j = true)) := by
  have ho' : ops.toList[i]? = some o := by simpa using ho
  unfold Region.before at h ⊢
  rw [← Array.foldl_toList] at h ⊢
  obtain ⟨B, h1, h2, h3⟩ := (push_fold (fun (acc : Array Nat) (o : Oper) => o.after.foldl (fun s e => if Region.binds .any e then s ||| 2 ^ e.on ||| acc.getD e.on 0 else s) 0) 0 ops.toList #[] i).2 i o ho' (by simp)
  rw [h3, ← Array.foldl_toList] at h
  rcases fold_or (fun e => B.getD e.on 0) j _ _ h with h | ⟨x, g1, g2, g3⟩
  · simp at h
  · refine ⟨x, by simpa using g1, g2, ?_⟩
    rcases g3 with g3 | g3
    · exact .inl g3
    · have hlt : x.on < i := by
        rcases Nat.lt_or_ge x.on i with h | h
        · exact h
        · have : B.getD x.on 0 = 0 := by simp [Array.getD_eq_getD_getElem?, Array.getElem?_eq_none (show B.size ≤ x.on by omega)]
          simp [this] at g3
      exact .inr ⟨hlt, by rw [← h2 _ hlt]; exact g3⟩

/-- A set that holds, with an operation, all that it waits for. -/
def Closed (ops : Array Oper) (L : Nat → Prop) : Prop := ∀ (i : Nat) (o : Oper), ops[i]? = some o → L i → ∀ x ∈ o.after, Region.binds .any x = true → L x.on

theorem closed_before {ops : Array Oper} {L : Nat → Prop} (hL : Closed ops L) : ∀ (i : Nat) (o : Oper) (j : Nat), ops[i]? = some o → (∀ x ∈ o.after, Region.binds .any x = true → L x.on) → ((Region.before ops).getD i 0).testBit j = true → L j := by
  intro i
  induction i using Nat.strongRecOn with
  | _ i ih =>
    intro o j ho hr hb
    obtain ⟨x, h1, h2, h3⟩ := before_spec ho hb
    have hx := hr x h1 h2
    rcases h3 with rfl | ⟨h3, h4⟩
    · exact hx
    · have hlt : x.on < ops.size := by
        have : i < ops.size := (Array.getElem?_eq_some_iff.1 ho).1
        omega
      have hox : ops[x.on]? = some ops[x.on] := Array.getElem?_eq_getElem hlt
      exact ih x.on h3 _ j hox (fun y hy hyb => hL _ _ hox hx y hy hyb) h4

theorem regPair_spec {ops : Array Oper} {b i : Nat} {o : Oper} : ∀ (l : List Oper) (j : Nat), regPair ops b i o j l = true → ∀ (r : Nat) (p : Oper), l[r]? = some p → j + r < i →
    p.apart ops o = true ∨ (b.testBit (j + r) = true ∧ ∀ d, p.dst = some d → o.dst ≠ some d)
  | [], _, _, r, p, h, _ => by simp at h
  | x :: l, j, h, r, p, hr, hlt => by
    unfold regPair at h
    have hj : Nat.blt j i = true := by simp; omega
    simp only [hj, cond_true, Bool.and_eq_true, Bool.or_eq_true] at h
    obtain ⟨h1, h2⟩ := h
    cases r with
    | zero =>
      simp only [List.getElem?_cons_zero, Option.some.injEq] at hr
      subst hr
      rcases h1 with h1 | ⟨h1, h3⟩
      · exact .inl h1
      · refine .inr ⟨h1, fun d hd => ?_⟩
        rw [hd] at h3
        simpa using h3
    | succ r =>
      simp only [List.getElem?_cons_succ] at hr
      have := regPair_spec l (j + 1) h2 r p hr (by omega)
      rwa [show j + 1 + r = j + (r + 1) by omega] at this

structure RegS (ops : Array Oper) : Prop where
  edge : ∀ (i : Nat) (o : Oper), ops[i]? = some o → ∀ x ∈ o.after, Region.binds .any x = true → x.on < i
  guard : ∀ (i : Nat) (o : Oper) (j : Nat) (w : Bool), ops[i]? = some o → o.guard = some (j, w) → ∃ x ∈ o.after, Region.binds .any x = true ∧ x.on = j
  pair : ∀ (i : Nat) (o : Oper) (j : Nat) (p : Oper), ops[i]? = some o → ops[j]? = some p → j < i → p.apart ops o = true ∨ (((Region.before ops).getD i 0).testBit j = true ∧ ∀ d, p.dst = some d → o.dst ≠ some d)

theorem regAll_spec {ops : Array Oper} {b : Array Nat} : ∀ (l : List Oper) (i : Nat), regAll ops b i l = true → ∀ (r : Nat) (o : Oper), l[r]? = some o →
    (∀ x ∈ o.after, Region.binds .any x = true → x.on < i + r) ∧ (∀ j w, o.guard = some (j, w) → ∃ x ∈ o.after, Region.binds .any x = true ∧ x.on = j) ∧ regPair ops (b.getD (i + r) 0) (i + r) o 0 ops.toList = true
  | [], _, _, r, o, h => by simp at h
  | y :: l, i, h, r, o, hr => by
    unfold regAll at h
    simp only [Bool.and_eq_true] at h
    obtain ⟨⟨⟨h1, h2⟩, h3⟩, h4⟩ := h
    cases r with
    | zero =>
      simp only [List.getElem?_cons_zero, Option.some.injEq] at hr
      subst hr
      refine ⟨fun x hx hb => ?_, fun j w hg => ?_, h3⟩
      · have := List.all_eq_true.1 h1 x (by simpa using hx)
        simpa [hb] using this
      · simp only [hg] at h2
        obtain ⟨x, g1, g2⟩ := List.any_eq_true.1 h2
        simp only [Bool.and_eq_true, beq_dec, decide_eq_true_eq] at g2
        exact ⟨x, by simpa using g1, g2.2, g2.1⟩
    | succ r =>
      simp only [List.getElem?_cons_succ] at hr
      have := regAll_spec l (i + 1) h4 r o hr
      rwa [show i + 1 + r = i + (r + 1) by omega] at this

theorem regOk_spec {ops : Array Oper} (h : regOk ops = true) : RegS ops := by
  have key := regAll_spec ops.toList 0 h
  refine ⟨fun i o ho x hx hb => ?_, fun i o j w ho hg => ?_, fun i o j p ho hp hlt => ?_⟩
  · have := (key i o (by simpa using ho)).1 x hx hb; simpa using this
  · exact (key i o (by simpa using ho)).2.1 j w hg
  · have h1 := (key i o (by simpa using ho)).2.2
    simp only [Nat.zero_add] at h1
    have := regPair_spec ops.toList 0 h1 j p (by simpa using hp) (by omega)
    simpa using this
end Go.Ev

namespace Go.Ev
variable {P : Program} {xk : FuncId → Option XK} {orc : Orc}

/-! ### Renamings cut short -/
def cut (μ : Ren) (n : Nat) : Ren := fun i => if i < n then μ i else none
theorem cut_le (μ : Ren) (n : Nat) : (cut μ n).le μ := fun i l h => by
  unfold cut at h; split at h
  · exact h
  · cases h
theorem cut_mono (μ : Ren) {n m : Nat} (h : n ≤ m) : (cut μ n).le (cut μ m) := fun i l hi => by
  unfold cut at hi ⊢; split at hi
  · rw [if_pos (by omega)]; exact hi
  · cases hi
theorem cut_of_le {μ ν : Ren} (h : μ.le ν) (n : Nat) : (cut μ n).le (cut ν n) := fun i l hi => by
  unfold cut at hi ⊢; split at hi
  · next hlt => rw [if_pos hlt]; exact h _ _ hi
  · cases hi
theorem le_cut {μ ν : Ren} (h : μ.le ν) {n : Nat} (hn : ∀ i, n ≤ i → μ i = none) : μ.le (cut ν n) := fun i l hi => by
  unfold cut
  rw [if_pos]
  · exact h _ _ hi
  · rcases Nat.lt_or_ge i n with h' | h'
    · exact h'
    · rw [hn i h'] at hi; cases hi
theorem cut_lt {μ : Ren} {n i : Nat} (h : i < n) : cut μ n i = μ i := by simp [cut, h]
theorem cut_add (μ : Ren) {n : Nat} {l : Loc} (h : μ n = some l) : cut μ (n + 1) = (cut μ n).add n l := by
  funext i
  unfold cut Ren.add
  by_cases hi : i = n
  · subst hi; simp [h]
  · by_cases h2 : i < n
    · rw [if_pos (by omega), if_neg hi]; show _ = if i < n then μ i else none; rw [if_pos h2]
    · rw [if_neg (by omega), if_neg hi]; show _ = if i < n then μ i else none; rw [if_neg h2]

/-! ### More memory than is looked at -/
theorem Stp.push {μ ν : Ren} {s t : St} {w v u : World} (h : Stp μ s w ν t v) {o : Obj} (hh : u.heap = v.heap.push o) (ho : u.os = v.os) (ht : u.tape = v.tape) (hp : u.output = v.output) : Stp μ s w ν t u := by
  have hget : ∀ b, b < v.heap.size → u.heap[b]? = v.heap[b]? := fun b hb => by rw [hh, heap_push, if_neg (by omega)]
  refine ⟨h.le, ⟨fun i b hi => ?_, h.sim.inj, h.sim.nxt, h.sim.glob, h.sim.nxb⟩, h.nx, by rw [hh]; simp; have := h.size; omega, fun b hb hn => ?_, h.foot, h.fresh, ho.trans h.os, ht.trans h.tape, hp.trans h.out⟩
  · obtain ⟨l, h1, h2⟩ := h.sim.live i b hi
    exact ⟨l, h1, by rw [hget _ (h.sim.lt hi h1)]; exact h2⟩
  · rw [hget b (Nat.lt_of_lt_of_le hb h.size)]; exact h.keep b hb hn

theorem Stp.join {μ ν : Ren} {s t : St} {w v : World} (h : Stp μ s w ν t v) {lo : Loc} {b : Blk} (hb : BlkR (ν.add t.nx lo) lo (v.heap[lo.blk]?) b) (hn : w.heap.size ≤ lo.blk)
    (hd : ∀ x c lx, t.hp.get x = some c → ν x = some lx → lx.blk ≠ lo.blk) : Stp μ s w (ν.add t.nx lo) (newBlk t b) v := by
  have hnone := h.sim.nxt t.nx (Nat.le_refl _)
  have hle := Ren.le_add hnone lo
  have hget : ∀ i c, (newBlk t b).hp.get i = some c → (i = t.nx ∧ c = b) ∨ (i ≠ t.nx ∧ t.hp.get i = some c) := fun i c hi => by
    simp only [newBlk, Tr.get_set] at hi
    by_cases h : i = t.nx
    · rw [if_pos h] at hi; injection hi with hi; exact .inl ⟨h, hi.symm⟩
    · rw [if_neg h] at hi; exact .inr ⟨h, hi⟩
  refine ⟨h.le.trans hle, ⟨fun i c hi => ?_, fun i j c d li lj hi hj hli hlj he => ?_, fun i hi => ?_, fun g hg => ?_, ?_⟩, ?_, h.size, h.keep, fun i c l hi hl => ?_, fun i l h1 h2 => ?_, h.os, h.tape, h.out⟩
  · rcases hget i c hi with ⟨rfl, rfl⟩ | ⟨hne, hi⟩
    · exact ⟨lo, Ren.add_self .., hb⟩
    · obtain ⟨l, h1, h2⟩ := h.sim.live i c hi
      exact ⟨l, hle _ _ h1, h2.mono hle⟩
  · rcases hget i c hi with ⟨e1, _⟩ | ⟨hne, hi⟩ <;> rcases hget j d hj with ⟨e2, _⟩ | ⟨hne', hj⟩
    · rw [e1, e2]
    · subst e1; rw [Ren.add_self] at hli; injection hli with hli
      rw [Ren.add_ne _ _ hne'] at hlj
      exact absurd (hli ▸ he.symm) (hd j d lj hj hlj)
    · subst e2; rw [Ren.add_self] at hlj; injection hlj with hlj
      rw [Ren.add_ne _ _ hne] at hli
      exact absurd (hlj ▸ he) (hd i c li hi hli)
    · rw [Ren.add_ne _ _ hne] at hli
      rw [Ren.add_ne _ _ hne'] at hlj
      exact h.sim.inj i j c d li lj hi hj hli hlj he
  · have hi' : t.nx + 1 ≤ i := hi
    rw [Ren.add_ne _ _ (by omega)]; exact h.sim.nxt i (by omega)
  · obtain ⟨l, h1, h2⟩ := h.sim.glob g hg
    exact ⟨l, hle _ _ h1, h2⟩
  · have := h.sim.nxb; show base ≤ t.nx + 1; omega
  · have := h.nx; show s.nx ≤ t.nx + 1; omega
  · rcases hget i c hi with ⟨rfl, rfl⟩ | ⟨hne, hi⟩
    · rw [Ren.add_self] at hl; injection hl with hl; subst hl; exact .inl hn
    · rw [Ren.add_ne _ _ hne] at hl; exact h.foot i c l hi hl
  · by_cases hi : i = t.nx
    · subst hi; exact h.nx
    · rw [Ren.add_ne _ _ hi] at h2; exact h.fresh i l h1 h2

theorem Sim.more {ν μ : Ren} {t : St} {v : World} (h : Sim ν t v) (hle : ν.le μ) {n : Nat} (hn : ∀ i, n ≤ i → μ i = none) (hb : base ≤ n) : Sim μ ⟨t.hp, n⟩ v := by
  refine ⟨fun i b hi => ?_, fun i j b c li lj hi hj hli hlj he => ?_, hn, fun g hg => ?_, hb⟩
  · obtain ⟨l, h1, h2⟩ := h.live i b hi
    exact ⟨l, hle _ _ h1, h2.mono hle⟩
  · obtain ⟨l1, h1, _⟩ := h.live i b hi
    obtain ⟨l2, h2, _⟩ := h.live j c hj
    have e1 := hle _ _ h1
    have e2 := hle _ _ h2
    rw [hli] at e1; injection e1 with e1
    rw [hlj] at e2; injection e2 with e2
    subst e1 e2
    exact h.inj i j b c li lj hi hj h1 h2 he
  · obtain ⟨l, h1, h2⟩ := h.glob g hg
    exact ⟨l, hle _ _ h1, h2⟩

/-! ### Equality, as the evaluator tells it -/
theorem addrEq_eq {a b : Option Addr} (h : addrEq a b = true) : a = b := by
  unfold addrEq at h
  split at h
  · rfl
  · simp only [beq_dec, Bool.and_eq_true, decide_eq_true_eq] at h; rw [h.1, h.2]
  · cases h
theorem natEq_eq {a b : Option Nat} (h : natEq a b = true) : a = b := by
  unfold natEq at h
  split at h
  · rfl
  · simp only [beq_dec, decide_eq_true_eq] at h; rw [h]
  · cases h
theorem bytesEq_eq : ∀ {a b : List UInt8}, bytesEq a b = true → a = b
  | [], [], _ => rfl
  | [], _ :: _, h => by simp [bytesEq] at h
  | _ :: _, [], h => by simp [bytesEq] at h
  | a :: as, b :: bs, h => by
    simp only [bytesEq, Bool.and_eq_true, beq_dec, decide_eq_true_eq] at h
    rw [UInt8.toNat_inj.1 h.1, bytesEq_eq h.2]
theorem scEq_eq {a b : Value} (h : scEq a b = true) : a = b := by
  unfold scEq at h
  split at h <;> (try simp only [Bool.and_eq_true, decide_eq_true_eq, beq_dec, beq_iff_eq] at h) <;> first | rfl | (rw [h]; done) | (rw [bytesEq_eq h]; done) | (rw [h.1, h.2]; done) | (rw [addrEq_eq h]; done) | (rw [addrEq_eq h.1.1, h.1.2, h.2]; done) | (rw [natEq_eq h]; done) | (cases h; done)
theorem scsEq_eq : ∀ {a b : List Value}, scsEq a b = true → a = b
  | [], [], _ => rfl
  | [], _ :: _, h => by simp [scsEq] at h
  | _ :: _, [], h => by simp [scsEq] at h
  | a :: as, b :: bs, h => by
    simp only [scsEq, Bool.and_eq_true] at h
    rw [scEq_eq h.1, scsEq_eq h.2]
theorem fcEq_eq {a b : Value} (h : fcEq a b = true) : a = b := by
  unfold fcEq at h
  split at h
  · simp only [Bool.and_eq_true, beq_dec, decide_eq_true_eq] at h
    rw [h.1.1, scsEq_eq h.1.2, scsEq_eq h.2]
  · simp only [Bool.and_eq_true, beq_dec, decide_eq_true_eq] at h
    rw [h.1, scEq_eq h.2]
  · exact scEq_eq h
theorem fcsEq_eq : ∀ {a b : List Value}, fcsEq a b = true → a = b
  | [], [], _ => rfl
  | [], _ :: _, h => by simp [fcsEq] at h
  | _ :: _, [], h => by simp [fcsEq] at h
  | a :: as, b :: bs, h => by
    simp only [fcsEq, Bool.and_eq_true] at h
    rw [fcEq_eq h.1, fcsEq_eq h.2]
theorem vEq1_eq {a b : Value} (h : vEq1 a b = true) : a = b := by
  unfold vEq1 at h
  split at h
  · rw [fcsEq_eq h]
  · exact fcEq_eq h
theorem vsEq1_eq : ∀ {a b : List Value}, vsEq1 a b = true → a = b
  | [], [], _ => rfl
  | [], _ :: _, h => by simp [vsEq1] at h
  | _ :: _, [], h => by simp [vsEq1] at h
  | a :: as, b :: bs, h => by
    simp only [vsEq1, Bool.and_eq_true] at h
    rw [vEq1_eq h.1, vsEq1_eq h.2]
theorem vEq_eq {a b : Value} (h : vEq a b = true) : a = b := by
  unfold vEq at h
  split at h
  · rw [vsEq1_eq h]
  · exact vEq1_eq h

/-- 'wanted', from the guard's temporary alone -/
theorem wanted_of {μ : Ren} {a : AAct} {a' : Act} {ops : Array Oper} {o : Oper} (h : ∀ j w oj d, o.guard = some (j, w) → ops[j]? = some oj → oj.dst = some d → d < a'.tmps.size ∧ VR μ (a.tmp d) (a'.tmps.getD d undef)) :
    Region.wanted o (yielded ops a'.tmps) = wantedA a ops o := by
  unfold Region.wanted wantedA
  cases hg : o.guard with
  | none => rfl
  | some p =>
    obtain ⟨j, want⟩ := p
    simp only [yielded]
    cases hj : ops[j]? with
    | none => simp
    | some oj =>
      cases hd : oj.dst with
      | none => simp [hd]
      | some d =>
        obtain ⟨h1, hv⟩ := h j want oj d hg hj hd
        have hget : a'.tmps[d]? = some (a'.tmps.getD d undef) := by simp [Array.getD, h1]
        simp only [Option.bind_some, hd, hget]
        generalize a.tmp d = x at hv
        generalize a'.tmps.getD d undef = x' at hv
        cases hv with
        | atom h => cases x <;> first | rfl | (simp; done)
        | _ => rfl
end Go.Ev
