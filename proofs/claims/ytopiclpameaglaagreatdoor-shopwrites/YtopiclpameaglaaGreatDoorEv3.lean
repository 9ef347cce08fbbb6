/-
An evaluator of code over abstract memory, sound against the model: part 3. No condition.
-/
import Derived.Lib.Strings
import Derived.Test.YtopiclpameaglaaGreatDoorEv2
set_option linter.unusedSimpArgs false
set_option linter.unusedVariables false
namespace Go.Ev
variable {P : Program} {xk : FuncId → Option XK} {orc : Orc}

/-! ### A region in whatever order -/
structure Ctx (P : Program) (xk : FuncId → Option XK) (orc : Orc) (rec : Rec) (ops : Array Oper) (nt : Nat) (a0 : AAct) (s0 : St) (es : List Ent) (μ0 : Ren) (w0 : World) (df0 : List Deferred) : Prop where
  run : Run P xk orc rec ops (Region.before ops) a0 s0 es
  idx : ∀ (q q' : Nat) (e e' : Ent), es[q]? = some e → es[q']? = some e' → e.i = e'.i → q = q'
  cov : ∀ i, i < ops.size → ∃ (q : Nat) (e : Ent), es[q]? = some e ∧ e.i = i
  ord : ∀ (q : Nat) (e : Ent) (x : Edge), es[q]? = some e → x ∈ e.o.after → Region.binds .any x = true → ∃ (q' : Nat) (e' : Ent), q' < q ∧ es[q']? = some e' ∧ e'.i = x.on
  reg : RegS ops
  ok : okOps nt ops = true
  sim : Sim μ0 s0 w0
  df : DfsR μ0 a0.df df0

def isAl (e : Ent) : Prop := ∃ b f, e.k = .alloc b f

structure Inv (ops : Array Oper) (nt : Nat) (a0 : AAct) (s0 : St) (es : List Ent) (μ0 : Ren) (w0 : World) (df0 : List Deferred) (L : Nat → Prop) (k : Nat) (μ : Ren) (a' : Act) (w : World) : Prop where
  cl : Closed ops L
  kle : k ≤ es.length
  kb : k = 0 ∨ ∃ f : Ent, es[k - 1]? = some f ∧ f.k = .eff
  kin : ∀ (q : Nat) (e : Ent), q < k → es[q]? = some e → (e.k = .eff ∨ isAl e) → L e.i
  kout : ∀ (q : Nat) (e : Ent), k ≤ q → es[q]? = some e → e.k = .eff → ¬ L e.i
  stp : Stp μ0 s0 w0 (cut μ (stAt es s0 k).nx) (stAt es s0 k) w
  al : ∀ (q : Nat) (e : Ent) (b : Blk) (f : Nat → Value), k ≤ q → es[q]? = some e → e.k = .alloc b f → L e.i → ∃ lo, μ e.s.nx = some lo ∧ BlkR (cut μ (e.s.nx + 1)) lo (w.heap[lo.blk]?) b ∧ w0.heap.size ≤ lo.blk ∧ lo.blk < w.heap.size ∧
    (∀ x c lx, (stAt es s0 k).hp.get x = some c → cut μ (stAt es s0 k).nx x = some lx → lx.blk ≠ lo.blk)
  dj : ∀ (q : Nat) (e : Ent) (q' : Nat) (e' : Ent) (lo lo' : Loc), k ≤ q → k ≤ q' → es[q]? = some e → es[q']? = some e' → isAl e → isAl e' → L e.i → L e'.i → q ≠ q' → μ e.s.nx = some lo → μ e'.s.nx = some lo' → lo.blk ≠ lo'.blk
  dom : ∀ x, (stAt es s0 k).nx ≤ x → μ x ≠ none → ∃ (q : Nat) (e : Ent), k ≤ q ∧ es[q]? = some e ∧ isAl e ∧ L e.i ∧ x = e.s.nx
  vals : ∀ (q : Nat) (e : Ent) (d : Tmp), es[q]? = some e → L e.i → e.o.dst = some d → VR (cut μ (max e.t.nx (stAt es s0 k).nx)) e.v (a'.tmps.getD d undef)
  rest : ∀ t, t < nt → (∀ (q : Nat) (e : Ent), es[q]? = some e → L e.i → e.o.dst ≠ some t) → VR μ0 (a0.tmp t) (a'.tmps.getD t undef)
  size : nt ≤ a'.tmps.size
  dfr : a'.defers = df0

section
variable {rec : Rec} {ops : Array Oper} {nt : Nat} {a0 : AAct} {s0 : St} {es : List Ent} {μ0 : Ren} {w0 : World} {df0 : List Deferred}

theorem nx_step {e : Ent} (h : e.ok P xk orc rec ops) : e.s.nx ≤ e.t.nx := by
  obtain ⟨_, h⟩ := h
  cases hk : e.k <;> simp only [hk] at h
  · rw [h.2.2]; exact Nat.le_refl _
  · rw [h.2.2.2]; exact Nat.le_refl _
  · rw [h.2.2.2]; exact Nat.le_refl _
  · exact h.2.2.2
  · rw [h.2.2.2.2]; exact Nat.le_succ _

theorem Ctx.nx_mono (C : Ctx P xk orc rec ops nt a0 s0 es μ0 w0 df0) {q : Nat} : ∀ (d : Nat), q + d ≤ es.length → (stAt es s0 q).nx ≤ (stAt es s0 (q + d)).nx
  | 0, _ => Nat.le_refl _
  | d + 1, h => by
    have he : es[q + d]? = some es[q + d] := List.getElem?_eq_getElem (by omega)
    have h1 := Ctx.nx_mono C (q := q) d (by omega)
    have h2 := nx_step (C.run.ok _ _ he)
    rw [C.run.st _ _ he] at h2
    rw [← Nat.add_assoc, stAt_succ he]
    omega
theorem Ctx.nx_le (C : Ctx P xk orc rec ops nt a0 s0 es μ0 w0 df0) {q q' : Nat} (h : q ≤ q') (hq : q' ≤ es.length) : (stAt es s0 q).nx ≤ (stAt es s0 q').nx := by
  have := C.nx_mono (q := q) (q' - q) (by omega)
  rwa [show q + (q' - q) = q' by omega] at this
theorem lt_of_get {α : Type} {l : List α} {q : Nat} {e : α} (h : l[q]? = some e) : q < l.length := by
  rcases Nat.lt_or_ge q l.length with h' | h'
  · exact h'
  · simp [List.getElem?_eq_none h'] at h
theorem Ctx.t_eq (C : Ctx P xk orc rec ops nt a0 s0 es μ0 w0 df0) {q : Nat} {e : Ent} (h : es[q]? = some e) : e.t = stAt es s0 (q + 1) := (stAt_succ h).symm
theorem Ctx.nx0 (C : Ctx P xk orc rec ops nt a0 s0 es μ0 w0 df0) {q : Nat} (hq : q ≤ es.length) : s0.nx ≤ (stAt es s0 q).nx := C.nx_le (Nat.zero_le q) hq

theorem Ctx.opd_op (C : Ctx P xk orc rec ops nt a0 s0 es μ0 w0 df0) {q : Nat} {e : Ent} (h : es[q]? = some e) : ops[e.i]? = some e.o := (C.run.ok q e h).1

/-- Two operations write two temporaries. -/
theorem Ctx.dst_ne (C : Ctx P xk orc rec ops nt a0 s0 es μ0 w0 df0) {q q' : Nat} {e e' : Ent} (h : es[q]? = some e) (h' : es[q']? = some e') (hne : q ≠ q') {d : Tmp} (hd : e.o.dst = some d) : e'.o.dst ≠ some d := by
  have hi : e.i ≠ e'.i := fun hh => hne (C.idx q q' e e' h h' hh)
  rcases Nat.lt_or_gt_of_ne hi with hlt | hlt
  · rcases C.reg.pair e'.i e'.o e.i e.o (C.opd_op h') (C.opd_op h) hlt with h1 | ⟨_, h1⟩
    · exact (Oper.apart_spec h1).2.1 d hd
    · exact h1 d hd
  · intro hd'
    rcases C.reg.pair e.i e.o e'.i e'.o (C.opd_op h) (C.opd_op h') hlt with h1 | ⟨_, h1⟩
    · exact (Oper.apart_spec h1).2.1 d hd' hd
    · exact h1 d hd' hd

/-- The order that was taken keeps what binds. -/
theorem Ctx.before_lt (C : Ctx P xk orc rec ops nt a0 s0 es μ0 w0 df0) {q q' : Nat} {e e' : Ent} (h : es[q]? = some e) (h' : es[q']? = some e') (hb : ((Region.before ops).getD e.i 0).testBit e'.i = true) : q' < q := by
  have hcl : Closed ops (fun i => ∃ (p : Nat) (f : Ent), p < q ∧ es[p]? = some f ∧ f.i = i) := fun i o ho hL x hx hxb => by
    obtain ⟨p, f, h1, h2, rfl⟩ := hL
    have : f.o = o := by have := C.opd_op h2; rw [ho] at this; injection this with this; exact this.symm
    subst this
    obtain ⟨p', f', g1, g2, g3⟩ := C.ord p f x h2 hx hxb
    exact ⟨p', f', by omega, g2, g3⟩
  obtain ⟨p, f, h1, h2, h3⟩ := closed_before hcl e.i e.o e'.i (C.opd_op h) (fun x hx hxb => by
    obtain ⟨p', f', g1, g2, g3⟩ := C.ord q e x h hx hxb
    exact ⟨p', f', g1, g2, g3⟩) hb
  have := C.idx p q' f e' h2 h' h3
  omega

/-- What a temporary holds on the way. -/
theorem Ctx.tmp_old (C : Ctx P xk orc rec ops nt a0 s0 es μ0 w0 df0) (t : Tmp) : ∀ (q : Nat), q ≤ es.length → (∀ (q' : Nat) (e' : Ent), q' < q → es[q']? = some e' → e'.o.dst ≠ some t) → (acAt es a0 q).tmp t = a0.tmp t
  | 0, _, _ => rfl
  | q + 1, hq, hn => by
    have he : es[q]? = some es[q] := List.getElem?_eq_getElem (by omega)
    rw [acAt_succ he]
    have ih := Ctx.tmp_old C t q (by omega) (fun q' e' h1 h2 => hn q' e' (by omega) h2)
    have hne := hn q _ (Nat.lt_succ_self q) he
    cases hd : es[q].o.dst with
    | none => exact ih
    | some d =>
      have : t ≠ d := fun h => hne (by rw [hd, h])
      simp only [putA, AAct.tmp, Tr.get_set, if_neg this]
      exact ih
theorem Ctx.tmp_new (C : Ctx P xk orc rec ops nt a0 s0 es μ0 w0 df0) {t : Tmp} {p : Nat} {f : Ent} (hp : es[p]? = some f) (hd : f.o.dst = some t) : ∀ (d : Nat), p + 1 + d ≤ es.length → (acAt es a0 (p + 1 + d)).tmp t = f.v
  | 0, _ => by
    rw [Nat.add_zero, acAt_succ hp, hd]
    simp [putA, AAct.tmp, Tr.get_set]
  | d + 1, hq => by
    have he : es[p + 1 + d]? = some es[p + 1 + d] := List.getElem?_eq_getElem (by omega)
    rw [← Nat.add_assoc, acAt_succ he]
    have ih := Ctx.tmp_new C hp hd d (by omega)
    have hne := C.dst_ne hp he (by omega) hd
    cases hd2 : es[p + 1 + d].o.dst with
    | none => exact ih
    | some d2 =>
      have : t ≠ d2 := fun h => hne (by rw [hd2, h])
      simp only [putA, AAct.tmp, Tr.get_set, if_neg this]
      exact ih
theorem Ctx.df_eq (C : Ctx P xk orc rec ops nt a0 s0 es μ0 w0 df0) : ∀ (q : Nat), q ≤ es.length → (acAt es a0 q).df = a0.df
  | 0, _ => rfl
  | q + 1, hq => by
    have he : es[q]? = some es[q] := List.getElem?_eq_getElem (by omega)
    rw [acAt_succ he, ← Ctx.df_eq C q (by omega)]
    cases es[q].o.dst <;> rfl

variable {L : Nat → Prop} {k : Nat} {μ : Ren} {a' : Act} {w : World}

theorem Inv.mu0 (C : Ctx P xk orc rec ops nt a0 s0 es μ0 w0 df0) (I : Inv ops nt a0 s0 es μ0 w0 df0 L k μ a' w) {n : Nat} (hn : s0.nx ≤ n) : μ0.le (cut μ n) :=
  le_cut (I.stp.le.trans (cut_le _ _)) (fun i hi => C.sim.nxt i (by omega))

/-- The temporaries that an operation about to run looks at. -/
theorem Inv.looks (C : Ctx P xk orc rec ops nt a0 s0 es μ0 w0 df0) (I : Inv ops nt a0 s0 es μ0 w0 df0 L k μ a' w) {q : Nat} {e : Ent} (he : es[q]? = some e) (hn : ¬ L e.i)
    (hr : ∀ x ∈ e.o.after, Region.binds .any x = true → L x.on) {t : Tmp} (ht : t < nt) (hl : t ∈ e.o.looksAt ops) : VR (cut μ (max e.s.nx (stAt es s0 k).nx)) (e.a.tmp t) (a'.tmps.getD t undef) := by
  have hq := lt_of_get he
  have hs := C.run.st q e he
  have ha := C.run.ac q e he
  have old : (∀ (q' : Nat) (e' : Ent), q' < q → es[q']? = some e' → e'.o.dst ≠ some t) → (∀ (q' : Nat) (e' : Ent), es[q']? = some e' → L e'.i → e'.o.dst ≠ some t) → VR (cut μ (max e.s.nx (stAt es s0 k).nx)) (e.a.tmp t) (a'.tmps.getD t undef) := fun h1 h2 => by
    rw [ha, C.tmp_old t q (by omega) h1]
    exact (I.rest t ht h2).mono (I.mu0 C (Nat.le_trans (C.nx0 I.kle) (Nat.le_max_right _ _)))
  by_cases hw : ∃ (q' : Nat) (e' : Ent), es[q']? = some e' ∧ e'.o.dst = some t
  · obtain ⟨p, f, hp, hd⟩ := hw
    have uniq : ∀ (q' : Nat) (e' : Ent), es[q']? = some e' → e'.o.dst = some t → q' = p := fun q' e' h1 h2 => by
      by_cases hh : p = q'
      · exact hh.symm
      · exact absurd h2 (C.dst_ne hp h1 hh hd)
    by_cases hpq : p = q
    · subst hpq
      have hfe : f = e := by rw [hp] at he; injection he
      subst hfe
      exact old (fun q' e' h1 h2 h3 => by have := uniq q' e' h2 h3; omega) (fun q' e' h1 h2 h3 => by
        have := uniq q' e' h1 h3
        subst this
        rw [hp] at h1; injection h1 with h1; subst h1; exact hn h2)
    · have hi : f.i ≠ e.i := fun hh => hpq (C.idx p q f e hp he hh)
      have hf := lt_of_get hp
      rcases Nat.lt_or_gt_of_ne hi with hlt | hlt
      · have hb : ((Region.before ops).getD e.i 0).testBit f.i = true := by
          rcases C.reg.pair e.i e.o f.i f.o (C.opd_op he) (C.opd_op hp) hlt with h1 | ⟨h1, _⟩
          · exact absurd hl ((Oper.apart_spec h1).1 t hd)
          · exact h1
        have hLf : L f.i := closed_before I.cl e.i e.o f.i (C.opd_op he) hr hb
        have hlt2 := C.before_lt he hp hb
        have e1 : e.a.tmp t = f.v := by
          have := C.tmp_new hp hd (q - (p + 1)) (by omega)
          rw [show p + 1 + (q - (p + 1)) = q by omega] at this
          rw [ha]; exact this
        rw [e1]
        refine (I.vals p f t hp hLf hd).mono (cut_mono μ ?_)
        have h1 : f.t.nx ≤ e.s.nx := by rw [C.t_eq hp, hs]; exact C.nx_le (by omega) (by omega)
        exact Nat.max_le.2 ⟨Nat.le_trans h1 (Nat.le_max_left _ _), Nat.le_max_right _ _⟩
      · have hb : ((Region.before ops).getD f.i 0).testBit e.i = true := by
          rcases C.reg.pair f.i f.o e.i e.o (C.opd_op hp) (C.opd_op he) hlt with h1 | ⟨h1, _⟩
          · exact absurd hl ((Oper.apart_spec h1).2.2 t hd)
          · exact h1
        have hlt2 := C.before_lt hp he hb
        have hLf : ¬ L f.i := fun hL => hn (closed_before I.cl f.i f.o e.i (C.opd_op hp) (fun x hx hxb => I.cl f.i f.o (C.opd_op hp) hL x hx hxb) hb)
        exact old (fun q' e' h1 h2 h3 => by have := uniq q' e' h2 h3; omega) (fun q' e' h1 h2 h3 => by
          have := uniq q' e' h1 h3
          subst this
          rw [hp] at h1; injection h1 with h1; subst h1; exact hLf h2)
  · exact old (fun q' e' h1 h2 h3 => hw ⟨q', e', h2, h3⟩) (fun q' e' h1 h2 h3 => hw ⟨q', e', h1, h3⟩)
end
end Go.Ev

noncomputable section
namespace Go.Ev
variable {P : Program} {xk : FuncId → Option XK} {orc : Orc}

/-! ### Acts cut down to what is looked at -/
def rA (a : AAct) (ls : List Tmp) : AAct := ⟨ls.foldl (fun t d => t.set d (a.tmp d)) .lf, []⟩
def rC (a' : Act) (ls : List Tmp) : Act := { tmps := a'.tmps.mapIdx fun i v => if i ∈ ls then v else undef, defers := [] }

theorem rA_get (a : AAct) (t : Tmp) : ∀ (ls : List Tmp) (T : Tr Value), (ls.foldl (fun t d => t.set d (a.tmp d)) T).get t = if t ∈ ls then some (a.tmp t) else T.get t
  | [], T => by simp
  | d :: ls, T => by
    rw [List.foldl_cons, rA_get a t ls, Tr.get_set]
    by_cases h : t ∈ ls
    · rw [if_pos h, if_pos (List.mem_cons_of_mem _ h)]
    · rw [if_neg h]
      by_cases h2 : t = d
      · subst h2; rw [if_pos rfl, if_pos (List.mem_cons_self ..)]
      · rw [if_neg h2, if_neg (fun hh => (List.mem_cons.1 hh).elim h2 h)]
theorem rA_tmp {a : AAct} {ls : List Tmp} (t : Tmp) : (rA a ls).tmp t = if t ∈ ls then a.tmp t else undef := by
  have := rA_get a t ls .lf
  simp only [rA, AAct.tmp] at this ⊢
  rw [this]
  by_cases h : t ∈ ls
  · simp [h]
  · simp [h, Tr.get_lf]
theorem rC_tmp {a' : Act} {ls : List Tmp} (t : Tmp) (ht : t < a'.tmps.size) : (rC a' ls).tmps.getD t undef = if t ∈ ls then a'.tmps.getD t undef else undef := by
  simp [rC, Array.getD, ht]
theorem rC_eval {a' : Act} {ls : List Tmp} {x : Operand} (h : ∀ t, x = .tmp t → t ∈ ls) : (rC a' ls).eval x = a'.eval x := by
  cases x with
  | tmp t =>
    have := h t rfl
    simp only [Act.eval, rC, Array.getElem?_mapIdx]
    cases a'.tmps[t]? <;> simp [this]
  | _ => rfl
theorem rA_opd {a : AAct} {ls : List Tmp} {x : Operand} (h : ∀ t, x = .tmp t → t ∈ ls) : opd (rA a ls) x = opd a x := by
  cases x with
  | tmp t => simp only [opd, rA_tmp, if_pos (h t rfl)]
  | _ => rfl
theorem r_rel {μ : Ren} {nt : Nat} {a : AAct} {a' : Act} {ls : List Tmp} (hs : nt ≤ a'.tmps.size) (h : ∀ t, t < nt → t ∈ ls → VR μ (a.tmp t) (a'.tmps.getD t undef)) : ActR μ nt (rA a ls) (rC a' ls) := by
  refine ⟨⟨by simpa [rC] using hs, fun t ht => ?_⟩, .nil⟩
  have e1 := rA_tmp (a := a) (ls := ls) t
  simp only [AAct.tmp] at e1
  rw [e1, rC_tmp t (Nat.lt_of_lt_of_le ht hs)]
  by_cases hm : t ∈ ls
  · rw [if_pos hm, if_pos hm]; exact h t ht hm
  · rw [if_neg hm, if_neg hm]; exact VR.undef μ

theorem looks_tmp {ops : Array Oper} {o : Oper} {x : Operand} (hx : x ∈ o.op.operands) (t : Tmp) (h : x = .tmp t) : t ∈ o.looksAt ops := by
  subst h
  exact List.mem_append_left _ (List.mem_filterMap.2 ⟨.tmp t, by simpa using hx, rfl⟩)

section
variable {rec : Rec} {ops : Array Oper} {nt : Nat} {a0 : AAct} {s0 : St} {es : List Ent} {μ0 : Ren} {w0 : World} {df0 : List Deferred}
variable {L : Nat → Prop} {k : Nat} {μ : Ren} {a' : Act} {w : World}

theorem Inv.acts (C : Ctx P xk orc rec ops nt a0 s0 es μ0 w0 df0) (I : Inv ops nt a0 s0 es μ0 w0 df0 L k μ a' w) {q : Nat} {e : Ent} (he : es[q]? = some e) (hn : ¬ L e.i)
    (hr : ∀ x ∈ e.o.after, Region.binds .any x = true → L x.on) : ∃ a a'', ActR (cut μ (max e.s.nx (stAt es s0 k).nx)) nt a a'' ∧ (∀ x ∈ e.o.op.operands, opd a x = opd e.a x) ∧ (∀ x ∈ e.o.op.operands, a''.eval x = a'.eval x) :=
  ⟨rA e.a (e.o.looksAt ops), rC a' (e.o.looksAt ops), r_rel I.size (fun t ht hl => I.looks C he hn hr ht hl), fun x hx => rA_opd (looks_tmp hx), fun x hx => rC_eval (looks_tmp hx)⟩

theorem Inv.wanted (C : Ctx P xk orc rec ops nt a0 s0 es μ0 w0 df0) (I : Inv ops nt a0 s0 es μ0 w0 df0 L k μ a' w) {q : Nat} {e : Ent} (he : es[q]? = some e) (hn : ¬ L e.i)
    (hr : ∀ x ∈ e.o.after, Region.binds .any x = true → L x.on) : Region.wanted e.o (yielded ops a'.tmps) = wantedA e.a ops e.o := by
  refine wanted_of (μ := cut μ (max e.s.nx (stAt es s0 k).nx)) fun j wv oj d hg hj hd => ?_
  have hdn : d < nt := by
    have hoj : oj ∈ ops.toList := by
      rw [Array.getElem?_eq_some_iff] at hj
      obtain ⟨h1, h2⟩ := hj
      rw [← h2]; simp
    have := okOper_dst (List.all_eq_true.1 C.ok oj hoj)
    simpa [hd] using this
  refine ⟨Nat.lt_of_lt_of_le hdn I.size, I.looks C he hn hr hdn ?_⟩
  refine List.mem_append_right _ ?_
  simp only [hg, hj, Option.bind_some, hd]
  simp

/-- The blocks that stand beside the last effect's memory, taken in. -/
theorem Inv.asm (C : Ctx P xk orc rec ops nt a0 s0 es μ0 w0 df0) (I : Inv ops nt a0 s0 es μ0 w0 df0 L k μ a' w) : ∀ (d : Nat), k + d ≤ es.length →
    (∀ (p : Nat) (e : Ent), k ≤ p → p < k + d → es[p]? = some e → e.k ≠ .eff ∧ (isAl e → L e.i)) →
    Stp μ0 s0 w0 (cut μ (stAt es s0 (k + d)).nx) (stAt es s0 (k + d)) w ∧
    ∀ (p : Nat) (e : Ent) (lo : Loc), k + d ≤ p → es[p]? = some e → isAl e → L e.i → μ e.s.nx = some lo → ∀ x c lx, (stAt es s0 (k + d)).hp.get x = some c → cut μ (stAt es s0 (k + d)).nx x = some lx → lx.blk ≠ lo.blk
  | 0, _, _ => ⟨I.stp, fun p e lo hp he ha hL hlo x c lx hx hlx => by
      obtain ⟨b, f, hk⟩ := ha
      obtain ⟨lo', h1, h2, h3, h4, h5⟩ := I.al p e b f hp he hk hL
      rw [hlo] at h1; injection h1 with h1; subst h1
      exact h5 x c lx hx hlx⟩
  | d + 1, hd, hall => by
    obtain ⟨ih1, ih2⟩ := Inv.asm C I d (by omega) (fun p e h1 h2 => hall p e h1 (by omega))
    have he : es[k + d]? = some es[k + d] := List.getElem?_eq_getElem (by omega)
    obtain ⟨hne, hal⟩ := hall (k + d) _ (by omega) (by omega) he
    have hok := C.run.ok _ _ he
    have hst := C.run.st _ _ he
    have hsucc := stAt_succ (s := s0) he
    rw [← Nat.add_assoc]
    have same : es[k + d].t = es[k + d].s → Stp μ0 s0 w0 (cut μ (stAt es s0 (k + d + 1)).nx) (stAt es s0 (k + d + 1)) w ∧
        ∀ (p : Nat) (e : Ent) (lo : Loc), k + d + 1 ≤ p → es[p]? = some e → isAl e → L e.i → μ e.s.nx = some lo → ∀ x c lx, (stAt es s0 (k + d + 1)).hp.get x = some c → cut μ (stAt es s0 (k + d + 1)).nx x = some lx → lx.blk ≠ lo.blk := fun hts => by
      have e1 : stAt es s0 (k + d + 1) = stAt es s0 (k + d) := by rw [hsucc, hts, hst]
      rw [e1]
      exact ⟨ih1, fun p e lo hp => ih2 p e lo (by omega)⟩
    generalize hee : es[k + d] = e at *
    cases hk : e.k with
    | skip => exact same (by have := hok.2; simp only [hk] at this; exact this.2.2)
    | pure => exact same (by have := hok.2; simp only [hk] at this; exact this.2.2.2)
    | read => exact same (by have := hok.2; simp only [hk] at this; exact this.2.2.2)
    | eff => exact absurd hk hne
    | alloc b f =>
      have hL := hal ⟨b, f, hk⟩
      obtain ⟨lo, h1, h2, h3, h4, h5⟩ := I.al (k + d) e b f (by omega) he hk hL
      have ht : stAt es s0 (k + d + 1) = newBlk (stAt es s0 (k + d)) b := by
        have := hok.2; simp only [hk] at this
        rw [hsucc, this.2.2.2.2, hst]
      have hlo : μ (stAt es s0 (k + d)).nx = some lo := by rw [← hst]; exact h1
      have hcut : cut μ (newBlk (stAt es s0 (k + d)) b).nx = (cut μ (stAt es s0 (k + d)).nx).add (stAt es s0 (k + d)).nx lo := cut_add μ hlo
      have hdis := ih2 (k + d) e lo (Nat.le_refl _) he ⟨b, f, hk⟩ hL h1
      rw [ht, hcut]
      refine ⟨Stp.join ih1 (by rw [← hcut]; rw [hst] at h2; exact h2) h3 hdis, fun p e' lo' hp he' ha' hL' hlo' x c lx hx hlx => ?_⟩
      simp only [newBlk, Tr.get_set] at hx
      by_cases hxn : x = (stAt es s0 (k + d)).nx
      · subst hxn
        rw [Ren.add_self] at hlx; injection hlx with hlx; subst hlx
        exact I.dj (k + d) e p e' _ _ (by omega) (by omega) he he' ⟨b, f, hk⟩ ha' hL hL' (by omega) h1 hlo'
      · rw [if_neg hxn] at hx
        rw [Ren.add_ne _ _ hxn] at hlx
        exact ih2 p e' lo' (by omega) he' ha' hL' hlo' x c lx hx hlx

/-- The operations that turn no memory. -/
theorem Inv.calm (C : Ctx P xk orc rec ops nt a0 s0 es μ0 w0 df0) (I : Inv ops nt a0 s0 es μ0 w0 df0 L k μ a' w) {q : Nat} {e : Ent} (he : es[q]? = some e)
    (hr : ∀ x ∈ e.o.after, Region.binds .any x = true → L x.on) (hne : e.k ≠ .eff) (hna : ¬ isAl e) {v' : Value} (hv : VR (cut μ (max e.t.nx (stAt es s0 k).nx)) e.v v') :
    Inv ops nt a0 s0 es μ0 w0 df0 (fun i => L i ∨ i = e.i) k μ (a'.put e.o.dst v') w := by
  have hop := C.opd_op he
  have hsame : ∀ (q' : Nat) (e' : Ent), es[q']? = some e' → e'.i = e.i → q' = q ∧ e' = e := fun q' e' h1 h2 => by
    have := C.idx q' q e' e h1 he h2
    subst this
    rw [he] at h1; injection h1 with h1
    exact ⟨rfl, h1.symm⟩
  have hdn : ∀ d, e.o.dst = some d → d < a'.tmps.size := fun d hd => by
    have hoj : e.o ∈ ops.toList := by
      rw [Array.getElem?_eq_some_iff] at hop
      obtain ⟨h1, h2⟩ := hop
      rw [← h2]; simp
    have := okOper_dst (List.all_eq_true.1 C.ok _ hoj)
    rw [hd] at this
    exact Nat.lt_of_lt_of_le (by simpa using this) I.size
  have hput : ∀ t, e.o.dst ≠ some t → (a'.put e.o.dst v').tmps.getD t undef = a'.tmps.getD t undef := fun t ht => by
    cases hd : e.o.dst with
    | none => rfl
    | some d =>
      have : d ≠ t := fun h => ht (by rw [hd, h])
      simp only [Act.put, Array.getD_eq_getD_getElem?, Array.getElem?_setIfInBounds_ne this]
  refine ⟨fun i o ho hL x hx hxb => ?_, I.kle, I.kb, fun q' e' h1 h2 h3 => .inl (I.kin q' e' h1 h2 h3), fun q' e' h1 h2 h3 hL => ?_, I.stp, fun q' e' b f h1 h2 h3 hL => ?_, fun q1 e1 q2 e2 lo lo' h1 h2 h3 h4 h5 h6 hL1 hL2 => ?_, fun x hx hx2 => ?_, fun q' e' d h1 hL h2 => ?_, fun t ht hno => ?_, ?_, ?_⟩
  · rcases hL with hL | rfl
    · exact .inl (I.cl i o ho hL x hx hxb)
    · rw [hop] at ho; injection ho with ho; subst ho
      exact .inl (hr x hx hxb)
  · rcases hL with hL | hL
    · exact I.kout q' e' h1 h2 h3 hL
    · obtain ⟨_, rfl⟩ := hsame q' e' h2 hL
      exact hne h3
  · rcases hL with hL | hL
    · exact I.al q' e' b f h1 h2 h3 hL
    · obtain ⟨_, rfl⟩ := hsame q' e' h2 hL
      exact absurd ⟨b, f, h3⟩ hna
  · have g1 : L e1.i := hL1.resolve_right fun h => hna ((hsame q1 e1 h3 h).2 ▸ h5)
    have g2 : L e2.i := hL2.resolve_right fun h => hna ((hsame q2 e2 h4 h).2 ▸ h6)
    exact I.dj q1 e1 q2 e2 lo lo' h1 h2 h3 h4 h5 h6 g1 g2
  · obtain ⟨q', e', h1, h2, h3, h4, h5⟩ := I.dom x hx hx2
    exact ⟨q', e', h1, h2, h3, .inl h4, h5⟩
  · by_cases hqq : q' = q
    · subst hqq
      rw [he] at h1; injection h1 with h1; subst h1
      have : (a'.put e.o.dst v').tmps.getD d undef = v' := by
        rw [h2]; simp [Act.put, hdn d h2]
      rw [this]; exact hv
    · rw [hput d (fun h => C.dst_ne he h1 (Ne.symm hqq) h h2)]
      refine I.vals q' e' d h1 (hL.resolve_right fun h => hqq (hsame q' e' h1 h).1) h2
  · rw [hput t (hno q e he (.inr rfl))]
    exact I.rest t ht (fun q' e' h1 h2 => hno q' e' h1 (.inl h2))
  · cases hd : e.o.dst <;> simpa [Act.put] using I.size
  · rw [← I.dfr]; cases e.o.dst <;> rfl
end
end Go.Ev
end

namespace Go.Ev
variable {P : Program} {xk : FuncId → Option XK} {orc : Orc}

section
variable {rec : Rec} {ops : Array Oper} {nt : Nat} {a0 : AAct} {s0 : St} {es : List Ent} {μ0 : Ren} {w0 : World} {df0 : List Deferred}
variable {L : Nat → Prop} {k : Nat} {μ : Ren} {a' : Act} {w : World}

theorem Ctx.same (C : Ctx P xk orc rec ops nt a0 s0 es μ0 w0 df0) {q q' : Nat} {e e' : Ent} (he : es[q]? = some e) (h1 : es[q']? = some e') (h2 : e'.i = e.i) : q' = q ∧ e' = e := by
  have := C.idx q' q e' e h1 he h2
  subst this
  rw [he] at h1; injection h1 with h1
  exact ⟨rfl, h1.symm⟩
theorem Ctx.dst_lt (C : Ctx P xk orc rec ops nt a0 s0 es μ0 w0 df0) {q : Nat} {e : Ent} (he : es[q]? = some e) {d : Tmp} (hd : e.o.dst = some d) : d < nt := by
  have hop := C.opd_op he
  have hoj : e.o ∈ ops.toList := by
    rw [Array.getElem?_eq_some_iff] at hop
    obtain ⟨h1, h2⟩ := hop
    rw [← h2]; simp
  have := okOper_dst (List.all_eq_true.1 C.ok _ hoj)
  rw [hd] at this
  simpa using this
theorem put_other {a' : Act} {o : Oper} {v' : Value} (t : Tmp) (ht : o.dst ≠ some t) : (a'.put o.dst v').tmps.getD t undef = a'.tmps.getD t undef := by
  cases hd : o.dst with
  | none => rfl
  | some d =>
    have : d ≠ t := fun h => ht (by rw [hd, h])
    simp only [Act.put, Array.getD_eq_getD_getElem?, Array.getElem?_setIfInBounds_ne this]
theorem put_own {a' : Act} {o : Oper} {v' : Value} (t : Tmp) (ht : o.dst = some t) (hs : t < a'.tmps.size) : (a'.put o.dst v').tmps.getD t undef = v' := by
  rw [ht]; simp [Act.put, hs]
theorem put_size {a' : Act} {d : Option Tmp} {v' : Value} : (a'.put d v').tmps.size = a'.tmps.size := by cases d <;> simp [Act.put]
theorem put_dfr {a' : Act} {d : Option Tmp} {v' : Value} : (a'.put d v').defers = a'.defers := by cases d <;> rfl

/-- Allocations behind one another have numbers behind one another. -/
theorem Ctx.al_lt (C : Ctx P xk orc rec ops nt a0 s0 es μ0 w0 df0) {q q' : Nat} {e e' : Ent} (he : es[q]? = some e) (he' : es[q']? = some e') (ha : isAl e) (h : q < q') : e.s.nx < e'.s.nx := by
  obtain ⟨b, f, hk⟩ := ha
  have hok := (C.run.ok q e he).2
  simp only [hk] at hok
  have h1 : e.t.nx = e.s.nx + 1 := by rw [hok.2.2.2.2]; rfl
  have h2 := C.nx_le (q := q + 1) (q' := q') (by omega) (Nat.le_of_lt (lt_of_get he'))
  rw [← C.t_eq he, ← C.run.st q' e' he'] at h2
  omega
theorem Ctx.s_le (C : Ctx P xk orc rec ops nt a0 s0 es μ0 w0 df0) {q q' : Nat} {e e' : Ent} (he : es[q]? = some e) (he' : es[q']? = some e') (h : q < q') : e.t.nx ≤ e'.s.nx := by
  have h2 := C.nx_le (q := q + 1) (q' := q') (by omega) (Nat.le_of_lt (lt_of_get he'))
  rwa [← C.t_eq he, ← C.run.st q' e' he'] at h2
theorem Ctx.k_le (C : Ctx P xk orc rec ops nt a0 s0 es μ0 w0 df0) {q : Nat} {e : Ent} (he : es[q]? = some e) (h : k ≤ q) : (stAt es s0 k).nx ≤ e.s.nx := by
  rw [C.run.st q e he]; exact C.nx_le h (Nat.le_of_lt (lt_of_get he))

theorem Inv.alloc (C : Ctx P xk orc rec ops nt a0 s0 es μ0 w0 df0) (I : Inv ops nt a0 s0 es μ0 w0 df0 L k μ a' w) {q : Nat} {e : Ent} (he : es[q]? = some e) (hn : ¬ L e.i)
    (hr : ∀ x ∈ e.o.after, Region.binds .any x = true → L x.on) {b : Blk} {f : Nat → Value} (hk : e.k = .alloc b f) {obj : Obj} {csz : Nat} {v' : Value}
    (hb : BlkR ((cut μ e.s.nx).add e.s.nx ⟨w.heap.size, 0, csz⟩) ⟨w.heap.size, 0, csz⟩ (some obj) b) (hv : VR ((cut μ e.s.nx).add e.s.nx ⟨w.heap.size, 0, csz⟩) e.v v') :
    Inv ops nt a0 s0 es μ0 w0 df0 (fun i => L i ∨ i = e.i) k (μ.add e.s.nx ⟨w.heap.size, 0, csz⟩) (a'.put e.o.dst v') { w with heap := w.heap.push obj } := by
  have hop := C.opd_op he
  have hkq : k ≤ q := by
    rcases Nat.lt_or_ge q k with h | h
    · exact absurd (I.kin q e h he (.inr ⟨b, f, hk⟩)) hn
    · exact h
  have hkn := C.k_le (k := k) he hkq
  have hok := (C.run.ok q e he).2
  simp only [hk] at hok
  have htn : e.t.nx = e.s.nx + 1 := by rw [hok.2.2.2.2]; rfl
  have hnone : μ e.s.nx = none := by
    by_cases h : μ e.s.nx = none
    · exact h
    · obtain ⟨q', e', h1, h2, h3, h4, h5⟩ := I.dom _ hkn h
      have hne : q ≠ q' := fun hh => by subst hh; rw [he] at h2; injection h2 with h2; subst h2; exact hn h4
      rcases Nat.lt_or_gt_of_ne hne with hlt | hlt
      · have := C.al_lt he h2 ⟨b, f, hk⟩ hlt; omega
      · have := C.al_lt h2 he h3 hlt; omega
  have hle : μ.le (μ.add e.s.nx ⟨w.heap.size, 0, csz⟩) := Ren.le_add hnone _
  have hcut : ∀ n, n ≤ e.s.nx → cut (μ.add e.s.nx ⟨w.heap.size, 0, csz⟩) n = cut μ n := fun n hn' => by
    funext i
    unfold cut
    by_cases hi : i < n
    · rw [if_pos hi, if_pos hi, Ren.add_ne _ _ (by omega)]
    · rw [if_neg hi, if_neg hi]
  have hcut1 : cut (μ.add e.s.nx ⟨w.heap.size, 0, csz⟩) (e.s.nx + 1) = (cut μ e.s.nx).add e.s.nx ⟨w.heap.size, 0, csz⟩ := by
    rw [cut_add _ (Ren.add_self ..), hcut _ (Nat.le_refl _)]
  have hlt : ∀ x c lx, (stAt es s0 k).hp.get x = some c → cut μ (stAt es s0 k).nx x = some lx → lx.blk < w.heap.size := fun x c lx h1 h2 => I.stp.sim.lt h1 h2
  have hold : ∀ (q' : Nat) (e' : Ent), k ≤ q' → es[q']? = some e' → isAl e' → L e'.i → e'.s.nx ≠ e.s.nx := fun q' e' h1 h2 h3 h4 hh => by
    have hne : q ≠ q' := fun hh => by subst hh; rw [he] at h2; injection h2 with h2; subst h2; exact hn h4
    rcases Nat.lt_or_gt_of_ne hne with hlt | hlt
    · have := C.al_lt he h2 ⟨b, f, hk⟩ hlt; omega
    · have := C.al_lt h2 he h3 hlt; omega
  refine ⟨fun i o ho hL x hx hxb => ?_, I.kle, I.kb, fun q' e' h1 h2 h3 => .inl (I.kin q' e' h1 h2 h3), fun q' e' h1 h2 h3 hL => ?_, ?_, fun q' e' b' f' h1 h2 h3 hL => ?_, fun q1 e1 q2 e2 lo lo' h1 h2 h3 h4 h5 h6 hL1 hL2 hne hl1 hl2 => ?_, fun x hx hx2 => ?_, fun q' e' d h1 hL h2 => ?_, fun t ht hno => ?_, by rw [put_size]; exact I.size, by rw [put_dfr]; exact I.dfr⟩
  · rcases hL with hL | rfl
    · exact .inl (I.cl i o ho hL x hx hxb)
    · rw [hop] at ho; injection ho with ho; subst ho
      exact .inl (hr x hx hxb)
  · rcases hL with hL | hL
    · exact I.kout q' e' h1 h2 h3 hL
    · obtain ⟨_, rfl⟩ := C.same he h2 hL
      rw [hk] at h3; cases h3
  · rw [hcut _ hkn]
    exact I.stp.push rfl rfl rfl rfl
  · by_cases hqq : q' = q
    · subst hqq
      rw [he] at h2; injection h2 with h2; subst h2
      rw [hk] at h3; injection h3 with h3 h3'; subst h3
      refine ⟨_, Ren.add_self .., ?_, I.stp.size, by simp, fun x c lx g1 g2 => ?_⟩
      · rw [hcut1]
        have : (w.heap.push obj)[w.heap.size]? = some obj := by simp
        simp only [this]
        exact hb
      · rw [hcut _ hkn] at g2
        exact Nat.ne_of_lt (hlt x c lx g1 g2)
    · have hL' : L e'.i := hL.resolve_right fun h => hqq (C.same he h2 h).1
      obtain ⟨lo, g1, g2, g3, g4, g5⟩ := I.al q' e' b' f' h1 h2 h3 hL'
      refine ⟨lo, hle _ _ g1, ?_, g3, by simp; omega, fun x c lx g6 g7 => ?_⟩
      · have : (w.heap.push obj)[lo.blk]? = w.heap[lo.blk]? := by rw [heap_push, if_neg (by omega)]
        simp only [this]
        exact g2.mono (cut_of_le hle _)
      · rw [hcut _ hkn] at g7
        exact g5 x c lx g6 g7
  · have key : ∀ (p : Nat) (e2 : Ent) (lo' : Loc), k ≤ p → es[p]? = some e2 → isAl e2 → L e2.i → (μ.add e.s.nx ⟨w.heap.size, 0, csz⟩) e2.s.nx = some lo' → lo'.blk < w.heap.size ∧ μ e2.s.nx = some lo' := fun p e2 lo' g1 g2 g3 g4 g5 => by
      rw [Ren.add_ne _ _ (hold p e2 g1 g2 g3 g4)] at g5
      obtain ⟨b2, f2, g6⟩ := g3
      obtain ⟨lo2, g7, _, _, g8, _⟩ := I.al p e2 b2 f2 g1 g2 g6 g4
      rw [g5] at g7; injection g7 with g7; subst g7
      exact ⟨g8, g5⟩
    rcases hL1 with hL1 | hL1 <;> rcases hL2 with hL2 | hL2
    · exact I.dj q1 e1 q2 e2 lo lo' h1 h2 h3 h4 h5 h6 hL1 hL2 hne (key q1 e1 lo h1 h3 h5 hL1 hl1).2 (key q2 e2 lo' h2 h4 h6 hL2 hl2).2
    · obtain ⟨rfl, rfl⟩ := C.same he h4 hL2
      rw [Ren.add_self] at hl2; injection hl2 with hl2; subst hl2
      exact Nat.ne_of_lt (key q1 e1 lo h1 h3 h5 hL1 hl1).1
    · obtain ⟨rfl, rfl⟩ := C.same he h3 hL1
      rw [Ren.add_self] at hl1; injection hl1 with hl1; subst hl1
      exact (Nat.ne_of_lt (key q2 e2 lo' h2 h4 h6 hL2 hl2).1).symm
    · exact absurd ((C.same he h3 hL1).1.trans (C.same he h4 hL2).1.symm) hne
  · by_cases hxe : x = e.s.nx
    · exact ⟨q, e, hkq, he, ⟨b, f, hk⟩, .inr rfl, hxe⟩
    · rw [Ren.add_ne _ _ hxe] at hx2
      obtain ⟨q', e', g1, g2, g3, g4, g5⟩ := I.dom x hx hx2
      exact ⟨q', e', g1, g2, g3, .inl g4, g5⟩
  · by_cases hqq : q' = q
    · subst hqq
      rw [he] at h1; injection h1 with h1; subst h1
      rw [put_own d h2 (Nat.lt_of_lt_of_le (C.dst_lt he h2) I.size)]
      refine VR.mono (cut_mono _ (Nat.le_max_left _ _)) ?_
      rw [htn, hcut1]; exact hv
    · rw [put_other d (fun h => C.dst_ne he h1 (Ne.symm hqq) h h2)]
      exact (I.vals q' e' d h1 (hL.resolve_right fun h => hqq (C.same he h1 h).1) h2).mono (cut_of_le hle _)
  · rw [put_other t (hno q e he (.inr rfl))]
    exact I.rest t ht (fun q' e' h1 h2 => hno q' e' h1 (.inl h2))

/-- What an effect finds. -/
theorem Inv.found (C : Ctx P xk orc rec ops nt a0 s0 es μ0 w0 df0) (I : Inv ops nt a0 s0 es μ0 w0 df0 L k μ a' w) {q : Nat} {e : Ent} (he : es[q]? = some e) (hn : ¬ L e.i)
    (hr : ∀ x ∈ e.o.after, Region.binds .any x = true → L x.on) (hk : e.k = .eff) : k ≤ q ∧ Stp μ0 s0 w0 (cut μ e.s.nx) e.s w ∧
    ∀ (p : Nat) (e' : Ent) (lo : Loc), q ≤ p → es[p]? = some e' → isAl e' → L e'.i → μ e'.s.nx = some lo → ∀ x c lx, e.s.hp.get x = some c → cut μ e.s.nx x = some lx → lx.blk ≠ lo.blk := by
  have hkq : k ≤ q := by
    rcases Nat.lt_or_ge q k with h | h
    · exact absurd (I.kin q e h he (.inl hk)) hn
    · exact h
  have := I.asm C (q - k) (by have := lt_of_get he; omega) (fun p e' h1 h2 h3 => by
    have hb : (e'.k = .eff ∨ ∃ b f, e'.k = .alloc b f) → L e'.i := fun hh => closed_before I.cl e.i e.o e'.i (C.opd_op he) hr (C.run.eff q e he hk p e' (by omega) h3 hh)
    exact ⟨fun hh => I.kout p e' h1 h3 hh (hb (.inl hh)), fun hh => hb (.inr hh)⟩)
  rw [show k + (q - k) = q by omega, ← C.run.st q e he] at this
  exact ⟨hkq, this.1, this.2⟩

theorem Inv.eff (C : Ctx P xk orc rec ops nt a0 s0 es μ0 w0 df0) (I : Inv ops nt a0 s0 es μ0 w0 df0 L k μ a' w) {q : Nat} {e : Ent} (he : es[q]? = some e) (hn : ¬ L e.i)
    (hr : ∀ x ∈ e.o.after, Region.binds .any x = true → L x.on) (hk : e.k = .eff) {ν : Ren} {w' : World} {v' : Value} (hs : Stp (cut μ e.s.nx) e.s w ν e.t w') (hv : VR ν e.v v') :
    ∃ k' μ', Inv ops nt a0 s0 es μ0 w0 df0 (fun i => L i ∨ i = e.i) k' μ' (a'.put e.o.dst v') w' := by
  obtain ⟨hkq, hst, hdis⟩ := I.found C he hn hr hk
  have hop := C.opd_op he
  have hqlt := lt_of_get he
  have hkn := C.k_le (k := k) he hkq
  have hnx := nx_step (C.run.ok q e he)
  let μ' : Ren := fun i => if i < e.t.nx then ν i else μ i
  have hcutν : cut μ' e.t.nx = ν := by
    funext i
    show (if i < e.t.nx then (if i < e.t.nx then ν i else μ i) else none) = ν i
    by_cases hi : i < e.t.nx
    · rw [if_pos hi, if_pos hi]
    · rw [if_neg hi]; exact (hs.sim.nxt i (by omega)).symm
  have hhi : ∀ i, e.t.nx ≤ i → μ' i = μ i := fun i hi => by show (if i < e.t.nx then ν i else μ i) = μ i; rw [if_neg (by omega)]
  have hle : μ.le μ' := fun i l hi => by
    by_cases h1 : i < e.t.nx
    · show (if i < e.t.nx then ν i else μ i) = some l
      rw [if_pos h1]
      by_cases h2 : i < e.s.nx
      · exact hs.le i l (by rw [cut_lt h2]; exact hi)
      · obtain ⟨q', e', g1, g2, g3, g4, g5⟩ := I.dom i (by omega) (by rw [hi]; simp)
        have hne : q' ≠ q := fun hh => by subst hh; rw [he] at g2; injection g2 with g2; subst g2; exact hn g4
        rcases Nat.lt_or_gt_of_ne hne with hlt | hlt
        · have := C.al_lt g2 he g3 hlt; omega
        · have := C.s_le he g2 hlt; omega
    · rw [hhi i (by omega)]; exact hi
  have hsuc : stAt es s0 (q + 1) = e.t := stAt_succ he
  have old : ∀ (q' : Nat) (e' : Ent), q + 1 ≤ q' → es[q']? = some e' → (L e'.i ∨ e'.i = e.i) → L e'.i := fun q' e' h1 h2 hL => hL.resolve_right fun h => by
    have := (C.same he h2 h).1; omega
  have hid : ∀ (q' : Nat) (e' : Ent), q + 1 ≤ q' → es[q']? = some e' → μ' e'.s.nx = μ e'.s.nx := fun q' e' h1 h2 => hhi _ (C.s_le he h2 (by omega))
  refine ⟨q + 1, μ', fun i o ho hL x hx hxb => ?_, by omega, .inr ⟨e, he, hk⟩, fun q' e' h1 h2 h3 => ?_, fun q' e' h1 h2 h3 hL => ?_, ?_, fun q' e' b' f' h1 h2 h3 hL => ?_, fun q1 e1 q2 e2 lo lo' h1 h2 h3 h4 h5 h6 hL1 hL2 hne hl1 hl2 => ?_, fun x hx hx2 => ?_, fun q' e' d h1 hL h2 => ?_, fun t ht hno => ?_, by rw [put_size]; exact I.size, by rw [put_dfr]; exact I.dfr⟩
  · rcases hL with hL | rfl
    · exact .inl (I.cl i o ho hL x hx hxb)
    · rw [hop] at ho; injection ho with ho; subst ho
      exact .inl (hr x hx hxb)
  · by_cases hqq : q' = q
    · subst hqq; rw [he] at h2; injection h2 with h2; subst h2; exact .inr rfl
    · exact .inl (closed_before I.cl e.i e.o e'.i hop hr (C.run.eff q e he hk q' e' (by omega) h2 h3))
  · exact I.kout q' e' (by omega) h2 h3 (old q' e' h1 h2 hL)
  · rw [hsuc, hcutν]; exact hst.trans hs
  · have hL' := old q' e' h1 h2 hL
    obtain ⟨lo, g1, g2, g3, g4, g5⟩ := I.al q' e' b' f' (by omega) h2 h3 hL'
    have hd := hdis q' e' lo (by omega) h2 ⟨b', f', h3⟩ hL' g1
    refine ⟨lo, by rw [hid q' e' h1 h2]; exact g1, ?_, g3, Nat.lt_of_lt_of_le g4 hs.size, fun x c lx g6 g7 => ?_⟩
    · rw [hs.keep lo.blk g4 (fun i x l hx hl => hd i x l hx hl)]
      exact g2.mono (cut_of_le hle _)
    · rw [hsuc] at g6 g7
      rw [hcutν] at g7
      rcases hs.foot x c lx g6 g7 with g8 | ⟨j, y, lj, g8, g9, g10⟩
      · omega
      · rw [← g10]; exact hd j y lj g8 g9
  · rw [hid q1 e1 h1 h3] at hl1
    rw [hid q2 e2 h2 h4] at hl2
    exact I.dj q1 e1 q2 e2 lo lo' (by omega) (by omega) h3 h4 h5 h6 (old q1 e1 h1 h3 hL1) (old q2 e2 h2 h4 hL2) hne hl1 hl2
  · rw [hsuc] at hx
    rw [hhi x hx] at hx2
    obtain ⟨q', e', g1, g2, g3, g4, g5⟩ := I.dom x (by omega) hx2
    have hne : q' ≠ q := fun hh => by subst hh; rw [he] at g2; injection g2 with g2; subst g2; exact hn g4
    have : ¬ q' < q := fun hlt => by have := C.al_lt g2 he g3 hlt; omega
    exact ⟨q', e', by omega, g2, g3, .inl g4, g5⟩
  · rw [hsuc]
    by_cases hqq : q' = q
    · subst hqq
      rw [he] at h1; injection h1 with h1; subst h1
      rw [put_own d h2 (Nat.lt_of_lt_of_le (C.dst_lt he h2) I.size)]
      refine VR.mono (cut_mono _ (Nat.le_max_right _ _)) ?_
      rw [hcutν]; exact hv
    · rw [put_other d (fun h => C.dst_ne he h1 (Ne.symm hqq) h h2)]
      have := I.vals q' e' d h1 (hL.resolve_right fun h => hqq (C.same he h1 h).1) h2
      exact (this.mono (cut_mono _ (Nat.max_le.2 ⟨Nat.le_max_left _ e.t.nx, Nat.le_trans (by omega) (Nat.le_max_right _ _)⟩))).mono (cut_of_le hle _)
  · rw [put_other t (hno q e he (.inr rfl))]
    exact I.rest t ht (fun q' e' h1 h2 => hno q' e' h1 (.inl h2))
end
end Go.Ev

namespace Go.Ev
variable {P : Program} {xk : FuncId → Option XK} {orc : Orc}

theorem wpIn_val {rr : Option Nat} {o : Oper} {a' : Act} {w w' : World} {v' : Value} {next : Act → World → Prop} {Q : Exit → Act → World → Prop} (hd : ∀ c, o.op ≠ .defer c) (h : (execOp a'.eval o).run P w = .ok (.value v') w')
    (hn : next (a'.put o.dst v') w') : o.wpIn (fenc rr) 0 P a' w next Q := by
  refine ⟨fun f _ => trivial, ?_⟩
  rw [Oper.semAt_eq _ _ _ hd, h]
  exact hn

theorem noSel_pure {a : AAct} {o : Oper} {v : Value} (h : pureOp' P a o = some v) : ∀ cs b, o.op ≠ .select cs b := fun cs b hop => by simp [pureOp', pureOp, hop] at h
theorem noSel_read {a : AAct} {o : Oper} {s : St} {v : Value} (h : readOp P a o s = some v) : ∀ cs b, o.op ≠ .select cs b := fun cs b hop => by simp [readOp, hop] at h
theorem noSel_alloc {a : AAct} {o : Oper} {r : Blk × (Nat → Value)} (h : allocOp P a o = some r) : ∀ cs b, o.op ≠ .select cs b := fun cs b hop => by simp [allocOp, hop] at h
theorem noSel_eff {rec : Rec} {a : AAct} {o : Oper} {s : St} {r : Value × St} (h : effOp P xk orc rec a o s = some r) : ∀ cs b, o.op ≠ .select cs b := fun cs b hop => by simp [effOp, hop] at h

section
variable {rec : Rec} {ops : Array Oper} {nt : Nat} {a0 : AAct} {s0 : St} {es : List Ent} {μ0 : Ren} {w0 : World} {df0 : List Deferred}
variable {L : Nat → Prop} {k : Nat} {μ : Ren} {a' : Act} {w : World}

theorem Inv.step (hx : XOk P xk) (ho : OrcOk P orc) (hnum : NumOk P) (hrec : RecOk P rec) (C : Ctx P xk orc rec ops nt a0 s0 es μ0 w0 df0) (I : Inv ops nt a0 s0 es μ0 w0 df0 L k μ a' w) {q : Nat} {e : Ent} (he : es[q]? = some e) (hn : ¬ L e.i)
    (hr : ∀ x ∈ e.o.after, Region.binds .any x = true → L x.on) {rr : Option Nat} {Q : Exit → Act → World → Prop} :
    wpOpIn (fenc rr) 0 P ops Q e.i (fun b' w' => ∃ k' μ', Inv ops nt a0 s0 es μ0 w0 df0 (fun i => L i ∨ i = e.i) k' μ' b' w') a' w := by
  have hop := C.opd_op he
  have hok := (C.run.ok q e he).2
  unfold wpOpIn
  simp only [hop]
  rw [I.wanted C he hn hr]
  obtain ⟨a, a'', hact, hA, hC⟩ := I.acts C he hn hr
  have hokq : okOper nt e.o = true := by
    have hoj : e.o ∈ ops.toList := by
      rw [Array.getElem?_eq_some_iff] at hop
      obtain ⟨h1, h2⟩ := hop
      rw [← h2]; simp
    exact List.all_eq_true.1 C.ok _ hoj
  have hok1 := okOper_ops hokq
  have hnn : ∀ i, max e.s.nx (stAt es s0 k).nx ≤ i → cut μ (max e.s.nx (stAt es s0 k).nx) i = none := fun i hi => by
    unfold cut; rw [if_neg (Nat.not_lt.2 hi)]
  have hsim : Sim (cut μ (max e.s.nx (stAt es s0 k).nx)) ⟨(stAt es s0 k).hp, max e.s.nx (stAt es s0 k).nx⟩ w :=
    I.stp.sim.more (cut_mono μ (Nat.le_max_right _ _)) hnn (Nat.le_trans I.stp.sim.nxb (Nat.le_max_right _ _))
  cases hk : e.k with
  | skip =>
    simp only [hk] at hok
    obtain ⟨h1, h2, h3⟩ := hok
    rw [h1]
    simp only [Bool.false_eq_true, if_false]
    refine ⟨fun f _ => trivial, k, μ, ?_⟩
    exact I.calm C he hr (by rw [hk]; simp) (fun ⟨b, f, h⟩ => by rw [hk] at h; cases h) (by rw [h2]; exact VR.undef _)
  | pure =>
    simp only [hk] at hok
    obtain ⟨h1, h2, h3, h4⟩ := hok
    rw [h1]
    simp only [if_true]
    obtain ⟨v', g1, g2⟩ := pureOp'_sound hsim hact hok1 (by rw [pureOp'_congr hA]; exact h3)
    rw [execOp_congr e.o (noSel_pure h3) hC] at g1
    exact wpIn_val h2 g1 ⟨k, μ, I.calm C he hr (by rw [hk]; simp) (fun ⟨b, f, h⟩ => by rw [hk] at h; cases h) (by rw [h4]; exact g2)⟩
  | read =>
    simp only [hk] at hok
    obtain ⟨h1, h2, h3, h4⟩ := hok
    rw [h1]
    simp only [if_true]
    obtain ⟨v1, hv1, hveq⟩ := C.run.read q e he hk k I.kb
      (fun q' e' g1 g2 g3 g4 => by
        cases hb : ((Region.before ops).getD e.i 0).testBit e'.i
        · rfl
        · exact absurd (closed_before I.cl e.i e.o e'.i hop hr hb) (I.kout q' e' g1 g3 g4))
      (fun q' e' g1 g2 g3 g4 => by
        cases hb : ((Region.before ops).getD e'.i 0).testBit e.i
        · rfl
        · exact absurd (closed_before I.cl e'.i e'.o e.i (C.opd_op g3) (fun x hx hxb => I.cl e'.i e'.o (C.opd_op g3) (I.kin q' e' g2 g3 (.inl g4)) x hx hxb) hb) hn)
    have := vEq_eq hveq
    subst this
    obtain ⟨v', g1, g2⟩ := readOp_sound hsim hact hok1 (v := e.v) (by
      rw [readOp_congr hA]
      have : readOp P e.a e.o ⟨(stAt es s0 k).hp, max e.s.nx (stAt es s0 k).nx⟩ = readOp P e.a e.o (stAt es s0 k) := rfl
      rw [this]; exact hv1)
    rw [execOp_congr e.o (noSel_read h3) hC] at g1
    exact wpIn_val h2 g1 ⟨k, μ, I.calm C he hr (by rw [hk]; simp) (fun ⟨b, f, h⟩ => by rw [hk] at h; cases h) (by rw [h4]; exact g2)⟩
  | alloc b f =>
    simp only [hk] at hok
    obtain ⟨h1, h2, h3, h4, h5⟩ := hok
    rw [h1]
    simp only [if_true]
    have hkq : k ≤ q := by
      rcases Nat.lt_or_ge q k with h | h
      · exact absurd (I.kin q e h he (.inr ⟨b, f, hk⟩)) hn
      · exact h
    have hmax : max e.s.nx (stAt es s0 k).nx = e.s.nx := Nat.max_eq_left (C.k_le he hkq)
    rw [hmax] at hsim hact
    obtain ⟨obj, csz, v', g1, g2, g3⟩ := allocOp_sound hsim hact hok1 (by rw [allocOp_congr hA]; exact h3)
    rw [execOp_congr e.o (noSel_alloc h3) hC] at g1
    exact wpIn_val h2 g1 ⟨k, _, I.alloc C he hn hr hk g2 (by rw [h4]; exact g3)⟩
  | eff =>
    simp only [hk] at hok
    obtain ⟨h1, h2, h3, h4⟩ := hok
    rw [h1]
    simp only [if_true]
    obtain ⟨hkq, hst, hdis⟩ := I.found C he hn hr hk
    have hmax : max e.s.nx (stAt es s0 k).nx = e.s.nx := Nat.max_eq_left (C.k_le he hkq)
    rw [hmax] at hact
    have hnx := effOp_sound hx ho hnum hrec hst.sim hact hok1 (by rw [effOp_congr hA]; exact h3)
    rw [execOp_congr e.o (noSel_eff h3) hC] at hnx
    exact upon_of hnx h2 fun ν w' x hs hv => I.eff C he hn hr hk hs hv

/-- All is done. -/
theorem Inv.fin (C : Ctx P xk orc rec ops nt a0 s0 es μ0 w0 df0) (I : Inv ops nt a0 s0 es μ0 w0 df0 L k μ a' w) (hall : ∀ (q : Nat) (e : Ent), es[q]? = some e → L e.i) :
    ∃ ν, Stp μ0 s0 w0 ν (stAt es s0 es.length) w ∧ ActR ν nt (acAt es a0 es.length) a' := by
  have := I.asm C (es.length - k) (by have := I.kle; omega) (fun p e h1 h2 h3 => ⟨fun hh => I.kout p e h1 h3 hh (hall p e h3), fun _ => hall p e h3⟩)
  rw [show k + (es.length - k) = es.length by have := I.kle; omega] at this
  refine ⟨_, this.1, ⟨I.size, fun t ht => ?_⟩, ?_⟩
  · by_cases hw : ∃ (q : Nat) (e : Ent), es[q]? = some e ∧ e.o.dst = some t
    · obtain ⟨p, f, hp, hd⟩ := hw
      have hlt := lt_of_get hp
      have e1 := C.tmp_new hp hd (es.length - (p + 1)) (by omega)
      rw [show p + 1 + (es.length - (p + 1)) = es.length by omega] at e1
      simp only [AAct.tmp] at e1
      rw [e1]
      refine (I.vals p f t hp (hall p f hp) hd).mono (cut_mono μ (Nat.max_le.2 ⟨?_, C.nx_le I.kle (Nat.le_refl _)⟩))
      rw [C.t_eq hp]; exact C.nx_le (by omega) (Nat.le_refl _)
    · have e1 := C.tmp_old t es.length (Nat.le_refl _) (fun q' e' _ h2 h3 => hw ⟨q', e', h2, h3⟩)
      simp only [AAct.tmp] at e1
      rw [e1]
      exact (I.rest t ht (fun q e h1 _ h3 => hw ⟨q, e, h1, h3⟩)).mono (I.mu0 C (C.nx0 (Nat.le_refl _)))
  · rw [C.df_eq _ (Nat.le_refl _), I.dfr]
    exact C.df.mono (I.mu0 C (C.nx0 (Nat.le_refl _)))

theorem countP_lt {p p' : Nat → Bool} : ∀ {l : List Nat} {i : Nat}, i ∈ l → p i = true → p' i = false → (∀ j, p' j = true → p j = true) → l.countP p' < l.countP p
  | j :: l, i, hi, h1, h2, h3 => by
    have hle : l.countP p' ≤ l.countP p := List.countP_mono_left fun x _ hx => h3 x hx
    simp only [List.countP_cons]
    by_cases hij : i = j
    · subst hij
      simp [h1, h2]; omega
    · have hm : i ∈ l := (List.mem_cons.1 hi).resolve_left hij
      have := countP_lt hm h1 h2 h3
      by_cases hp : p' j = true
      · simp [hp, h3 j hp]; omega
      · simp [hp]; split <;> omega

theorem any_sound (hx : XOk P xk) (ho : OrcOk P orc) (hnum : NumOk P) (hrec : RecOk P rec) (C : Ctx P xk orc rec ops nt a0 s0 es μ0 w0 df0) {rr : Option Nat} {Q : Exit → Act → World → Prop}
    (hQ : ∀ ν w b', Stp μ0 s0 w0 ν (stAt es s0 es.length) w → ActR ν nt (acAt es a0 es.length) b' → Q .normal b' w) :
    ∀ (fuel : Nat) (listed : Array Bool) (L : Nat → Prop) (k : Nat) (μ : Ren) (a' : Act) (w : World), listed.size = ops.size → (∀ i, i < ops.size → (L i ↔ listed.getD i false = true)) →
    (List.range ops.size).countP (fun i => !listed.getD i false) ≤ fuel → Inv ops nt a0 s0 es μ0 w0 df0 L k μ a' w → wpAnyIn (fenc rr) 0 P .any ops Q fuel listed a' w := by
  intro fuel
  induction fuel with
  | zero =>
    intro listed L k μ a' w hsz hL hc I
    have hall : ∀ i, i < ops.size → L i := fun i hi => by
      rw [hL i hi]
      have := List.countP_eq_zero.1 (Nat.le_zero.1 hc) i (by simpa using hi)
      simpa using this
    have hall2 : ∀ (q : Nat) (e : Ent), es[q]? = some e → L e.i := fun q e he => hall _ (Array.getElem?_eq_some_iff.1 (C.opd_op he)).1
    refine ⟨?_, ?_⟩
    · refine List.eq_nil_iff_forall_not_mem.2 fun i hi => ?_
      obtain ⟨h1, o, h2, h3⟩ := mem_ready.1 hi
      have hlt := (Array.getElem?_eq_some_iff.1 h2).1
      have h4 := (hL i hlt).1 (hall i hlt)
      have : listed.getD i true = listed.getD i false := by simp [Array.getD, hsz, hlt]
      rw [this, h4] at h1; cases h1
    · obtain ⟨ν, h1, h2⟩ := I.fin C hall2
      exact hQ ν w a' h1 h2
  | succ fuel ih =>
    intro listed L k μ a' w hsz hL hc I
    have hget : ∀ i, i < ops.size → listed.getD i true = listed.getD i false := fun i hi => by simp [Array.getD, hsz, hi]
    refine ⟨fun hnil => ?_, fun i hi => ?_⟩
    · have hall2 : ∀ (q : Nat) (e : Ent), es[q]? = some e → L e.i := fun q => by
        induction q using Nat.strongRecOn with
        | _ q ihq =>
          intro e he
          have hlt := (Array.getElem?_eq_some_iff.1 (C.opd_op he)).1
          by_cases hLe : L e.i
          · exact hLe
          · have hready : e.i ∈ Region.ready .any ops listed := by
              refine mem_ready.2 ⟨?_, e.o, C.opd_op he, fun x hx hb => ?_⟩
              · rw [hget _ hlt]
                cases h : listed.getD e.i false
                · rfl
                · exact absurd ((hL _ hlt).2 h) hLe
              · obtain ⟨q', e', h1, h2, h3⟩ := C.ord q e x he hx hb
                have := ihq q' h1 e' h2
                rw [h3] at this
                have hlt' : x.on < ops.size := h3 ▸ (Array.getElem?_eq_some_iff.1 (C.opd_op h2)).1
                exact (hL _ hlt').1 this
            rw [hnil] at hready; cases hready
      obtain ⟨ν, h1, h2⟩ := I.fin C hall2
      exact hQ ν w a' h1 h2
    · obtain ⟨h1, o, h2, h3⟩ := mem_ready.1 hi
      have hlt := (Array.getElem?_eq_some_iff.1 h2).1
      obtain ⟨q, e, he, rfl⟩ := C.cov i hlt
      have hoe : e.o = o := by have := C.opd_op he; rw [h2] at this; injection this with this; exact this.symm
      subst hoe
      rw [hget _ hlt] at h1
      have hn : ¬ L e.i := fun hLe => by rw [(hL _ hlt).1 hLe] at h1; cases h1
      have hr : ∀ x ∈ e.o.after, Region.binds .any x = true → L x.on := fun x hx hb => by
        have hlt' : x.on < ops.size := by have := C.reg.edge e.i e.o h2 x hx hb; omega
        exact (hL _ hlt').2 (h3 x hx hb)
      refine wpOpIn_mono (fun b' w' hI => ?_) (I.step hx ho hnum hrec C he hn hr)
      obtain ⟨k', μ', hI⟩ := hI
      refine ih (listed.setIfInBounds e.i true) _ k' μ' b' w' (by simpa using hsz) (fun j hj => ?_) ?_ hI
      · by_cases hje : j = e.i
        · subst hje
          have : (listed.setIfInBounds e.i true).getD e.i false = true := by simp [hsz, hlt]
          rw [this]; simp
        · rw [getD_set_ne false (Ne.symm hje), ← hL j hj]
          exact ⟨fun h => h.resolve_right hje, .inl⟩
      · have := countP_lt (p := fun i => !listed.getD i false) (p' := fun i => !(listed.setIfInBounds e.i true).getD i false) (l := List.range ops.size) (i := e.i) (by simpa using hlt) (by simp only [h1]; rfl)
          (by have : (listed.setIfInBounds e.i true).getD e.i false = true := by simp [hsz, hlt]
              simp only [this]; rfl)
          (fun j hj => by
            by_cases hje : j = e.i
            · subst hje; simp only [h1]; rfl
            · rw [getD_set_ne false (Ne.symm hje)] at hj; exact hj)
        omega
end

theorem draw_sound (hx : XOk P xk) (ho : OrcOk P orc) (hnum : NumOk P) (hm : P.follows .mixedOrders = true) : DrawG P xk orc := by
  intro rec hrec nt ops a b s s' id hok hreg hord hv μ w a' rr h ha
  obtain ⟨es, h1, h2, _⟩ := chain_of hv
  have hrun := run_of h2
  obtain ⟨hidx, hb, hs'⟩ := chain_idx h2
  obtain ⟨o1, o2⟩ := ordOk_spec _ _ hord
  have hget : ∀ (q : Nat) (e : Ent), es[q]? = some e → (ordOf ops)[q]? = some e.i := fun q e he => by rw [← h1]; simp [he]
  have hgot : ∀ (q i : Nat), (ordOf ops)[q]? = some i → ∃ e : Ent, es[q]? = some e ∧ e.i = i := fun q i hq => by
    rw [← h1, List.getElem?_map] at hq
    cases he : es[q]? with
    | none => rw [he] at hq; cases hq
    | some e => rw [he] at hq; simp at hq; exact ⟨e, rfl, hq⟩
  let w1 : World := { w with drawn := w.drawn + 1 }
  have hst1 : Stp μ s w μ s w1 := Stp.same h rfl rfl rfl rfl
  have C : Ctx P xk orc rec ops nt a s es μ w1 a'.defers := by
    refine ⟨hrun, fun q q' e e' g1 g2 g3 => ?_, fun i hi => ?_, fun q e x g1 g2 g3 => ?_, regOk_spec hreg, hok, hst1.sim, ha.df⟩
    · rcases Nat.lt_trichotomy q q' with hlt | heq | hlt
      · obtain ⟨o, _, _, g4, _⟩ := o1 q' e'.i (hget q' e' g2)
        exact absurd (by rw [hget q e g1, g3]) (g4 q hlt)
      · exact heq
      · obtain ⟨o, _, _, g4, _⟩ := o1 q e.i (hget q e g1)
        exact absurd (by rw [hget q' e' g2, g3]) (g4 q' hlt)
    · rcases o2 i hi with g | ⟨q, g⟩
      · simp at g
      · obtain ⟨e, g1, g2⟩ := hgot q i g
        exact ⟨q, e, g1, g2⟩
    · obtain ⟨o, g4, _, _, g5⟩ := o1 q e.i (hget q e g1)
      have : o = e.o := by have := (hidx q e g1).1.1; rw [g4] at this; injection this
      subst this
      rcases g5 x g2 g3 with g | ⟨q', g, g'⟩
      · simp at g
      · obtain ⟨e', g6, g7⟩ := hgot q' x.on g'
        exact ⟨q', e', g, g6, g7⟩
  have I : Inv ops nt a s es μ w1 a'.defers (fun _ => False) 0 μ a' w1 := by
    have hcut : cut μ s.nx = μ := by
      funext i
      unfold cut
      by_cases hi : i < s.nx
      · rw [if_pos hi]
      · rw [if_neg hi]; exact (h.nxt i (by omega)).symm
    refine ⟨fun i o _ hf => hf.elim, Nat.zero_le _, .inl rfl, fun q e hq => by omega, fun q e _ _ _ hf => hf, ?_, fun q e b f _ _ _ hf => hf.elim, fun q1 e1 q2 e2 lo lo' _ _ _ _ _ _ hf => hf.elim, fun x hxn hx2 => ?_, fun q e d _ hf => hf.elim, fun t ht _ => ha.tm.at_ t ht, ha.tm.size, rfl⟩
    · change Stp μ s w1 (cut μ s.nx) s w1
      rw [hcut]; exact Stp.refl hst1.sim
    · exact absurd (h.nxt x hxn) hx2
  refine wpIn_region_any hm ?_
  refine any_sound hx ho hnum hrec C (fun ν w' b' g1 g2 => ?_) ops.size _ (fun _ => False) 0 μ a' w1 (by simp) (fun i hi => ?_) ?_ I
  · refine ⟨rfl, ν, ?_, ?_⟩
    · rw [hs']; exact hst1.trans g1
    · rw [hb]; exact g2
  · simp [hi]
  · have := List.countP_le_length (p := fun i => !(Array.replicate ops.size false).getD i false) (l := List.range ops.size)
    simpa using this
end Go.Ev

noncomputable section
namespace Go.Ev
variable (P : Program)

/-! ### The same evaluator, in small pieces: for the kernel -/
/-- A pair is taken apart at once: no chain of projections is left behind. -/
def bnd {α β γ : Type} (x : Option (α × β)) (f : α → β → Option γ) : Option γ :=
  match x with
  | some (a, b) => f a b
  | none => none
theorem bnd_eq {α β γ : Type} (x : Option (α × β)) (f : α → β → Option γ) : bnd x f = x.bind fun r => f r.1 r.2 := by
  cases x with
  | none => rfl
  | some p => cases p; rfl
def pPick (a : AAct) (c x y : Operand) : Option Value := match opd a c with | .bool b => some (bif b then opd a x else opd a y) | _ => none
def pBuild (a : AAct) (t : TypeId) (ps : Array (Nat × Operand)) : Option Value := (zeroC P t).bind fun _ => pureRun P (Instr.build t (ps.map fun p => (p.1, opd a p.2)))
def pNil : Value → Option Value
  | .pointer (some b) => some (.pointer (some b))
  | .func (.func f) p c => some (.func (.func f) p c)
  | .func (.yield l) p c => some (.func (.yield l) p c)
  | _ => none
def pMkI (a : AAct) (t : TypeId) (x : Operand) : Option Value :=
  match P.underlying t with
  | some (.interface _) | none => none
  | some _ => some (.iface t (opd a x))
def pMkF (a : AAct) (fn : Fn) (first cap : Array Operand) : Option Value := match fn with
  | .func f => some (.func (.func f) (first.map (opd a)) (cap.map (opd a)))
  | _ => none
def pSlice (a : AAct) (o : Oper) (t : TypeId) (x : Operand) (lo hi mx : Option Operand) : Option Value :=
  match opd a x with
  | .string _ => fallback P (opd a) o
  | v => bif mx.isSome && hi.isNone then none else sliceV P t v (lo.map (opd a)) (hi.map (opd a)) (mx.map (opd a))
def dropB (l : List UInt8) : Nat → List UInt8 :=
  List.rec (motive := fun _ => Nat → List UInt8) (fun _ => []) (fun v tl ih n => Nat.rec (motive := fun _ => List UInt8) (v :: tl) (fun m _ => ih m) n) l
def takeB (l : List UInt8) : Nat → List UInt8 :=
  List.rec (motive := fun _ => Nat → List UInt8) (fun _ => []) (fun v _ ih n => Nat.rec (motive := fun _ => List UInt8) [] (fun m _ => v :: ih m) n) l
theorem dropB_eq : ∀ (l : List UInt8) (n : Nat), dropB l n = l.drop n
  | [], n => by simp [dropB]
  | _ :: _, 0 => rfl
  | _ :: l, n + 1 => by show dropB l n = _; rw [dropB_eq l n]; simp
theorem takeB_eq : ∀ (l : List UInt8) (n : Nat), takeB l n = l.take n
  | [], n => by simp [takeB]
  | _ :: _, 0 => rfl
  | v :: l, n + 1 => by show v :: takeB l n = _; rw [takeB_eq l n]; simp
def pStrSl (t : TypeId) (l : List UInt8) (lo hi : Option Value) : Option Value :=
  match P.underlying t, bound lo 0, bound hi l.length with
  | some .string, some a, some b => bif Nat.ble a b && Nat.ble b l.length then some (.string ⟨⟨takeB (dropB l a) (Nat.sub b a)⟩⟩) else none
  | _, _, _ => none
def pSliceF (a : AAct) (o : Oper) (t : TypeId) (x : Operand) (lo hi mx : Option Operand) : Option Value :=
  match opd a x, mx with
  | .string ⟨⟨l⟩⟩, none => (match pStrSl P t l (lo.map (opd a)) (hi.map (opd a)) with
    | some v => some v
    | none => fallback P (opd a) o)
  | _, _ => pSlice P a o t x lo hi mx
theorem nat_eq {v : Value} {n : Nat} (h : nat v = some n) : ∃ k, v = .int k (n : Int) := by
  unfold nat at h
  split at h
  · next k m => injection h with h; exact ⟨k, by rw [h]; rfl⟩
  · cases h
theorem sliceBound_pure {v : Value} {n y : Nat} {c : BoundsCode} (h : nat v = some n) (hn : n ≤ y) : pureRun P (Instr.sliceBound v y c) = some n := by
  obtain ⟨k, rfl⟩ := nat_eq h
  unfold Instr.sliceBound
  refine (pureRun_bind _ _ _).2 ⟨(k, (n : Int)), rfl, ?_⟩
  have h1 : (0 : Int) ≤ (n : Int) ∧ (n : Int) ≤ (y : Int) := ⟨Int.natCast_nonneg n, by omega⟩
  simp only [h1, and_self, if_true, Int.toNat_natCast]
  rfl
theorem sliceBounds_pure {lo hi : Option Value} {l h n : Nat} (hl : bound lo 0 = some l) (hh : bound hi n = some h) (h1 : l ≤ h) (h2 : h ≤ n) :
    pureRun P (Instr.sliceBounds false n n lo hi none) = some (l, h, n) := by
  unfold Instr.sliceBounds
  have k1 : ∀ v, hi = some v → ∀ c, pureRun P (Instr.sliceBound v n c) = some h := fun v hv c => by subst hv; exact sliceBound_pure P hh h2
  have k2 : ∀ v, lo = some v → ∀ c, pureRun P (Instr.sliceBound v h c) = some l := fun v hv c => by subst hv; exact sliceBound_pure P hl h1
  refine (pureRun_bind _ _ _).2 ⟨n, rfl, ?_⟩
  cases hi with
  | none =>
    injection hh with hh; subst hh
    refine (pureRun_bind _ _ _).2 ⟨n, rfl, ?_⟩
    cases lo with
    | none => injection hl with hl; subst hl; rfl
    | some v => exact (pureRun_bind _ _ _).2 ⟨l, k2 v rfl _, rfl⟩
  | some u =>
    refine (pureRun_bind _ _ _).2 ⟨h, k1 u rfl _, ?_⟩
    cases lo with
    | none => injection hl with hl; subst hl; rfl
    | some v => exact (pureRun_bind _ _ _).2 ⟨l, k2 v rfl _, rfl⟩
theorem closed_bound {v : Option Value} {d n : Nat} (h : bound v d = some n) : ∀ y, v = some y → closed y = true := by
  intro y hy
  subst hy
  obtain ⟨k, rfl⟩ := nat_eq h
  rfl
theorem pSliceF_eq (a : AAct) (o : Oper) (t : TypeId) (x : Operand) (lo hi mx : Option Operand) (h : o.op = .slice t x lo hi mx) : pSliceF P a o t x lo hi mx = pSlice P a o t x lo hi mx := by
  unfold pSliceF
  split
  · next l hx =>
    have h1 : pSlice P a o t x lo hi none = fallback P (opd a) o := by unfold pSlice; rw [hx]
    rw [h1]
    split
    · next v hv =>
      unfold pStrSl at hv
      split at hv
      · next lo' hi' hu hlo hhi =>
        cases hb : (Nat.ble lo' hi' && Nat.ble hi' l.length) <;> rw [hb] at hv
        · cases hv
        · rw [cond_true] at hv
          simp only [Bool.and_eq_true, Nat.ble_eq] at hb
          rw [← hv]
          unfold fallback
          have ho : (o.op.operands.toList.all fun y => closed (opd a y)) = true := by
            have c1 := closed_bound hlo
            have c2 := closed_bound hhi
            rw [h]
            cases lo <;> cases hi <;> simp_all [Op.operands, closed, atom]
          rw [ho, cond_true]
          have hs : pureRun P (Instr.sliceAt t (opd a x) (lo.map (opd a)) (hi.map (opd a)) none) = some (.string ⟨⟨takeB (dropB l lo') (Nat.sub hi' lo')⟩⟩) := by
            rw [hx]
            unfold Instr.sliceAt
            refine (pureRun_bind _ _ _).2 ⟨.string, ?_, ?_⟩
            · unfold underlying
              refine (pureRun_bind _ _ _).2 ⟨P, rfl, ?_⟩
              rw [hu]; rfl
            · show pureRun P (Instr.slice _ _ _ _ _) = _
              unfold Instr.slice
              refine (pureRun_bind _ _ _).2 ⟨.string, ?_, ?_⟩
              · unfold underlying
                refine (pureRun_bind _ _ _).2 ⟨P, rfl, ?_⟩
                rw [hu]; rfl
              · refine (pureRun_bind _ _ _).2 ⟨(lo', hi', l.length), sliceBounds_pure P hlo hhi hb.1 hb.2, ?_⟩
                have he : (ByteArray.mk ⟨l⟩).extract lo' hi' = ⟨⟨takeB (dropB l lo') (Nat.sub hi' lo')⟩⟩ := by
                  have := Lib.extract_data ⟨⟨l⟩⟩ lo' hi'
                  rw [takeB_eq, dropB_eq]
                  generalize (ByteArray.mk ⟨l⟩).extract lo' hi' = z at this
                  obtain ⟨⟨z⟩⟩ := z
                  simp only at this
                  rw [this]; rfl
                rw [← he]
                rfl
          have hp : pureRun P (execOp (opd a) o) = some (.value (.string ⟨⟨takeB (dropB l lo') (Nat.sub hi' lo')⟩⟩)) := by
            unfold execOp
            rw [h]
            exact (pureRun_bind _ _ _).2 ⟨_, hs, rfl⟩
          rw [hp]
          rfl
      · cases hv
    · rfl
  · rfl
def pFA (a : AAct) (t : TypeId) (x : Operand) (f : Nat) : Option Value :=
  match P.underlying t with
  | some (.struct fs) => match fs[f]? with
    | some f => (ptr (opd a x)).bind fun p => (szOf P f.type).bind fun n => bif Nat.beq n 0 then none else some (.pointer (some (adv p f.offset)))
    | none => none
  | _ => none
def pField (a : AAct) (t : TypeId) (x : Operand) (f : Nat) : Option Value :=
  match P.underlying t, opd a x with
  | some (.struct fs), .agg ⟨cs⟩ => match fs[f]? with
    | some f => partV P f.type cs f.offset
    | none => none
  | _, _ => none
def pIA (a : AAct) (t : TypeId) (x i : Operand) : Option Value :=
  (nat (opd a i)).bind fun i =>
    match P.underlying t, opd a x with
    | some (.array n e), .pointer (some ⟨b, o, none⟩) => (szOf P e).bind fun size => bif Nat.blt i n then some (.pointer (some (adv ⟨b, o, none⟩ (Nat.mul i size)))) else none
    | some (.slice e), .slice (some ⟨b, o, none⟩) n _ => (szOf P e).bind fun size => bif Nat.blt i n then some (.pointer (some (adv ⟨b, o, none⟩ (Nat.mul i size)))) else none
    | _, _ => none
/-- Elements and bytes by plain recursors. -/
def nthR (l : List Value) : Nat → Option Value :=
  List.rec (motive := fun _ => Nat → Option Value) (fun _ => none) (fun v _ ih n => Nat.rec (motive := fun _ => Option Value) (some v) (fun m _ => ih m) n) l
theorem nthR_eq : ∀ (l : List Value) (n : Nat), nthR l n = nth n l
  | [], 0 => rfl
  | [], _ + 1 => rfl
  | _ :: _, 0 => rfl
  | _ :: l, n + 1 => nthR_eq l n
def nthB (l : List UInt8) : Nat → Option UInt8 :=
  List.rec (motive := fun _ => Nat → Option UInt8) (fun _ => none) (fun v _ ih n => Nat.rec (motive := fun _ => Option UInt8) (some v) (fun m _ => ih m) n) l
theorem nthB_eq : ∀ (l : List UInt8) (n : Nat), nthB l n = l[n]?
  | [], n => by simp [nthB]
  | _ :: _, 0 => rfl
  | _ :: l, n + 1 => by show nthB l n = _; rw [nthB_eq l n]; simp
def loadVF (s : St) (t : TypeId) (a : Addr) : Option Value :=
  match aggN P t with
  | some (some n) => (loadN s a n).bind fun l => some (.agg ⟨l⟩)
  | some none => (cellsOf s a.block).bind fun l => nthR l a.off
  | none => none
theorem loadVF_eq (s : St) (t : TypeId) (a : Addr) : loadVF P s t a = loadV P s t a := by
  unfold loadVF loadV
  have : (fun l => nthR l a.off) = nth a.off := by funext l; exact nthR_eq l a.off
  rw [this]
  rfl
def pStrIdx (t : TypeId) (l : List UInt8) : Value → Option Value
  | .int .i64 (.ofNat n) => (match P.underlying t with
    | some .string => (match nthB l n with
      | some b => some (.int .u8 b.toNat)
      | none => none)
    | _ => none)
  | _ => none
def pIdx (a : AAct) (o : Oper) (t : TypeId) (x i : Operand) : Option Value :=
  match opd a x with
  | .agg ⟨cs⟩ => (nat (opd a i)).bind fun i =>
    match P.underlying t with
    | some (.array n e) => (szOf P e).bind fun size => bif Nat.blt i n then partV P e cs (Nat.mul i size) else none
    | _ => none
  | _ => fallback P (opd a) o
def pIdxF (a : AAct) (o : Oper) (t : TypeId) (x i : Operand) : Option Value :=
  match opd a x with
  | .string ⟨⟨l⟩⟩ => (match pStrIdx P t l (opd a i) with
    | some v => some v
    | none => fallback P (opd a) o)
  | _ => pIdx P a o t x i
theorem pIdxF_eq (a : AAct) (o : Oper) (t : TypeId) (x i : Operand) (h : o.op = .index t x i) : pIdxF P a o t x i = pIdx P a o t x i := by
  unfold pIdxF
  split
  · next l hx =>
    have h1 : pIdx P a o t x i = fallback P (opd a) o := by unfold pIdx; rw [hx]
    rw [h1]
    split
    · next v hv =>
      unfold pStrIdx at hv
      split at hv
      · next n hi =>
        split at hv
        · next hu =>
          split at hv
          · next b hb =>
            rw [nthB_eq] at hb
            rw [← hv]
            unfold fallback
            have ho : (o.op.operands.toList.all fun y => closed (opd a y)) = true := by rw [h]; simp [Op.operands, hx, hi, closed, atom]
            rw [ho, cond_true]
            have hs : (ByteArray.mk ⟨l⟩)[n]? = some b := by
              obtain ⟨hn, he⟩ := List.getElem?_eq_some_iff.1 hb
              have hn' : n < (ByteArray.mk ⟨l⟩).size := hn
              rw [getElem?_pos (ByteArray.mk ⟨l⟩) n hn']
              exact congrArg some he
            have hidx : pureRun P (Instr.index t (opd a x) (opd a i)) = some (.int .u8 b.toNat) := by
              rw [hx, hi]
              unfold Instr.index
              refine (pureRun_bind _ _ _).2 ⟨(.i64, (n : Int)), rfl, ?_⟩
              refine (pureRun_bind _ _ _).2 ⟨.string, ?_, ?_⟩
              · unfold underlying
                refine (pureRun_bind _ _ _).2 ⟨P, rfl, ?_⟩
                rw [hu]; rfl
              · have h0 : (0 : Int) ≤ (n : Int) := Int.natCast_nonneg n
                simp only [h0, if_true, Int.toNat_natCast, hs]
                rfl
            have hp : pureRun P (execOp (opd a) o) = some (.value (.int .u8 b.toNat)) := by
              unfold execOp
              rw [h]
              exact (pureRun_bind _ _ _).2 ⟨_, hidx, rfl⟩
            rw [hp]
            rfl
          · cases hv
        · cases hv
      · cases hv
    · rfl
  · rfl
def pTA (a : AAct) (x : Operand) (want : TypeId) (ok : Bool) : Option Value :=
  match P.underlying want, opd a x with
  | some (.interface _), _ => none
  | some _, .iface t v => bif Nat.beq t want then some (bif ok then .tuple ⟨[v, .bool true]⟩ else v) else none
  | _, _ => none
def pExt (a : AAct) (t : Operand) (i : Nat) : Option Value := match opd a t with | .tuple ⟨vs⟩ => nth i vs | _ => none
def pCall (a : AAct) (o : Oper) (c : Call) : Option Value :=
  match c.callee, c.args.toList.map (opd a), c.argTypes.toList with
  | .builtin .len, [.slice _ n _], [t] => (match P.underlying t with
    | some (.slice _) => some (.int .i64 n)
    | _ => none)
  | .builtin .cap, [.slice _ _ k], [t] => (match P.underlying t with
    | some (.slice _) => (bif Nat.blt k unk then some (.int .i64 k) else none)
    | _ => none)
  | .builtin .len, _, _ => fallback P (opd a) o
  | .builtin .min, _, _ => fallback P (opd a) o
  | .builtin .max, _, _ => fallback P (opd a) o
  | _, _, _ => none

def pureF (a : AAct) (o : Oper) (op : Op) : Option Value :=
  match op with
  | .move x | .assign x => some (opd a x)
  | .pick c x y => pPick a c x y
  | .build t ps => pBuild P a t ps
  | .nilCheck x => pNil (opd a x)
  | .makeInterface t x => pMkI P a t x
  | .makeFunc fn first cap => pMkF a fn first cap
  | .slice t x lo hi mx => pSliceF P a o t x lo hi mx
  | .fieldAddr t x f => pFA P a t x f
  | .field t x f => pField P a t x f
  | .indexAddr t x i => pIA P a t x i
  | .index t x i => pIdxF P a o t x i
  | .typeAssert x _ want ok => pTA P a x want ok
  | .extract t i => pExt a t i
  | .call c => pCall P a o c
  | .binOp .. | .unOp .. | .convert .. => fallback P (opd a) o
  | _ => none
theorem pureF_eq (a : AAct) (o : Oper) : pureF P a o o.op = pureOp P a o := by
  unfold pureF pureOp
  cases hop : o.op <;> first | rfl | skip
  case makeFunc fn first cap => cases fn <;> rfl
  case index t x i => exact pIdxF_eq P a o t x i hop
  case slice t x lo hi mx => exact pSliceF_eq P a o t x lo hi mx hop

def rEntry (s : St) : Value → Option Value
  | .pointer (some ⟨r, 0, none⟩) => match s.hp.get r with
    | some (.miter m _ seen stepped) => match s.hp.get m with
      | some (.map es clk) => bif Nat.beq clk stepped then
          (match seen.getLast? with
           | some stamp => match es.find? (fun e => e.born == stamp) with
             | some e => some (.tuple ⟨[e.key, e.val]⟩)
             | none => none
           | none => none)
        else none
      | _ => none
    | _ => none
  | _ => none
def rConv (s : St) (src dst : TypeId) : Value → Option Value
  | .slice (some ⟨b, o, none⟩) n _ =>
    match P.underlying src, P.underlying dst with
    | some (.slice e), some .string => match P.underlying e with
      | some (.int .u8) => (loadN s ⟨b, o, none⟩ n).bind fun l => (bytesOfCells l).bind fun bs => some (.string ⟨⟨bs⟩⟩)
      | _ => none
    | _, _ => none
  | .pointer (some ⟨b, o, none⟩) =>
    match P.underlying src, P.underlying dst, s.hp.get b with
    | some (.pointer t), some .unsafePointer, some (.cells vs _ _ _ _) =>
      (szOf P t).bind fun n => bif Nat.beq n 0 then none else bif Nat.blt o vs.length then some (.pointer (some ⟨b, o, none⟩)) else none
    | some .unsafePointer, some (.pointer u), some (.cells vs e _ false _) =>
      (szOf P u).bind fun n => bif Nat.beq n 0 then none else bif liesAt P P.depth e (vs.length / P.cellsOf e) o u 1 then some (.pointer (some ⟨b, o, none⟩)) else none
    | _, _, _ => none
  | _ => none
def rCall (a : AAct) (c : Call) (s : St) : Option Value :=
  match c.callee, c.args.toList.map (opd a), c.argTypes.toList with
  | .builtin .len, [.map (some r)], [t] => (match P.underlying t with
    | some (.map _ _) => (match s.hp.get r with | some (.map es _) => some (.int .i64 es.length) | _ => none)
    | _ => none)
  | _, _, _ => none
def readF (a : AAct) (op : Op) (s : St) : Option Value :=
  match op with
  | .load t x => (ptr (opd a x)).bind (loadVF P s t)
  | .lookup t m k ok => lookupV P s t (opd a m) (opd a k) ok
  | .entry it => rEntry s (opd a it)
  | .convert src dst x => rConv P s src dst (opd a x)
  | .call c => rCall P a c s
  | _ => none
theorem readF_eq (a : AAct) (o : Oper) (s : St) : readF P a o.op s = readOp P a o s := by
  unfold readF readOp
  have : loadVF P s = loadV P s := by funext t p; exact loadVF_eq P s t p
  rw [this]
  cases o.op <;> rfl

def aSlice (a : AAct) (t : TypeId) (len : Nat) (ps : Array (Nat × Operand)) : Option (Blk × (Nat → Value)) :=
  match P.underlying t with
  | some (.slice e) => (szOf P e).bind fun size => (zeroC P e).bind fun z =>
    bif Nat.ble (Nat.mul len size) 65536 && Nat.ble len 65536 && Nat.beq z.cells.toList.length size then
      match Instr.fill (fun i => some (i * size, size)) ⟨zeros z.cells.toList len⟩ (ps.map fun p => (p.1, opd a p.2)).toList with
      | some ⟨cs⟩ => some (.cells cs e 0 false false, fun b => .slice (some ⟨b, 0, none⟩) len len)
      | none => none
    else none
  | _ => none
def aMake (a : AAct) (t : TypeId) (l c : Operand) : Option (Blk × (Nat → Value)) :=
  match P.underlying t, nat (opd a l), nat (opd a c) with
  | some (.slice e), some l, some c =>
    (P.info? e).bind fun i => (zeroC P e).bind fun z =>
      bif Nat.ble l c && Nat.ble c 65536 && Nat.ble i.bytes 65536 && Nat.beq z.cells.toList.length i.size then
        some (.cells (zeros z.cells.toList c) e 0 false false, fun b => .slice (some ⟨b, 0, none⟩) l c)
      else none
  | _, _, _ => none
def aMap : Option Operand → Option (Blk × (Nat → Value))
  | none => some (.map [] 0, fun b => .map (some b))
  | some _ => none
def allocF (a : AAct) (op : Op) : Option (Blk × (Nat → Value)) :=
  match op with
  | .alloc t => (zeroC P t).bind fun z => some (.cells z.cells.toList t 0 false false, mkPtr)
  | .box t x => some (.cells (opd a x).cells.toList t 0 false false, mkPtr)
  | .buildSlice t len ps => aSlice P a t len ps
  | .makeMap _ r => aMap r
  | .makeSlice t l c => aMake P a t l c
  | _ => none
theorem allocF_eq (a : AAct) (o : Oper) : allocF P a o.op = allocOp P a o := by
  unfold allocF allocOp
  cases o.op <;> first | rfl | skip
  case makeMap t r => cases r <;> rfl

variable (xk : FuncId → Option XK) (orc : Orc) (dorc : FuncId → Bool)
def eStore (a : AAct) (t : TypeId) (x y : Operand) (s : St) : Option (Value × St) := (ptr (opd a x)).bind fun p => (storeV P s t p (opd a y)).bind fun s' => some (undef, s')
def eUpd (a : AAct) (t : TypeId) (m k v : Operand) (s : St) : Option (Value × St) := (updateV P s t (opd a m) (opd a k) (opd a v)).bind fun s' => some (undef, s')
def eConv (a : AAct) (src dst : TypeId) (x : Operand) (s : St) : Option (Value × St) :=
  match opd a x, P.underlying src, P.underlying dst with
  | .string b, some .string, some (.slice e) => match P.underlying e, szOf P e with
    | some (.int .u8), some 1 => some (.slice (some ⟨s.nx, 0, none⟩) b.size (Nat.add unk 1), newBlk s (.cells (byteCells b) e 0 true true))
    | _, _ => none
  | _, _, _ => none
def eRange (a : AAct) (t : TypeId) (x : Operand) (s : St) : Option (Value × St) :=
  match P.underlying t, opd a x with
  | some (.map _ _), .map (some m) =>
    match s.hp.get m with
    | some (.map _ clk) => some (mkPtr s.nx, newBlk s (.miter m clk [] clk))
    | _ => none
  | _, _ => none
def eNext (a : AAct) (it : Operand) (s : St) : Option (Value × St) :=
  match opd a it with
  | .pointer (some ⟨r, 0, none⟩) =>
    match s.hp.get r with
    | some (.miter m since seen last) =>
      match s.hp.get m with
      | some (.map es clk) =>
        bif !seen.isEmpty && !es.isEmpty && es.all (fun e => decide (e.born ≥ last)) then none else
        match es.filter fun e => !seen.contains e.born with
        | [] => some (.tuple ⟨[.bool false]⟩, s)
        | [e] => bif Nat.blt e.born since then some (.tuple ⟨[.bool true, e.key, e.val]⟩, ⟨s.hp.set r (.miter m since (seen ++ [e.born]) clk), s.nx⟩) else none
        | _ => none
      | _ => none
    | _ => none
  | _ => none
def eCall (rec : Rec) (a : AAct) (c : Call) (s : St) : Option (Value × St) :=
  match c.callee with
  | .builtin b => builtinV P s b c.argTypes.toList (c.args.toList.map (opd a))
  | _ => (resolveC a c).bind fun r => invokeT P xk orc rec (.fn r.1 ⟨r.2.2⟩) r.2.1 s
def effF (rec : Rec) (a : AAct) (op : Op) (s : St) : Option (Value × St) :=
  match op with
  | .store t x y => eStore P a t x y s
  | .mapUpdate t m k v => eUpd P a t m k v s
  | .insert t m k v => eUpd P a t m k v s
  | .convert src dst x => eConv P a src dst x s
  | .range t x => eRange P a t x s
  | .next it b => bif b then none else eNext a it s
  | .call c => eCall P xk orc rec a c s
  | _ => none
theorem effF_eq (rec : Rec) (a : AAct) (o : Oper) (s : St) : effF P xk orc rec a o.op s = effOp P xk orc rec a o s := by
  unfold effF effOp
  cases o.op <;> first | rfl | skip
  case next it b => cases b <;> rfl

def pureF' (a : AAct) (o : Oper) : Option Value :=
  match o.op with
  | .binOp b t x y _ => match b with
    | .eql => bif eqHeld (opd a x) then (eqV P t (opd a x) (opd a y)).bind fun b => some (.bool b) else fallback P (opd a) o
    | .neq => bif eqHeld (opd a x) then (eqV P t (opd a x) (opd a y)).bind fun b => some (.bool (!b)) else fallback P (opd a) o
    | _ => fallback P (opd a) o
  | op => pureF P a o op
theorem pureF'_eq (a : AAct) (o : Oper) : pureF' P a o = pureOp' P a o := by
  unfold pureF' pureOp'
  have h := pureF_eq P a o
  cases hop : o.op <;> rw [hop] at h <;> simp only <;> first | exact h | skip
  case binOp b t x y yt =>
    have h2 : pureOp P a o = fallback P (opd a) o := by unfold pureOp; rw [hop]
    cases b <;> first | rfl | exact h2.symm

def evOpF (rec : Rec) (a : AAct) (o : Oper) (s : St) : Option (AAct × St) :=
  match cls P a o with
  | .pure => (pureF' P a o).bind fun v => some (putA a o.dst v, s)
  | .read => (readF P a o.op s).bind fun v => some (putA a o.dst v, s)
  | .alloc => (allocF P a o.op).bind fun r => some (putA a o.dst (r.2 s.nx), newBlk s r.1)
  | .eff => bnd (effF P xk orc rec a o.op s) fun v s => some (putA a o.dst v, s)
theorem evOpF_eq (rec : Rec) (a : AAct) (o : Oper) (s : St) : evOpF P xk orc rec a o s = evOp P xk orc rec a o s := by
  unfold evOpF evOp
  rw [bnd_eq, pureF'_eq, readF_eq, allocF_eq, effF_eq]
  cases cls P a o <;> rfl

def oDefer (a : AAct) (o : Oper) (c : Call) (k : AAct → Option (AAct × St)) : Option (AAct × St) :=
  (resolveC a c).bind fun r => match r.1 with
    | .func f => k (putA ⟨a.tm, ⟨.fn (.func f) ⟨r.2.2⟩, ⟨r.2.1⟩⟩ :: a.df⟩ o.dst undef)
    | _ => none
def isDefer : Op → Option Call
  | .defer c => some c
  | _ => none
def evOpsF (rec : Rec) (ro : Option Nat) (ops : Array Oper) : List Oper → AAct → St → Option (AAct × St)
  | [], a, s => some (a, s)
  | o :: rest, a, s =>
    bif wantedA a ops o then
      match isDefer o.op with
      | none => bnd (evOpF P xk orc rec a o s) fun a s => evOpsF rec ro ops rest a s
      | some c => match ro with
        | none => oDefer a o c fun a => evOpsF rec ro ops rest a s
        | some _ => none
    else evOpsF rec ro ops rest (putA a o.dst undef) s
theorem evOpsF_eq (rec : Rec) (ro : Option Nat) (ops : Array Oper) : ∀ (l : List Oper) (a : AAct) (s : St), evOpsF P xk orc rec ro ops l a s = evOps P xk orc rec ro ops l a s
  | [], a, s => rfl
  | o :: rest, a, s => by
    unfold evOpsF evOps
    cases wantedA a ops o
    · exact evOpsF_eq rec ro ops rest _ s
    · simp only [cond_true]
      have h : (bnd (evOpF P xk orc rec a o s) fun a s => evOpsF P xk orc rec ro ops rest a s) = (evOp P xk orc rec a o s).bind fun r => evOps P xk orc rec ro ops rest r.1 r.2 := by
        rw [bnd_eq, evOpF_eq]; congr 1; funext r; exact evOpsF_eq rec ro ops rest _ _
      cases hop : o.op <;> simp only [isDefer] <;> first | exact h | skip
      case defer c =>
        cases ro with
        | some l => rfl
        | none =>
          simp only [oDefer]
          congr 1
          funext r
          cases r.1 <;> first | rfl | exact evOpsF_eq rec none ops rest _ s

def dRead (ops : Array Oper) (bs : Array Nat) (i : Nat) (o : Oper) (a : AAct) (s : St) (p : Pend) (k : AAct → Pend → Option (AAct × St)) : Option (AAct × St) :=
  (readF P a o.op s).bind fun v =>
    bif backOk P (bs.getD i 0) ⟨i, o, a, v⟩ p.lv p.s0 then k (putA a o.dst v) ⟨p.lv, p.s0, p.al, ⟨i, o, a, v⟩ :: p.rd⟩ else none
def dEff (rec : Rec) (bs : Array Nat) (i : Nat) (o : Oper) (a : AAct) (s : St) (p : Pend) (k : AAct → St → Pend → Option (AAct × St)) : Option (AAct × St) :=
  bif p.lv.all (fun e => (bs.getD i 0).testBit e.1) && p.al.all (fun e => (bs.getD i 0).testBit e) then
    bnd (effF P xk orc rec a o.op s) fun v s' =>
      bif Nat.ble s.nx s'.nx then
        (fwdOk P (bs.getD i 0) s' p.rd).bind fun rd => k (putA a o.dst v) s' ⟨(i, s') :: p.lv, p.s0, p.al, rd⟩
      else none
  else none
def dOne (rec : Rec) (ops : Array Oper) (bs : Array Nat) (i : Nat) (o : Oper) (a : AAct) (s : St) (p : Pend) (k : AAct → St → Pend → Option (AAct × St)) : Option (AAct × St) :=
  match cls P a o with
  | .pure => (pureF' P a o).bind fun v => k (putA a o.dst v) s p
  | .read => dRead P ops bs i o a s p fun a p => k a s p
  | .alloc => (allocF P a o.op).bind fun r => k (putA a o.dst (r.2 s.nx)) (newBlk s r.1) ⟨p.lv, p.s0, i :: p.al, p.rd⟩
  | .eff => dEff P xk orc rec bs i o a s p k
def evDrawF (rec : Rec) (ops : Array Oper) (bs : Array Nat) : List Nat → AAct → St → Pend → Option (AAct × St)
  | [], a, s, _ => some (a, s)
  | i :: rest, a, s, p =>
    match ops[i]? with
    | none => none
    | some o =>
      bif wantedA a ops o then
        match isDefer o.op with
        | some _ => none
        | none => dOne P xk orc rec ops bs i o a s p fun a s p => evDrawF rec ops bs rest a s p
      else evDrawF rec ops bs rest (putA a o.dst undef) s p
theorem evDrawF_eq (rec : Rec) (ops : Array Oper) (bs : Array Nat) : ∀ (l : List Nat) (a : AAct) (s : St) (p : Pend), evDrawF P xk orc rec ops bs l a s p = evDraw P xk orc rec ops bs l a s p
  | [], a, s, p => rfl
  | i :: rest, a, s, p => by
    unfold evDrawF evDraw
    cases ops[i]? with
    | none => rfl
    | some o =>
      simp only
      cases wantedA a ops o
      · exact evDrawF_eq rec ops bs rest _ s p
      · simp only [cond_true]
        have ih : (fun a s p => evDrawF P xk orc rec ops bs rest a s p) = fun a s p => evDraw P xk orc rec ops bs rest a s p := by
          funext a s p; exact evDrawF_eq rec ops bs rest a s p
        have h : dOne P xk orc rec ops bs i o a s p (fun a s p => evDrawF P xk orc rec ops bs rest a s p) = (match cls P a o with
          | .pure => (pureOp' P a o).bind fun v => evDraw P xk orc rec ops bs rest (putA a o.dst v) s p
          | .read => (readOp P a o s).bind fun v =>
            bif backOk P (bs.getD i 0) ⟨i, o, a, v⟩ p.lv p.s0 then
              evDraw P xk orc rec ops bs rest (putA a o.dst v) s ⟨p.lv, p.s0, p.al, ⟨i, o, a, v⟩ :: p.rd⟩
            else none
          | .alloc => (allocOp P a o).bind fun r => evDraw P xk orc rec ops bs rest (putA a o.dst (r.2 s.nx)) (newBlk s r.1) ⟨p.lv, p.s0, i :: p.al, p.rd⟩
          | .eff =>
            bif p.lv.all (fun e => (bs.getD i 0).testBit e.1) && p.al.all (fun e => (bs.getD i 0).testBit e) then
              (effOp P xk orc rec a o s).bind fun r =>
                bif Nat.ble s.nx r.2.nx then
                  (fwdOk P (bs.getD i 0) r.2 p.rd).bind fun rd => evDraw P xk orc rec ops bs rest (putA a o.dst r.1) r.2 ⟨(i, r.2) :: p.lv, p.s0, p.al, rd⟩
                else none
            else none) := by
          rw [ih]
          unfold dOne dRead dEff
          rw [bnd_eq, pureF'_eq, readF_eq, allocF_eq, effF_eq]
        cases hop : o.op <;> simp only [isDefer] <;> first | rfl | (rw [h]; cases cls P a o <;> rfl)

def cRegion (rec : Rec) (ro : Option Nat) (nt : Nat) (ops : Array Oper) (draw : Bool) (a : AAct) (s : St) : Option (R × St) :=
  bif okOps nt ops then
    bif draw then
      bif regOk ops && ordOk ops 0 (ordOf ops) then bnd (evDrawF P xk orc rec ops (Region.before ops) (ordOf ops) a s ⟨[], s, [], []⟩) fun a s => some (.code .normal a, s) else none
    else bnd (evOpsF P xk orc rec ro ops ops.toList a s) fun a s => some (.code .normal a, s)
  else none
def cSeq (rec : Rec) (ro : Option Nat) (fn : FuncId) (nt : Nat) (y : Code) : Option (R × St) → Option (R × St)
  | some (.code .normal a, s) => rec (.code ro fn nt y a) s
  | r => r
def cCond (rec : Rec) (ro : Option Nat) (fn : FuncId) (nt : Nat) (c : Operand) (x y : Code) (a : AAct) (s : St) : Option (R × St) :=
  bif okOpd nt c then
    match opd a c with
    | .bool b => rec (.code ro fn nt (bif b then x else y) a) s
    | _ => none
  else none
def cBlock (id : Nat) : Option (R × St) → Option (R × St)
  | some (.code (.exit id') a, s) => bif Nat.beq id' id then some (.code .normal a, s) else some (.code (.exit id') a, s)
  | r => r
def cRange (rec : Rec) (ro : Option Nat) (fn : FuncId) (nt : Nat) (g : Operand) (ps : Array Tmp) (assign body : Code) (a : AAct) (s : St) : Option (R × St) :=
  bif okOpd nt g then
    match ro, opd a g with
    | none, .func (.func f) first cap =>
      let s0 := newBlk s (.dfr true)
      let s1 := newBlk s0 (.loop ⟨.ready, none, fn, nt, a.tm, ps, assign, body, s.nx⟩)
      match rec (.call f (first.toList ++ [.func (.yield s0.nx) ⟨[]⟩ ⟨[]⟩] ++ cap.toList)) s1 with
      | some (.val _, s2) =>
        (loopAt s2 s0.nx).bind fun lr =>
          match lr.st, lr.jump with
          | .ready, none => some (.code .normal ⟨a.tm, ⟨.collected s.nx, ⟨[]⟩⟩ :: a.df⟩, ⟨s2.hp.set s0.nx (.loop { lr with st := .exhausted }), s2.nx⟩)
          | _, _ => none
      | _ => none
    | _, _ => none
  else none
def stepCodeF (rec : Rec) (ro : Option Nat) (fn : FuncId) (nt : Nat) (c : Code) (a : AAct) (s : St) : Option (R × St) :=
  match c with
  | .skip => some (.code .normal a, s)
  | .region _ ops draw => cRegion P xk orc rec ro nt ops draw a s
  | .seq x y => cSeq rec ro fn nt y (rec (.code ro fn nt x a) s)
  | .cond c x y => cCond rec ro fn nt c x y a s
  | .block id c => cBlock id (rec (.code ro fn nt c a) s)
  | .loop c => cSeq rec ro fn nt (.loop c) (rec (.code ro fn nt c a) s)
  | .exit id => some (.code (.exit id) a, s)
  | .ret => some (.code .ret a, s)
  | .rangeFunc g ps assign body => cRange rec ro fn nt g ps assign body a s
  | _ => none
theorem stepCodeF_eq (rec : Rec) (ro : Option Nat) (fn : FuncId) (nt : Nat) (c : Code) (a : AAct) (s : St) : stepCodeF P xk orc rec ro fn nt c a s = stepCode P xk orc rec ro fn nt c a s := by
  unfold stepCodeF stepCode
  cases c <;> first | rfl | skip
  case region id ops draw =>
    simp only [cRegion]
    rw [bnd_eq, bnd_eq, evDrawF_eq, evOpsF_eq]
  case cond c x y =>
    simp only [cCond]
    cases okOpd nt c
    · rfl
    · simp only [cond_true]
      cases opd a c <;> first | rfl | skip
      case bool b => cases b <;> rfl

def kCall (rec : Rec) (f : FuncId) (args : List Value) (s : St) (fn : Func) (c : Code) : Option (R × St) :=
  bif Nat.ble args.length fn.ntmps then
    match rec (.code none f fn.ntmps c ⟨initTm args 0 .lf, []⟩) s with
    | some (.code .normal a, s) | some (.code .ret a, s) =>
      match rec (.defers a.df) s with
      | some (_, s) => (resultsV P fn a s).bind fun v => some (.val v, s)
      | none => none
    | _ => none
  else none
def stepF (rec : Rec) : Tk → St → Option (R × St)
  | .code ro fn nt c a, s => stepCodeF P xk orc rec ro fn nt c a s
  | .call f args, s =>
    match P.funcs[f]? with
    | some fn => match fn.body with
      | some c => kCall P rec f args s fn c
      | none => none
    | none => none
  | .defers [], s => some (.val undef, s)
  | .defers (d :: ds), s => step P xk orc dorc rec (.defers (d :: ds)) s
  | .round l args, s => step P xk orc dorc rec (.round l args) s
theorem stepF_eq (rec : Rec) (t : Tk) (s : St) : stepF P xk orc dorc rec t s = step P xk orc dorc rec t s := by
  cases t with
  | code ro fn nt c a => exact stepCodeF_eq P xk orc rec ro fn nt c a s
  | call f args => rfl
  | round l args => rfl
  | defers ds => cases ds <;> rfl

def evF (n : Nat) : Tk → St → Option (R × St) :=
  Nat.rec (motive := fun _ => Tk → St → Option (R × St)) (fun _ _ => none) (fun _ ih t s => stepF P xk orc dorc ih t s) n
theorem evF_eq : ∀ n, evF P xk orc dorc n = ev P xk orc dorc n
  | 0 => rfl
  | n + 1 => by
    funext t s
    show stepF P xk orc dorc (evF P xk orc dorc n) t s = step P xk orc dorc (ev P xk orc dorc n) t s
    rw [evF_eq n, stepF_eq]
end Go.Ev
end

noncomputable section
namespace Go.Ev
variable {P : Program}

/-! ### Summaries of calls -/
/-- What a call came to: the function, its arguments, the number of the next block, the blocks that it reads, the blocks that it uses up or turns; its value, the blocks behind it, the number behind it. -/
structure OEnt where
  f : FuncId
  args : List Value
  nx : Nat
  ro : List (Nat × Blk)
  sub : List (Nat × Blk)
  v : Value
  upd : List (Nat × Blk)
  nx' : Nat

def entsEq : List MapEntry → List MapEntry → Bool
  | [], [] => true
  | a :: as, b :: bs => vEq a.key b.key && vEq a.val b.val && Nat.beq a.born b.born && entsEq as bs
  | _, _ => false
def natsEq : List Nat → List Nat → Bool
  | [], [] => true
  | a :: as, b :: bs => Nat.beq a b && natsEq as bs
  | _, _ => false
def blkEq : Blk → Blk → Bool
  | .cells vs e fz gr mk, .cells vs' e' fz' gr' mk' => vsEq1 vs vs' && Nat.beq e e' && Nat.beq fz fz' && (gr == gr') && (mk == mk')
  | .map es clk, .map es' clk' => entsEq es es' && Nat.beq clk clk'
  | .miter m a b c, .miter m' a' b' c' => Nat.beq m m' && Nat.beq a a' && natsEq b b' && Nat.beq c c'
  | _, _ => false
theorem entsEq_eq : ∀ {a b : List MapEntry}, entsEq a b = true → a = b
  | [], [], _ => rfl
  | [], _ :: _, h => by simp [entsEq] at h
  | _ :: _, [], h => by simp [entsEq] at h
  | ⟨k, v, n⟩ :: as, ⟨k', v', n'⟩ :: bs, h => by
    simp only [entsEq, Bool.and_eq_true, beq_dec, decide_eq_true_eq] at h
    rw [vEq_eq h.1.1.1, vEq_eq h.1.1.2, h.1.2, entsEq_eq h.2]
theorem natsEq_eq : ∀ {a b : List Nat}, natsEq a b = true → a = b
  | [], [], _ => rfl
  | [], _ :: _, h => by simp [natsEq] at h
  | _ :: _, [], h => by simp [natsEq] at h
  | a :: as, b :: bs, h => by
    simp only [natsEq, Bool.and_eq_true, beq_dec, decide_eq_true_eq] at h
    rw [h.1, natsEq_eq h.2]
theorem blkEq_eq {a b : Blk} (h : blkEq a b = true) : a = b := by
  unfold blkEq at h
  split at h
  · simp only [Bool.and_eq_true, beq_dec, decide_eq_true_eq, beq_iff_eq] at h
    rw [vsEq1_eq h.1.1.1.1, h.1.1.1.2, h.1.1.2, h.1.2, h.2]
  · simp only [Bool.and_eq_true, beq_dec, decide_eq_true_eq] at h
    rw [entsEq_eq h.1, h.2]
  · simp only [Bool.and_eq_true, beq_dec, decide_eq_true_eq] at h
    rw [h.1.1.1, h.1.1.2, natsEq_eq h.1.2, h.2]
  · cases h

def hasAll (t : Tr Blk) : List (Nat × Blk) → Bool
  | [] => true
  | p :: l => (match t.get p.1 with | some b => blkEq b p.2 | none => false) && hasAll t l
theorem hasAll_spec {t : Tr Blk} : ∀ {l : List (Nat × Blk)}, hasAll t l = true → ∀ p ∈ l, t.get p.1 = some p.2
  | [], _, p, hp => by cases hp
  | q :: l, h, p, hp => by
    simp only [hasAll, Bool.and_eq_true] at h
    rcases List.mem_cons.1 hp with rfl | hp
    · have h1 := h.1
      split at h1
      · next b hb => rw [hb, blkEq_eq h1]
      · cases h1
    · exact hasAll_spec h.2 p hp

def setAll : List (Nat × Blk) → Tr Blk → Tr Blk
  | [], t => t
  | p :: l, t => setAll l (t.set p.1 p.2)
def delAll : List (Nat × Blk) → Tr Blk → Tr Blk
  | [], t => t
  | p :: l, t => delAll l (t.del p.1)
theorem delAll_get : ∀ (l : List (Nat × Blk)) (t : Tr Blk) (i : Nat), (delAll l t).get i = if i ∈ l.map (·.1) then none else t.get i
  | [], t, i => by simp [delAll]
  | p :: l, t, i => by
    rw [delAll, delAll_get l, Tr.get_del]
    by_cases h : i ∈ l.map (·.1)
    · simp [h]
    · by_cases h2 : i = p.1
      · simp [h2]
      · simp [h, h2]
theorem setAll_get : ∀ (l : List (Nat × Blk)) (t : Tr Blk) (i : Nat) (b : Blk), (setAll l t).get i = some b → (i, b) ∈ l ∨ (t.get i = some b ∧ i ∉ l.map (·.1))
  | [], t, i, b, h => .inr ⟨h, by simp⟩
  | p :: l, t, i, b, h => by
    rw [setAll] at h
    rcases setAll_get l _ i b h with h | ⟨h, hn⟩
    · exact .inl (List.mem_cons_of_mem _ h)
    · rw [Tr.get_set] at h
      by_cases h2 : i = p.1
      · rw [if_pos h2] at h; injection h with h
        exact .inl (by rw [h2, ← h]; exact List.mem_cons_self ..)
      · rw [if_neg h2] at h
        exact .inr ⟨h, by simp only [List.map_cons, List.mem_cons, not_or]; exact ⟨h2, hn⟩⟩

def OEnt.before (e : OEnt) : St := ⟨setAll e.sub (setAll e.ro .lf), e.nx⟩
def OEnt.behind (e : OEnt) (s : St) : St := ⟨setAll e.upd (delAll e.sub s.hp), e.nx'⟩
def OEnt.fits (e : OEnt) (f : FuncId) (args : List Value) (s : St) : Bool := Nat.beq e.f f && Nat.beq e.nx s.nx && vsEq1 e.args args && hasAll s.hp e.sub && hasAll s.hp e.ro

def tabGo (f : FuncId) (args : List Value) (s : St) : List OEnt → Option (Value × St)
  | [] => none
  | e :: l => bif e.fits f args s then some (e.v, e.behind s) else tabGo f args s l
/-- The oracle of a table: by function. -/
def tabOrc (base : Orc) (tab : List (FuncId × List OEnt)) : Orc := fun f args s =>
  match tab.find? (fun p => Nat.beq p.1 f) with
  | some p => tabGo f args s p.2
  | none => base f args s

/-- Memory that a call did not need stays. -/
theorem Stp.frame {μ ν : Ren} {s s0 t u : St} {w w' : World} (h : Stp μ s0 w ν t w') (hs : Sim μ s w) (hsub : ∀ i b, s0.hp.get i = some b → s.hp.get i = some b) (hnx : s.nx = s0.nx)
    (hu : ∀ i b, u.hp.get i = some b → t.hp.get i = some b ∨ (s.hp.get i = some b ∧ s0.hp.get i = none)) (hun : u.nx = t.nx) : Stp μ s w ν u w' := by
  have hkeep : ∀ i b l, s.hp.get i = some b → s0.hp.get i = none → μ i = some l → w'.heap[l.blk]? = w.heap[l.blk]? := fun i b l h1 h2 h3 =>
    h.keep l.blk (hs.lt h1 h3) (fun j x lj hj hlj he => by
      have := hs.inj j i x b lj l (hsub j x hj) h1 hlj h3 he
      subst this
      rw [h2] at hj; cases hj)
  have hcross : ∀ i j b c li lj, t.hp.get i = some b → s.hp.get j = some c → s0.hp.get j = none → ν i = some li → μ j = some lj → li.blk = lj.blk → False := fun i j b c li lj h1 h2 h3 h4 h5 he => by
    have hlt := hs.lt h2 h5
    rcases h.foot i b li h1 h4 with h6 | ⟨k, y, lk, h6, h7, h8⟩
    · omega
    · have := hs.inj k j y c lk lj (hsub k y h6) h2 h7 h5 (h8.trans he)
      subst this
      rw [h3] at h6; cases h6
  have hmu : ∀ i b, s.hp.get i = some b → ∃ l, μ i = some l ∧ ν i = some l ∧ BlkR μ l (w.heap[l.blk]?) b := fun i b hi => by
    obtain ⟨l, h1, h2⟩ := hs.live i b hi
    exact ⟨l, h1, h.le _ _ h1, h2⟩
  refine ⟨h.le, ⟨fun i b hi => ?_, fun i j b c li lj hi hj hli hlj he => ?_, by rw [hun]; exact h.sim.nxt, h.sim.glob, by rw [hun]; exact h.sim.nxb⟩, by rw [hun, hnx]; exact h.nx, h.size, fun b hb hn => h.keep b hb (fun i x l hi hl => hn i x l (hsub i x hi) hl), fun i b l hi hl => ?_, by rw [hnx]; exact h.fresh, h.os, h.tape, h.out⟩
  · rcases hu i b hi with hi | ⟨hi, hn⟩
    · exact h.sim.live i b hi
    · obtain ⟨l, h1, h2, h3⟩ := hmu i b hi
      exact ⟨l, h2, by rw [hkeep i b l hi hn h1]; exact h3.mono h.le⟩
  · rcases hu i b hi with hi | ⟨hi, hni⟩ <;> rcases hu j c hj with hj | ⟨hj, hnj⟩
    · exact h.sim.inj i j b c li lj hi hj hli hlj he
    · obtain ⟨l, h1, h2, _⟩ := hmu j c hj
      rw [hlj] at h2; injection h2 with h2; subst h2
      exact (hcross i j b c li lj hi hj hnj hli h1 he).elim
    · obtain ⟨l, h1, h2, _⟩ := hmu i b hi
      rw [hli] at h2; injection h2 with h2; subst h2
      exact (hcross j i c b lj li hj hi hni hlj h1 he.symm).elim
    · obtain ⟨l, h1, h2, _⟩ := hmu i b hi
      rw [hli] at h2; injection h2 with h2; subst h2
      obtain ⟨l', h1', h2', _⟩ := hmu j c hj
      rw [hlj] at h2'; injection h2' with h2'; subst h2'
      exact hs.inj i j b c li lj hi hj h1 h1' he
  · rcases hu i b hi with hi | ⟨hi, hn⟩
    · rcases h.foot i b l hi hl with h1 | ⟨j, y, lj, h1, h2, h3⟩
      · exact .inl h1
      · exact .inr ⟨j, y, lj, hsub j y h1, h2, h3⟩
    · obtain ⟨l', h1, h2, _⟩ := hmu i b hi
      rw [hl] at h2; injection h2 with h2; subst h2
      exact .inr ⟨i, b, l, hi, h1, rfl⟩

/-- A summary that holds. -/
def EntG (P : Program) (e : OEnt) : Prop := (∃ fn, P.funcs[e.f]? = some fn ∧ fn.body.isSome = true) ∧ ∀ s, s.nx = e.nx → hasAll s.hp e.sub = true → hasAll s.hp e.ro = true → CallG P e.f e.args s e.v (e.behind s)

theorem orcOk_tab (hn : NumOk P) {base : Orc} (hbase : OrcOk P base) {tab : List (FuncId × List OEnt)} (h : ∀ p ∈ tab, ∀ e ∈ p.2, EntG P e) : OrcOk P (tabOrc base tab) := by
  intro f args s v s' hv
  unfold tabOrc at hv
  split at hv
  · next p hp =>
    have hmem := List.mem_of_find?_eq_some hp
    have key : ∀ (l : List OEnt), (∀ e ∈ l, EntG P e) → tabGo f args s l = some (v, s') → (∃ fn, P.funcs[f]? = some fn ∧ fn.body.isSome = true ∧ (fn.name == "runtime.NumGoroutine") = false) ∧ CallG P f args s v s' := by
      intro l
      induction l with
      | nil => intro _ h; simp [tabGo] at h
      | cons e l ih =>
        intro hl h
        unfold tabGo at h
        cases hf : e.fits f args s
        · rw [hf, cond_false] at h
          exact ih (fun e he => hl e (List.mem_cons_of_mem _ he)) h
        · rw [hf, cond_true, Option.some.injEq, Prod.mk.injEq] at h
          obtain ⟨rfl, rfl⟩ := h
          simp only [OEnt.fits, Bool.and_eq_true, beq_dec, decide_eq_true_eq] at hf
          obtain ⟨⟨⟨⟨h1, h2⟩, h3⟩, h4⟩, h5⟩ := hf
          obtain ⟨⟨fn, g1, g2⟩, g3⟩ := hl e (List.mem_cons_self ..)
          rw [vsEq1_eq h3, h1] at g3
          rw [h1] at g1
          exact ⟨⟨fn, g1, g2, hn f fn g1 g2⟩, g3 s h2.symm h4 h5⟩
    exact key p.2 (h p hmem) hv
  · exact hbase f args s v s' hv

/-- What the kernel is asked of a summary. -/
def OEnt.check (P : Program) (xk : FuncId → Option XK) (base : Orc) (dorc : FuncId → Bool) (tab : List (FuncId × List OEnt)) (e : OEnt) (fuel : Nat) : Bool :=
  match evF P xk (tabOrc base tab) dorc fuel (.call e.f e.args) e.before with
  | some (.val v, t) => vEq v e.v && Nat.beq t.nx e.nx' && hasAll t.hp e.upd && hasAll t.hp e.ro
  | _ => false

theorem entG_of {xk : FuncId → Option XK} {base : Orc} {dorc : FuncId → Bool} {tab : List (FuncId × List OEnt)} (hx : XOk P xk) (hn : NumOk P) (hbase : OrcOk P base) (hd : DorcOk P dorc) (hm : P.follows .mixedOrders = true)
    (ht : ∀ p ∈ tab, ∀ e ∈ p.2, EntG P e) {e : OEnt} {fuel : Nat} (h : e.check P xk base dorc tab fuel = true) : EntG P e := by
  unfold OEnt.check at h
  split at h
  · next v t hv =>
    simp only [Bool.and_eq_true, beq_dec, decide_eq_true_eq] at h
    obtain ⟨⟨⟨h1, h2⟩, h3⟩, h3r⟩ := h
    have := vEq_eq h1
    subst this
    rw [evF_eq] at hv
    have ho := orcOk_tab hn hbase ht
    obtain ⟨hf, hg⟩ := ev_sound hx ho hn hd (draw_sound hx ho hn hm) fuel _ _ _ _ hv
    refine ⟨hf, fun s hs hall hallr μ w args' hsim ha => ?_⟩
    have hsub : ∀ i b, e.before.hp.get i = some b → s.hp.get i = some b := fun i b hi => by
      rcases setAll_get e.sub _ i b hi with hi | ⟨hi, _⟩
      · exact hasAll_spec hall (i, b) hi
      · rcases setAll_get e.ro .lf i b hi with hi | ⟨hi, _⟩
        · exact hasAll_spec hallr (i, b) hi
        · cases hi
    have hsim0 : Sim μ e.before w := ⟨fun i b hi => hsim.live i b (hsub i b hi), fun i j b c li lj hi hj => hsim.inj i j b c li lj (hsub i b hi) (hsub j c hj), by intro i hi; exact hsim.nxt i (by rw [hs]; exact hi), hsim.glob, by have := hsim.nxb; rw [hs] at this; exact this⟩
    refine CallsIn.mono (hg μ w args' hsim0 ha) fun x w' hq => ?_
    cases x with
    | returned v' =>
      obtain ⟨ν, hstp, hvr⟩ := hq
      refine ⟨ν, hstp.frame hsim hsub hs (fun i b hi => ?_) h2.symm, hvr⟩
      rcases setAll_get e.upd _ i b hi with hi | ⟨hi, _⟩
      · exact .inl (hasAll_spec h3 (i, b) hi)
      · rw [delAll_get] at hi
        by_cases hm : i ∈ e.sub.map (·.1)
        · rw [if_pos hm] at hi; cases hi
        · rw [if_neg hm] at hi
          cases hb : e.before.hp.get i with
          | none => exact .inr ⟨hi, rfl⟩
          | some c =>
            rcases setAll_get e.sub _ i c hb with hc | ⟨hc, _⟩
            · exact absurd (List.mem_map.2 ⟨(i, c), hc, rfl⟩) hm
            · rcases setAll_get e.ro .lf i c hc with hc | ⟨hc, _⟩
              · have h4 := hasAll_spec h3r (i, c) hc
                have h5 := hasAll_spec hallr (i, c) hc
                rw [hi] at h5
                exact .inl (by rw [h4, ← h5])
              · cases hc
    | panicked c => exact hq.elim
    | outgrown => exact hq.elim
  · cases h
end Go.Ev
end
