/-
An evaluator of code over abstract memory, sound against the model: part 1. No condition.
-/
import Derived.IntWalk
import Derived.Test.YtopiclpameaglaaGreatDoorEv0
set_option linter.unusedSimpArgs false
set_option linter.unusedVariables false
namespace Go.Ev
variable {P : Program}

theorem fieldPlace_run {f : Field} {b o n : Nat} (h : szOf P f.type = some n) (hn : n ≠ 0) (w : World) : (fieldPlace ⟨b, o, none⟩ f).run P w = .ok ⟨b, o + f.offset, none⟩ w := by
  simp only [fieldPlace, Sem.run_bind, run_size h, Result.andThen]
  rw [if_neg hn, add_none]; rfl

theorem VR.agg_inv {μ : Ren} {l : List Value} {v' : Value} (h : VR μ (.agg ⟨l⟩) v') : ∃ l', v' = .agg ⟨l'⟩ ∧ VRs μ l l' := by
  generalize hv : Value.agg ⟨l⟩ = v at h
  cases h with
  | atom h => subst hv; simp [Ev.atom] at h
  | agg h => injection hv with hv; injection hv with hv; subst hv; exact ⟨_, rfl, h⟩
  | _ => cases hv
theorem VR.tuple_inv {μ : Ren} {l : List Value} {v' : Value} (h : VR μ (.tuple ⟨l⟩) v') : ∃ l', v' = .tuple ⟨l'⟩ ∧ VRs μ l l' := by
  generalize hv : Value.tuple ⟨l⟩ = v at h
  cases h with
  | atom h => subst hv; simp [Ev.atom] at h
  | tuple h => injection hv with hv; injection hv with hv; subst hv; exact ⟨_, rfl, h⟩
  | _ => cases hv
theorem VR.iface_inv {μ : Ren} {t : TypeId} {x v' : Value} (h : VR μ (.iface t x) v') : ∃ x', v' = .iface t x' ∧ VR μ x x' := by
  generalize hv : Value.iface t x = v at h
  cases h with
  | atom h => subst hv; simp [Ev.atom] at h
  | iface h => injection hv with h1 h2; subst h1 h2; exact ⟨_, rfl, h⟩
  | _ => cases hv
theorem VR.func_inv {μ : Ren} {f : FuncId} {p c : List Value} {v' : Value} (h : VR μ (.func (.func f) ⟨p⟩ ⟨c⟩) v') : ∃ p' c', v' = .func (.func f) ⟨p'⟩ ⟨c'⟩ ∧ VRs μ p p' ∧ VRs μ c c' := by
  generalize hv : Value.func (.func f) ⟨p⟩ ⟨c⟩ = v at h
  cases h with
  | atom h => subst hv; simp [Ev.atom] at h
  | func hp hc => injection hv with h1 h2 h3; injection h1 with h1; injection h2 with h2; injection h3 with h3; subst h1 h2 h3; exact ⟨_, _, rfl, hp, hc⟩
  | _ => cases hv
theorem VR.yield_inv {μ : Ren} {k : Nat} {p c : Array Value} {v' : Value} (h : VR μ (.func (.yield k) p c) v') : ∃ l, μ k = some l ∧ p = ⟨[]⟩ ∧ c = ⟨[]⟩ ∧ v' = .func (.yield l.blk) ⟨[]⟩ ⟨[]⟩ := by
  generalize hv : Value.func (.yield k) p c = v at h
  cases h with
  | atom h => subst hv; simp [Ev.atom] at h
  | yield h => injection hv with h1 h2 h3; injection h1 with h1; subst h1 h2 h3; exact ⟨_, h, rfl, rfl, rfl⟩
  | func hp hc => injection hv with h1; cases h1
  | _ => cases hv
theorem VR.map_inv {μ : Ren} {r : Nat} {v' : Value} (h : VR μ (.map (some r)) v') : ∃ l, μ r = some l ∧ v' = .map (some l.blk) := by
  generalize hv : Value.map (some r) = v at h
  cases h with
  | atom h => subst hv; simp [Ev.atom] at h
  | map h => injection hv with h1; injection h1 with h1; subst h1; exact ⟨_, h, rfl⟩
  | _ => cases hv

theorem maps_toList (ρ : Operand → Value) (xs : Array Operand) : xs.map ρ = ⟨xs.toList.map ρ⟩ := by
  apply Array.toList_inj.1; simp

theorem parts_rel {μ : Ren} {s : St} {w : World} (h : Sim μ s w) {nt : Nat} {a : AAct} {a' : Act} (ha : ActR μ nt a a') : ∀ {ps : List (Nat × Operand)}, (∀ p ∈ ps, okOpd nt p.2 = true) →
    PartsR μ (ps.map fun p => (p.1, opd a p.2)) (ps.map fun p => (p.1, a'.eval p.2))
  | [], _ => .nil
  | p :: ps, hp => .cons (opd_sound h ha (hp p (by simp))) (parts_rel h ha fun q hq => hp q (by simp [hq]))

theorem run_len1 {b : Builtin} (hb : b = .len ∨ b = .cap) {t e : TypeId} (ht : P.underlying t = some (.slice e)) {c : Call} (hc : c.callee = .builtin b) (hty : c.argTypes.toList = [t]) {ρ : Operand → Value} {a : Option Addr} {n k : Nat}
    (hx : c.args.toList.map ρ = [.slice a n k]) (o : Oper) (ho : o.op = .call c) (w : World) :
    (execOp ρ o).run P w = .ok (.value (.int .i64 (if b = .len then (n : Int) else (k : Int)))) w := by
  have hty' : c.argTypes = #[t] := by apply Array.toList_inj.1; simp [hty]
  have hargs : c.args.map ρ = #[.slice a n k] := by apply Array.toList_inj.1; simp [hx]
  unfold execOp
  simp only [ho, resolve, hc, Sem.run_bind, pure, Sem.run, Result.andThen, invoke, hargs, hty']
  rcases hb with rfl | rfl
  · simp [builtin, Builtin.len_, Sem.run_bind, run_und ht, Result.andThen, pure, Sem.run, goInt]
  · simp [builtin, Builtin.cap_, Sem.run_bind, run_und ht, Result.andThen, pure, Sem.run, goInt]

theorem pureOp_sound {μ : Ren} {s : St} {w : World} (h : Sim μ s w) {nt : Nat} {a : AAct} {a' : Act} (ha : ActR μ nt a a') {o : Oper} (ho : o.op.operands.toList.all (okOpd nt) = true) {v : Value} (hv : pureOp P a o = some v) :
    ∃ v', (execOp a'.eval o).run P w = .ok (.value v') w ∧ VR μ v v' := by
  obtain ⟨dst, op, ty, pos, aft, grd⟩ := o
  have hop : ∀ x, x ∈ op.operands → VR μ (opd a x) (a'.eval x) := fun x hx => opd_sound h ha (List.all_eq_true.1 ho x (by simpa using hx))
  cases op with
  | move x => simp [pureOp] at hv; subst hv; exact ⟨a'.eval x, by simp [execOp, pure, Sem.run], hop x (by simp [Op.operands])⟩
  | assign x => simp [pureOp] at hv; subst hv; exact ⟨a'.eval x, by simp [execOp, pure, Sem.run], hop x (by simp [Op.operands])⟩
  | pick c x y =>
    simp only [pureOp] at hv
    split at hv
    · rename_i b hb
      have hc := hop c (by simp [Op.operands])
      rw [hb] at hc
      have hc := hc.of_atom rfl
      simp at hv; subst hv
      refine ⟨if b then a'.eval x else a'.eval y, by simp [execOp, hc, asBool, Sem.run_bind, Result.andThen, pure, Sem.run], ?_⟩
      cases b
      · exact hop y (by simp [Op.operands])
      · exact hop x (by simp [Op.operands])
    · cases hv
  | build t ps =>
    simp only [pureOp, Option.bind_eq_some_iff] at hv
    obtain ⟨z, hz, hv⟩ := hv
    obtain ⟨v', h1, h2⟩ := build_sound (w := w) (ps' := ps.map fun p => (p.1, a'.eval p.2)) hz hv (by
      simp only [Array.toList_map]
      refine parts_rel h ha fun p hp => ?_
      refine List.all_eq_true.1 ho p.2 ?_
      simp only [Op.operands]
      exact List.mem_map.2 ⟨p, hp, rfl⟩)
    exact ⟨v', by simp only [execOp]; exact run_value _ h1, h2⟩
  | nilCheck x =>
    have hx := hop x (by simp [Op.operands])
    simp only [pureOp] at hv
    split at hv
    · rename_i b hb
      rw [hb] at hx
      simp at hv; subst hv
      obtain ⟨b', hb'⟩ := hx.pointer_some
      exact ⟨_, by simp [execOp, hb', pure, Sem.run], hb' ▸ hx⟩
    · rename_i f p c hb
      rw [hb] at hx
      simp at hv; subst hv
      obtain ⟨p', c', hb', _⟩ := hx.func_inv
      exact ⟨_, by simp [execOp, hb', pure, Sem.run], hb' ▸ hx⟩
    · rename_i k p c hb
      rw [hb] at hx
      simp at hv; subst hv
      obtain ⟨l, hl, rfl, rfl, hb'⟩ := hx.yield_inv
      exact ⟨_, by simp [execOp, hb', pure, Sem.run], .yield hl⟩
    · cases hv
  | makeInterface t x =>
    have hx := hop x (by simp [Op.operands])
    simp only [pureOp] at hv
    split at hv
    · cases hv
    · cases hv
    · rename_i d hne hd
      simp at hv; subst hv
      refine ⟨.iface t (a'.eval x), ?_, .iface hx⟩
      simp only [execOp]
      refine run_value _ ?_
      simp only [Instr.makeInterface, Sem.run_bind, run_und hd, Result.andThen]
      cases d <;> first | rfl | exact absurd rfl (hne _)
  | makeFunc fn first cap =>
    cases fn with
    | func f =>
      simp only [pureOp, Option.some.injEq] at hv; subst hv
      refine ⟨.func (.func f) (first.map a'.eval) (cap.map a'.eval), by simp only [execOp]; exact run_value _ (by simp [Instr.makeFunc, pure, Sem.run]), ?_⟩
      simp only [Op.operands, Array.toList_append, List.all_append, Bool.and_eq_true] at ho
      rw [maps_toList, maps_toList, maps_toList, maps_toList]
      exact .func (opds_sound h ha ho.1) (opds_sound h ha ho.2)
    | _ => simp [pureOp] at hv
  | slice t x lo hi mx =>
    have hx := hop x (by simp [Op.operands])
    have hlo : OptR μ (lo.map (opd a)) (lo.map a'.eval) := OptR.map h ha fun y hy => List.all_eq_true.1 ho y (by simp [Op.operands, hy])
    have hhi : OptR μ (hi.map (opd a)) (hi.map a'.eval) := OptR.map h ha fun y hy => List.all_eq_true.1 ho y (by simp [Op.operands, hy])
    have hmx : OptR μ (mx.map (opd a)) (mx.map a'.eval) := OptR.map h ha fun y hy => List.all_eq_true.1 ho y (by simp [Op.operands, hy])
    simp only [pureOp] at hv
    split at hv
    · exact fallback_sound h ha ho (by simp) hv
    · cases hm : (mx.isSome && hi.isNone) <;> simp only [hm, cond_true, cond_false] at hv
      · obtain ⟨v', h1, h2⟩ := slice_sound (w := w) hx hlo hhi hmx (by cases mx <;> cases hi <;> simp at hm ⊢) hv
        exact ⟨v', by simp only [execOp]; exact run_value _ h1, h2⟩
      · cases hv
  | fieldAddr t x f =>
    have hx := hop x (by simp [Op.operands])
    simp only [pureOp] at hv
    split at hv
    · rename_i fs hd
      split at hv
      · rename_i fl hf
        simp only [Option.bind_eq_some_iff] at hv
        obtain ⟨p, hp, n, hn, hv⟩ := hv
        obtain ⟨l, hl, hsp, hx'⟩ := hx.ptr_inv hp
        cases hz : Nat.beq n 0 <;> simp only [hz, cond_true, cond_false] at hv
        · simp only [beq_dec, decide_eq_false_iff_not] at hz
          simp at hv; subst hv
          refine ⟨.pointer (some ⟨l.blk, l.sh + p.off + fl.offset, none⟩), ?_, ?_⟩
          · simp only [execOp]
            refine run_value _ ?_
            simp only [Instr.fieldAt, Sem.run_bind, run_und hd, Result.andThen, hf, hx', Instr.sureAddr, pure, Sem.run, fieldPlace_run hn hz w]
          · rw [Nat.add_assoc]; exact .ptr hl
        · cases hv
      · cases hv
    · cases hv
  | field t x f =>
    have hx := hop x (by simp [Op.operands])
    simp only [pureOp] at hv
    split at hv
    · rename_i fs cs hd hag
      rw [hag] at hx
      obtain ⟨cs', hx', hcs⟩ := hx.agg_inv
      split at hv
      · rename_i fl hf
        obtain ⟨v', h1, h2⟩ := part_sound (w := w) hv hcs
        refine ⟨v', ?_, h2⟩
        simp only [execOp]
        refine run_value _ ?_
        simp only [Instr.field, Sem.run_bind, run_und hd, Result.andThen, hf, hx', asAgg, pure, Sem.run, h1]
      · cases hv
    · cases hv
  | indexAddr t x i =>
    have hx := hop x (by simp [Op.operands])
    have hi := hop i (by simp [Op.operands])
    simp only [pureOp, Option.bind_eq_some_iff] at hv
    obtain ⟨k, hk, hv⟩ := hv
    obtain ⟨kk, hi'⟩ := nat_inv hk hi
    split at hv
    · rename_i n e b o hd hp
      simp only [Option.bind_eq_some_iff] at hv
      obtain ⟨size, hsz, hv⟩ := hv
      rw [hp] at hx
      obtain ⟨l, hl, hx'⟩ := hx.pointer_inv
      cases hlt : Nat.blt k n <;> simp only [hlt, cond_true, cond_false] at hv
      · cases hv
      simp only [blt_dec, decide_eq_true_eq] at hlt
      simp at hv; subst hv
      refine ⟨.pointer (some ⟨l.blk, l.sh + o + k * size, none⟩), ?_, ?_⟩
      · simp only [execOp]
        refine run_value _ ?_
        simp only [Instr.indexAt, Sem.run_bind, run_asIntOf hi', run_und hd, Result.andThen, hx', Instr.sureAddr, pure, Sem.run]
        rw [if_pos (by omega)]
        simp only [Sem.run_bind, run_size hsz, Result.andThen, Sem.run, add_none, Int.toNat_natCast]
      · rw [Nat.add_assoc]; exact .ptr hl
    · rename_i e b o n c hd hp
      simp only [Option.bind_eq_some_iff] at hv
      obtain ⟨size, hsz, hv⟩ := hv
      rw [hp] at hx
      obtain ⟨l, hl, hcase⟩ := hx.slice_inv
      cases hlt : Nat.blt k n <;> simp only [hlt, cond_true, cond_false] at hv
      · cases hv
      simp only [blt_dec, decide_eq_true_eq] at hlt
      simp at hv; subst hv
      have hx' : ∃ c', a'.eval x = .slice (some ⟨l.blk, l.sh + o, none⟩) n c' := by
        rcases hcase with ⟨_, _, h⟩ | ⟨es, c', ad, _, h2, h3, _, h⟩
        · exact ⟨_, h⟩
        · exact ⟨c', by rw [h, h3 (by omega)]⟩
      obtain ⟨c', hx'⟩ := hx'
      refine ⟨.pointer (some ⟨l.blk, l.sh + o + k * size, none⟩), ?_, ?_⟩
      · simp only [execOp]
        refine run_value _ ?_
        simp only [Instr.indexAt, Sem.run_bind, run_asIntOf hi', run_und hd, Result.andThen, hx', pure, Sem.run]
        rw [if_pos (by omega)]
        simp only [Sem.run_bind, run_size hsz, Result.andThen, Sem.run, add_none, Int.toNat_natCast]
      · rw [Nat.add_assoc]; exact .ptr hl
    · cases hv
  | index t x i =>
    have hx := hop x (by simp [Op.operands])
    have hi := hop i (by simp [Op.operands])
    simp only [pureOp] at hv
    split at hv
    · rename_i cs hag
      rw [hag] at hx
      obtain ⟨cs', hx', hcs⟩ := hx.agg_inv
      simp only [Option.bind_eq_some_iff] at hv
      obtain ⟨k, hk, hv⟩ := hv
      obtain ⟨kk, hi'⟩ := nat_inv hk hi
      split at hv
      · rename_i n e hd
        simp only [Option.bind_eq_some_iff] at hv
        obtain ⟨size, hsz, hv⟩ := hv
        cases hlt : Nat.blt k n <;> simp only [hlt, cond_true, cond_false] at hv
        · cases hv
        simp only [blt_dec, decide_eq_true_eq] at hlt
        obtain ⟨v', h1, h2⟩ := part_sound (w := w) hv hcs
        refine ⟨v', ?_, h2⟩
        simp only [execOp]
        refine run_value _ ?_
        simp only [Instr.index, Sem.run_bind, run_asIntOf hi', run_und hd, Result.andThen, hx']
        rw [if_pos (by omega)]
        simp only [Sem.run_bind, run_size hsz, Result.andThen, Int.toNat_natCast]
        exact h1
      · cases hv
    · exact fallback_sound h ha ho (by simp) hv
  | typeAssert x xt want ok =>
    have hx := hop x (by simp [Op.operands])
    simp only [pureOp] at hv
    split at hv
    · cases hv
    · rename_i d t u hne hd hif
      rw [hif] at hx
      obtain ⟨u', hx', hu⟩ := hx.iface_inv
      cases ht : Nat.beq t want <;> simp only [ht, cond_true, cond_false] at hv
      · cases hv
      simp only [beq_dec, decide_eq_true_eq] at ht
      subst ht
      simp at hv; subst hv
      refine ⟨if ok then .tuple #[u', .bool true] else u', ?_, ?_⟩
      · simp only [execOp]
        refine run_value _ ?_
        simp only [Instr.typeAssert, Sem.run_bind, run_und hd, Result.andThen, hx']
        cases d <;> first | exact absurd rfl (hne _) | simp [pure, Sem.run]
      · cases ok
        · exact hu
        · exact .tuple (.cons hu (.cons (.atom rfl) .nil))
    · cases hv
  | extract x i =>
    have hx := hop x (by simp [Op.operands])
    simp only [pureOp] at hv
    split at hv
    · rename_i vs htu
      rw [htu] at hx
      obtain ⟨vs', hx', hvs⟩ := hx.tuple_inv
      rw [nth_eq] at hv
      obtain ⟨v', h1, h2⟩ := hvs.get _ _ hv
      refine ⟨v', ?_, h2⟩
      simp only [execOp]
      refine run_value _ ?_
      simp [Instr.extract, hx', h1, pure, Sem.run]
    · cases hv
  | binOp b t x y yt => exact fallback_sound h ha ho (by simp) (by simpa [pureOp] using hv)
  | unOp b t x => exact fallback_sound h ha ho (by simp) (by simpa [pureOp] using hv)
  | convert s d x => exact fallback_sound h ha ho (by simp) (by simpa [pureOp] using hv)
  | call c =>
    have hargs : VRs μ (c.args.toList.map (opd a)) (c.args.toList.map a'.eval) := by
      simp only [Op.operands, Call.operands, Array.toList_append, List.all_append, Bool.and_eq_true] at ho
      exact opds_sound h ha ho.2
    simp only [pureOp] at hv
    split at hv
    · rename_i p n k t hc hx hty
      split at hv
      · rename_i e hd
        simp at hv; subst hv
        rw [hx] at hargs
        generalize hg : c.args.toList.map a'.eval = l' at hargs
        cases hargs with
        | cons hv1 ht =>
          cases ht
          have : ∃ p' k', c.args.toList.map a'.eval = [.slice p' n k'] := by
            cases hv1 with
            | atom _ => exact ⟨_, _, hg⟩
            | slice _ _ _ => exact ⟨_, _, hg⟩
            | sliceU _ _ _ _ => exact ⟨_, _, hg⟩
          obtain ⟨p', k', hg'⟩ := this
          exact ⟨_, run_len1 (.inl rfl) hd hc hty hg' _ rfl w, .atom rfl⟩
      · cases hv
    · rename_i p n k t hc hx hty
      split at hv
      · rename_i e hd
        cases hlt : Nat.blt k unk <;> simp only [hlt, cond_true, cond_false] at hv
        · cases hv
        simp only [blt_dec, decide_eq_true_eq] at hlt
        simp at hv; subst hv
        rw [hx] at hargs
        generalize hg : c.args.toList.map a'.eval = l' at hargs
        cases hargs with
        | cons hv1 ht =>
          cases ht
          have : ∃ p', c.args.toList.map a'.eval = [.slice p' n k] := by
            generalize hs : Value.slice p n k = sv at hv1
            cases hv1 with
            | atom _ => exact ⟨p, by rw [hg, ← hs]⟩
            | slice _ _ _ => injection hs with h1 h2 h3; subst h2 h3; exact ⟨_, hg⟩
            | sliceU _ _ _ _ => injection hs with h1 h2 h3; omega
            | _ => cases hs
          obtain ⟨p', hg'⟩ := this
          exact ⟨_, run_len1 (.inr rfl) hd hc hty hg' _ rfl w, .atom rfl⟩
      · cases hv
    · exact fallback_sound h ha ho (by simp) hv
    · exact fallback_sound h ha ho (by simp) hv
    · exact fallback_sound h ha ho (by simp) hv
    · cases hv
  | _ => simp [pureOp] at hv
end Go.Ev

namespace Go.Ev
variable {P : Program}

theorem equal_of {t : TypeId} {x y : Value} {b : Bool} {w : World} (h : ∀ d, (Op.equalIn (d + 1) t x y).run P w = .ok b w) : (Op.equal t x y).run P w = .ok b w := h 9999

theorem eq_run {μ : Ren} {w : World} {t : TypeId} {x y x' y' : Value} {b : Bool} (hv : eqV P t x y = some b) (hx : VR μ x x') (hy : VR μ y y') :
    (Op.equal t x' y').run P w = .ok b w ∧ (∀ op ox oy, (eqGuard op t ox oy x' y').run P w = .ok () w) ∧
      binOp .eql t x' y' = (do let b ← Op.equal t x' y'; pure (.bool b)) ∧ binOp .neq t x' y' = (do let b ← Op.equal t x' y'; pure (.bool (!b))) := by
  unfold eqV at hv
  split at hv
  · rename_i e a hd
    simp at hv; subst hv
    obtain ⟨a', rfl⟩ := hx.pointer_some
    obtain rfl := hy.of_atom rfl
    refine ⟨?_, fun op ox oy => ?_, rfl, rfl⟩
    · exact equal_of fun d => by simp [Op.equalIn, Sem.run_bind, run_und hd, Result.andThen, pure, Sem.run]
    · cases op <;> simp [eqGuard, pure, Sem.run]
  · rename_i e b1 o1 b2 o2 hd
    simp only [Option.bind_eq_some_iff] at hv
    obtain ⟨n, hn, hv⟩ := hv
    cases hz : Nat.beq n 0 <;> simp only [hz, cond_true, cond_false] at hv
    · simp only [beq_dec, decide_eq_false_iff_not] at hz
      cases hb : Nat.beq b1 b2 <;> simp only [hb, cond_true, cond_false] at hv
      · cases hv
      simp only [beq_dec, decide_eq_true_eq] at hb
      simp at hv; subst hv hb
      obtain ⟨l, hl, rfl⟩ := hx.pointer_inv
      obtain ⟨l', hl', rfl⟩ := hy.pointer_inv
      obtain rfl : l = l' := by simpa [hl] using hl'
      refine ⟨?_, fun op ox oy => ?_, rfl, rfl⟩
      · refine equal_of fun d => ?_
        simp only [Op.equalIn, Sem.run_bind, run_und hd, Result.andThen, run_size hn]
        rw [if_pos (by simpa using hz)]
        simp only [sameAddr, beq_self_eq_true, if_true, pure, Sem.run, Result.ok.injEq, and_true]
        rw [Bool.eq_iff_iff]; simp
      · cases op <;> simp [eqGuard, pure, Sem.run]
    · cases hv
  · rename_i e a n c n' c' hd
    simp at hv; subst hv
    have hx' : ∃ a' k, x' = .slice (some a') n k := by
      generalize hs : Value.slice (some a) n c = sv at hx
      cases hx with
      | atom h => subst hs; simp [Ev.atom] at h
      | slice _ _ _ => injection hs with h1 h2 h3; subst h2; exact ⟨_, _, rfl⟩
      | sliceU _ _ _ _ => injection hs with h1 h2 h3; subst h2; exact ⟨_, _, rfl⟩
      | _ => cases hs
    obtain ⟨a', k, rfl⟩ := hx'
    obtain rfl := hy.of_atom rfl
    refine ⟨?_, fun op ox oy => ?_, rfl, rfl⟩
    · exact equal_of fun d => by simp [Op.equalIn, Sem.run_bind, run_und hd, Result.andThen, pure, Sem.run]
    · cases op <;> simp [eqGuard, pure, Sem.run]
  · rename_i k e r hd
    simp at hv; subst hv
    obtain ⟨l, _, rfl⟩ := hx.map_inv
    obtain rfl := hy.of_atom rfl
    refine ⟨?_, fun op ox oy => ?_, rfl, rfl⟩
    · exact equal_of fun d => by simp [Op.equalIn, Sem.run_bind, run_und hd, Result.andThen, pure, Sem.run]
    · cases op <;> simp [eqGuard, pure, Sem.run]
  · rename_i p r q f a c hd
    simp at hv; subst hv
    have hx' : ∃ f' a' c', x' = .func f' a' c' := by
      generalize hs : Value.func f a c = sv at hx
      cases hx with
      | atom h => subst hs; simp [Ev.atom] at h
      | func _ _ => exact ⟨_, _, _, rfl⟩
      | yield _ => exact ⟨_, _, _, rfl⟩
      | _ => cases hs
    obtain ⟨f', a', c', rfl⟩ := hx'
    obtain rfl := hy.of_atom rfl
    refine ⟨?_, fun op ox oy => ?_, rfl, rfl⟩
    · exact equal_of fun d => by simp [Op.equalIn, Sem.run_bind, run_und hd, Result.andThen, pure, Sem.run]
    · cases op <;> simp [eqGuard, pure, Sem.run]
  · cases hv

theorem pureOp'_sound {μ : Ren} {s : St} {w : World} (h : Sim μ s w) {nt : Nat} {a : AAct} {a' : Act} (ha : ActR μ nt a a') {o : Oper} (ho : o.op.operands.toList.all (okOpd nt) = true) {v : Value} (hv : pureOp' P a o = some v) :
    ∃ v', (execOp a'.eval o).run P w = .ok (.value v') w ∧ VR μ v v' := by
  unfold pureOp' at hv
  split at hv
  · rename_i t x y yt hop
    have hx := opd_sound h ha (List.all_eq_true.1 ho x (by simp [hop, Op.operands]))
    have hy := opd_sound h ha (List.all_eq_true.1 ho y (by simp [hop, Op.operands]))
    cases hh : eqHeld (opd a x) <;> simp only [hh, cond_true, cond_false] at hv
    · exact fallback_sound h ha ho (by simp [hop]) hv
    simp only [Option.bind_eq_some_iff, Option.some.injEq] at hv
    obtain ⟨b, hb, rfl⟩ := hv
    obtain ⟨h1, h2, h3, _⟩ := eq_run (w := w) hb hx hy
    refine ⟨.bool b, ?_, .atom rfl⟩
    unfold execOp
    simp only [hop]
    exact run_value _ (by simp only [Sem.run_bind, h2, Result.andThen, h3, h1, pure, Sem.run])
  · rename_i t x y yt hop
    have hx := opd_sound h ha (List.all_eq_true.1 ho x (by simp [hop, Op.operands]))
    have hy := opd_sound h ha (List.all_eq_true.1 ho y (by simp [hop, Op.operands]))
    cases hh : eqHeld (opd a x) <;> simp only [hh, cond_true, cond_false] at hv
    · exact fallback_sound h ha ho (by simp [hop]) hv
    simp only [Option.bind_eq_some_iff, Option.some.injEq] at hv
    obtain ⟨b, hb, rfl⟩ := hv
    obtain ⟨h1, h2, _, h3⟩ := eq_run (w := w) hb hx hy
    refine ⟨.bool (!b), ?_, .atom rfl⟩
    unfold execOp
    simp only [hop]
    exact run_value _ (by simp only [Sem.run_bind, h2, Result.andThen, h3, h1, pure, Sem.run])
  · exact pureOp_sound h ha ho hv

/-! ### Reads -/
theorem bare_eq {μ : Ren} : ∀ {es es' : List MapEntry}, EntsR μ es es' → es.all (fun e => closed e.key) = true → bare es' = bare es
  | _, _, .nil, _ => rfl
  | _, _, .cons hk hv hb t, h => by
    simp only [List.all_cons, Bool.and_eq_true] at h
    simp only [bare, List.map_cons]
    have := bare_eq t h.2
    simp only [bare] at this
    rw [this, VR.of_closed h.1 hk, hb]

theorem entAt_eq : ∀ (n : Nat) (es : List MapEntry), entAt n es = es[n]?
  | _, [] => by simp [entAt]
  | 0, _ :: _ => rfl
  | n + 1, _ :: es => by simp [entAt, entAt_eq n es]
theorem EntsR.get {μ : Ren} : ∀ {l l' : List MapEntry}, EntsR μ l l' → ∀ (i : Nat) (e : MapEntry), l[i]? = some e → ∃ e', l'[i]? = some e' ∧ VR μ e.key e'.key ∧ VR μ e.val e'.val ∧ e.born = e'.born
  | _, _, .nil, i, e, h => by simp at h
  | _, _, .cons hk hv hb t, 0, e, h => by simp at h; subst h; exact ⟨_, rfl, hk, hv, hb⟩
  | _, _, .cons hk hv hb t, i + 1, e, h => by simpa using t.get i e (by simpa using h)

/-- What findKey finds does not hang on the values. -/
theorem findNow_bare (kind : TypeDesc) (k : Value) : ∀ (es : List MapEntry) (i : Nat),
    (Instr.findNow kind k (bare es) i).map (fun r => r.map (·.1)) = (Instr.findNow kind k es i).map (fun r => r.map (·.1)) ∧
    (∀ j v, Instr.findNow kind k es i = some (some (j, v)) → i ≤ j ∧ (es[j - i]?).map (·.val) = some v)
  | [], i => by simp [bare, Instr.findNow]
  | e :: es, i => by
    obtain ⟨h1, h2⟩ := findNow_bare kind k es (i + 1)
    simp only [bare, List.map_cons, Instr.findNow]
    cases Instr.sameNow kind k e.key with
    | none => simp
    | some b =>
      cases b
      · refine ⟨h1, fun j v hj => ?_⟩
        obtain ⟨h3, h4⟩ := h2 j v hj
        refine ⟨by omega, ?_⟩
        rw [show j - i = (j - (i + 1)) + 1 by omega]; simpa using h4
      · refine ⟨by simp, fun j v hj => ?_⟩
        simp at hj; obtain ⟨rfl, rfl⟩ := hj
        simp

theorem findAsking_bare (kt : TypeId) (k : Value) : ∀ (es : List MapEntry) (i : Nat) (r : Option (Nat × Value)), pureRun P (Instr.findAsking kt k (bare es) i) = some r →
    ∃ r', pureRun P (Instr.findAsking kt k es i) = some r' ∧ r'.map (·.1) = r.map (·.1) ∧ (∀ j v, r' = some (j, v) → i ≤ j ∧ (es[j - i]?).map (·.val) = some v)
  | [], i, r, h => by
    simp [bare, Instr.findAsking, pure, pureRun] at h; subst h
    exact ⟨none, by simp [Instr.findAsking, pure, pureRun], rfl, by simp⟩
  | e :: es, i, r, h => by
    simp only [bare, List.map_cons, Instr.findAsking, pureRun_bind] at h
    obtain ⟨b, hb, h⟩ := h
    cases b
    · simp only [Bool.false_eq_true, if_false] at h
      obtain ⟨r', h1, h2, h3⟩ := findAsking_bare kt k es (i + 1) r h
      refine ⟨r', ?_, h2, fun j v hj => ?_⟩
      · simp only [Instr.findAsking, pureRun_bind]
        exact ⟨false, hb, by simpa using h1⟩
      · obtain ⟨h4, h5⟩ := h3 j v hj
        refine ⟨by omega, ?_⟩
        rw [show j - i = (j - (i + 1)) + 1 by omega]; simpa using h5
    · simp [pure, pureRun] at h; subst h
      refine ⟨some (i, e.val), ?_, rfl, fun j v hj => ?_⟩
      · simp only [Instr.findAsking, pureRun_bind]
        exact ⟨true, hb, by simp [pure, pureRun]⟩
      · simp at hj; obtain ⟨rfl, rfl⟩ := hj; simp

theorem findKey_bare (kt : TypeId) (k : Value) (es : List MapEntry) (r : Option (Nat × Value)) (h : pureRun P (Instr.findKey kt k (bare es)) = some r) :
    ∃ r', pureRun P (Instr.findKey kt k es) = some r' ∧ r'.map (·.1) = r.map (·.1) ∧ (∀ j v, r' = some (j, v) → (es[j]?).map (·.val) = some v) := by
  unfold Instr.findKey at h ⊢
  simp only [pureRun_bind] at h ⊢
  obtain ⟨d, hd, h⟩ := h
  obtain ⟨h1, h2⟩ := findNow_bare d k es 0
  cases hn : Instr.findNow d k (bare es) 0 with
  | some q =>
    simp [hn, pure, pureRun] at h; subst h
    rw [hn] at h1
    cases hn' : Instr.findNow d k es 0 with
    | none => rw [hn'] at h1; cases h1
    | some q' =>
      rw [hn'] at h1
      simp at h1
      refine ⟨q', ⟨d, hd, by simp [hn', pure, pureRun]⟩, h1.symm, fun j v hj => ?_⟩
      subst hj
      simpa using (h2 j v hn').2
  | none =>
    rw [hn] at h1
    have hn' : Instr.findNow d k es 0 = none := by cases hx : Instr.findNow d k es 0 <;> simp [hx] at h1 ⊢
    simp only [hn] at h
    obtain ⟨r', h3, h4, h5⟩ := findAsking_bare kt k es 0 r h
    exact ⟨r', ⟨d, hd, by simpa [hn'] using h3⟩, h4, fun j v hj => by simpa using (h5 j v hj).2⟩

/-- A key's place: the same in the machine's memory. -/
theorem keyIdx_sound {μ : Ren} {w : World} {kt : TypeId} {k k' : Value} {es es' : List MapEntry} {r : Option Nat} (h : keyIdx P kt k es = some r) (hk : VR μ k k') (he : EntsR μ es es') :
    k' = k ∧ ∃ r', (Instr.findKey kt k es').run P w = .ok r' w ∧ r'.map (·.1) = r ∧ (∀ j v, r' = some (j, v) → (es'[j]?).map (·.val) = some v) := by
  unfold keyIdx at h
  cases hc : (closed k && es.all fun e => closed e.key) <;> simp only [hc, cond_true, cond_false] at h
  · cases h
  simp only [Bool.and_eq_true] at hc
  refine ⟨VR.of_closed hc.1 hk, ?_⟩
  have hb := bare_eq he hc.2
  cases hp : pureRun P (Instr.findKey kt k (bare es)) with
  | none => simp [hp] at h
  | some q =>
    obtain ⟨r', h1, h2, h3⟩ := findKey_bare kt k es' q (by rw [hb]; exact hp)
    refine ⟨r', pureRun_sound _ _ h1 w, ?_, h3⟩
    rw [h2]
    rw [hp] at h
    cases q with
    | none => simp at h; rw [← h]; rfl
    | some p => simp at h; rw [← h]; rfl
end Go.Ev

namespace Go.Ev
variable {P : Program}

theorem run_getObj {w : World} {r : Nat} {o : Obj} (h : w.heap[r]? = some o) (hn : ∀ c e f, o ≠ .cells c e f) : (getObj r).run P w = .ok o w := by
  cases o <;> first | exact absurd rfl (hn _ _ _) | simp [getObj, Sem.run, h]

theorem map_blk {μ : Ren} {s : St} {w : World} (h : Sim μ s w) {r : Nat} {es : List MapEntry} {clk : Nat} (hb : s.hp.get r = some (.map es clk)) {l : Loc} (hl : μ r = some l) :
    ∃ es', w.heap[l.blk]? = some (.map es' clk) ∧ EntsR μ es es'.toList ∧ (getObj l.blk).run P w = .ok (.map es' clk) w := by
  obtain ⟨es', h1, h2⟩ := h.blk hb hl
  exact ⟨es', h1, h2, run_getObj h1 (by simp)⟩

theorem ents_empty {μ : Ren} {es : List MapEntry} {es' : Array MapEntry} (he : EntsR μ es es'.toList) : es'.isEmpty = es.isEmpty := by
  have := he.length
  simp only [Array.length_toList] at this
  cases es with
  | nil => simp at this; simp [this]
  | cons e es => simp at this; simp [Array.isEmpty, this]

theorem lookup_go {μ : Ren} {w : World} {kt et : TypeId} {k k' : Value} {es : List MapEntry} {es' : Array MapEntry} {ok : Bool} {v : Value} (he : EntsR μ es es'.toList) (hk : VR μ k k')
    (hv : (match pureRun P (Instr.checkKey es.isEmpty 10000 kt k), keyIdx P kt k es with
      | some _, some (some i) => (entAt i es).bind fun e => some (bif ok then .tuple ⟨[e.val, .bool true]⟩ else e.val)
      | some _, some none => (zeroC P et).bind fun z => some (bif ok then .tuple ⟨[z, .bool false]⟩ else z)
      | _, _ => none) = some v) :
    ∃ r' v' z, (Instr.checkKey es'.isEmpty 10000 kt k').run P w = .ok () w ∧ (Instr.findKey kt k' es'.toList).run P w = .ok r' w ∧ (r' = none → (zeroValue et).run P w = .ok z w) ∧ VR μ v v' ∧
      v' = (match r' with | some (_, x) => if ok then .tuple #[x, .bool true] else x | none => if ok then .tuple #[z, .bool false] else z) := by
  have hemp := ents_empty he
  split at hv
  · rename_i u i hc hi
    simp only [Option.bind_eq_some_iff, Option.some.injEq] at hv
    obtain ⟨e, hent, rfl⟩ := hv
    obtain ⟨rfl, r', h1, h2, h3⟩ := keyIdx_sound (w := w) hi hk he
    rw [entAt_eq] at hent
    obtain ⟨e', h4, _, h5, _⟩ := he.get _ _ hent
    cases r' with
    | none => simp at h2
    | some p =>
      obtain ⟨j, x⟩ := p
      simp at h2; subst h2
      have := h3 j x rfl
      rw [h4] at this; simp at this; subst this
      refine ⟨_, _, undef, by rw [hemp]; exact pureRun_sound _ _ hc w, h1, (fun h => by cases h), ?_, rfl⟩
      cases ok
      · exact h5
      · exact .tuple (.cons h5 (.cons (.atom rfl) .nil))
  · rename_i u hc hi
    simp only [Option.bind_eq_some_iff, Option.some.injEq] at hv
    obtain ⟨z, hz, rfl⟩ := hv
    obtain ⟨hz, hcl⟩ := zeroC_eq hz
    obtain ⟨rfl, r', h1, h2, h3⟩ := keyIdx_sound (w := w) hi hk he
    cases r' with
    | some p => simp at h2
    | none =>
      refine ⟨_, _, z, by rw [hemp]; exact pureRun_sound _ _ hc w, h1, (fun _ => run_zero hz w), ?_, rfl⟩
      cases ok
      · exact VR.closed μ hcl
      · exact .tuple (.cons (VR.closed μ hcl) (.cons (.atom rfl) .nil))
  · cases hv

theorem lookup_sound {μ : Ren} {s : St} {w : World} (h : Sim μ s w) {t : TypeId} {m m' k k' : Value} {ok : Bool} {v : Value} (hm : VR μ m m') (hk : VR μ k k') (hv : lookupV P s t m k ok = some v) :
    ∃ v', (Instr.lookup t m' k' ok).run P w = .ok v' w ∧ VR μ v v' := by
  unfold lookupV at hv
  split at hv
  · rename_i kt et hd
    simp only [] at hv
    split at hv
    · obtain rfl := hm.of_atom rfl
      obtain ⟨r', v', z, h1, h2, h3, h4, h5⟩ := lookup_go (w := w) (es' := #[]) .nil hk hv
      refine ⟨v', ?_, h4⟩
      simp only [Instr.lookup, Sem.run_bind, run_und hd, Result.andThen, pure, Sem.run, h1, h2]
      cases r' with
      | none => simp [Sem.run_bind, h3 rfl, Result.andThen, Sem.run, h5]
      | some p => simp [Sem.run_bind, Result.andThen, Sem.run, h5]
    · rename_i r
      split at hv
      · rename_i es clk hb
        obtain ⟨l, hl, rfl⟩ := hm.map_inv
        obtain ⟨es', h3, h4, h5⟩ := map_blk (P := P) h hb hl
        obtain ⟨r', v', z, h1, h2, h3, h6, h7⟩ := lookup_go (w := w) h4 hk hv
        refine ⟨v', ?_, h6⟩
        simp only [Instr.lookup, Sem.run_bind, run_und hd, Result.andThen, h5, pure, Sem.run, h1, h2]
        cases r' with
        | none => simp [Sem.run_bind, h3 rfl, Result.andThen, Sem.run, h7]
        | some p => simp [Sem.run_bind, Result.andThen, Sem.run, h7]
      · cases hv
    · cases hv
  · cases hv

theorem bytes_rel {μ : Ren} : ∀ {l l' : List Value} {bs : List UInt8}, bytesOfCells l = some bs → VRs μ l l' → l' = l ∧ ∀ v ∈ l, ∃ n, v = .int .u8 n
  | [], _, _, _, .nil => ⟨rfl, by simp⟩
  | v :: l, _, bs, h, .cons hv t => by
    cases v with
    | int k n =>
      cases k with
      | u8 =>
        simp only [bytesOfCells, Option.bind_eq_some_iff] at h
        obtain ⟨bs', h1, _⟩ := h
        obtain ⟨rfl, h2⟩ := bytes_rel h1 t
        obtain rfl := hv.of_atom rfl
        exact ⟨rfl, by simpa using h2⟩
      | _ => simp [bytesOfCells] at h
    | _ => simp [bytesOfCells] at h

theorem bytes_eq {f : Value → ByteArray → Sem (ForInStep ByteArray)} (hf : ∀ n s, f (.int .u8 n) s = Sem.pure (.yield (s.push (UInt8.ofNat n.toNat)))) : ∀ {l : List Value} {bs : List UInt8}, bytesOfCells l = some bs → ∀ (s : ByteArray) (w : World),
    (forIn l s f : Sem ByteArray).run P w = .ok ⟨s.data ++ bs.toArray⟩ w
  | [], bs, h, s, w => by simp [bytesOfCells] at h; subst h; simp [pure, Sem.run]
  | v :: l, bs, h, s, w => by
    cases v with
    | int k n =>
      cases k with
      | u8 =>
        simp only [bytesOfCells, Option.bind_eq_some_iff, Option.some.injEq] at h
        obtain ⟨bs', h1, rfl⟩ := h
        simp only [List.forIn_cons, Sem.run_bind, hf, Sem.run, Result.andThen]
        rw [bytes_eq hf h1 (s.push (UInt8.ofNat n.toNat)) w]
        congr 2
        simp [ByteArray.push]
      | _ => simp [bytesOfCells] at h
    | _ => simp [bytesOfCells] at h

theorem bytesToString_run {w : World} {b o n c : Nat} {vs : List Value} {bs : List UInt8} (hlen : vs.length = n) (hc : ∀ j v, vs[j]? = some v → w.cell? ⟨b, o + j, none⟩ = some v) (hb : bytesOfCells vs = some bs) :
    (Conv.bytesToString (.slice (some ⟨b, o, none⟩) n c)).run P w = .ok (.string ⟨⟨bs⟩⟩) w := by
  subst hlen
  have e : (⟨ByteArray.empty.data ++ bs.toArray⟩ : ByteArray) = ⟨⟨bs⟩⟩ := by
    show (⟨#[] ++ bs.toArray⟩ : ByteArray) = _
    simp
  simp only [Conv.bytesToString, Sem.run_bind, run_loadCells hc, Result.andThen]
  have e2 : ∀ (f : Value → ByteArray → Sem (ForInStep ByteArray)), (forIn (⟨vs⟩ : Array Value) ByteArray.empty f : Sem ByteArray) = forIn vs ByteArray.empty f := fun f => by
    rw [← Array.forIn_toList]
  rw [e2, bytes_eq (fun n s => rfl) hb, e]
  rfl

theorem EntsR.find {μ : Ren} (stamp : Nat) : ∀ {l l' : List MapEntry} {e : MapEntry}, EntsR μ l l' → l.find? (fun e => e.born == stamp) = some e → ∃ e', l'.find? (fun e => e.born == stamp) = some e' ∧ VR μ e.key e'.key ∧ VR μ e.val e'.val
  | _, _, e, .nil, h => by simp at h
  | e1 :: l, e2 :: l', e, .cons hk hv hb t, h => by
    simp only [List.find?_cons] at h ⊢
    rw [hb] at h
    cases hc : (e2.born == stamp) <;> simp only [hc] at h ⊢
    · exact t.find stamp h
    · simp at h; subst h; exact ⟨_, rfl, hk, hv⟩

theorem run_shape (r : Nat) (w : World) : (shape r).run P w = .ok (w.shape? r) w := rfl
theorem seenAt_run {w : World} {a : Addr} {e : TypeId} {n : Nat} (h : w.shape? a.block = some (e, n)) : (Conv.seenAt a).run P w = .ok a w := by
  simp [Conv.seenAt, viewAt, Sem.run_bind, run_shape, h, Result.andThen, pure, Sem.run]

theorem readOp_sound {μ : Ren} {s : St} {w : World} (h : Sim μ s w) {nt : Nat} {a : AAct} {a' : Act} (ha : ActR μ nt a a') {o : Oper} (ho : o.op.operands.toList.all (okOpd nt) = true) {v : Value} (hv : readOp P a o s = some v) :
    ∃ v', (execOp a'.eval o).run P w = .ok (.value v') w ∧ VR μ v v' := by
  obtain ⟨dst, op, ty, pos, aft, grd⟩ := o
  have hop : ∀ x, x ∈ op.operands → VR μ (opd a x) (a'.eval x) := fun x hx => opd_sound h ha (List.all_eq_true.1 ho x (by simpa using hx))
  cases op with
  | load t x =>
    simp only [readOp, Option.bind_eq_some_iff] at hv
    obtain ⟨p, hp, hv⟩ := hv
    obtain ⟨l, hl, hsp, hx'⟩ := (hop x (by simp [Op.operands])).ptr_inv hp
    obtain ⟨b, off, sp⟩ := p
    subst hsp
    obtain ⟨v', h1, h2⟩ := load_sound (P := P) h hl hv
    refine ⟨v', ?_, h2⟩
    simp only [execOp]
    exact run_value _ (by simp only [Instr.loadAt, hx', Instr.sureAddr, Sem.run_bind, pure, Sem.run, Result.andThen]; exact h1)
  | lookup t m k ok =>
    obtain ⟨v', h1, h2⟩ := lookup_sound h (hop m (by simp [Op.operands])) (hop k (by simp [Op.operands])) hv
    exact ⟨v', by simp only [execOp]; exact run_value _ h1, h2⟩
  | entry it =>
    have hit := hop it (by simp [Op.operands])
    simp only [readOp] at hv
    split at hv
    · rename_i r hr
      rw [hr] at hit
      obtain ⟨l, hl, hx'⟩ := hit.pointer_inv
      split at hv
      · rename_i m since seen stepped hb
        obtain ⟨lm, hlm, hobj⟩ := h.blk hb hl
        split at hv
        · rename_i es clk hbm
          cases hc : Nat.beq clk stepped <;> simp only [hc, cond_true, cond_false] at hv
          · cases hv
          simp only [beq_dec, decide_eq_true_eq] at hc
          subst hc
          split at hv
          · rename_i stamp hst
            split at hv
            · rename_i e hfe
              simp at hv; subst hv
              obtain ⟨es', h3, h4, h5⟩ := map_blk (P := P) h hbm hlm
              obtain ⟨e', h6, h7, h8⟩ := h4.find stamp hfe
              obtain ⟨hobj, hsh⟩ := hobj
              refine ⟨.tuple #[e'.key, e'.val], ?_, .tuple (.cons h7 (.cons h8 .nil))⟩
              simp only [execOp]
              refine run_value _ ?_
              have hfind : es'.find? (fun e => e.born == stamp) = some e' := by rw [← Array.find?_toList]; exact h6
              have hback : (Array.mk seen).back? = some stamp := by simpa using hst
              simp [Instr.entry, hx', hsh, Sem.run_bind, run_getObj hobj (by simp), Result.andThen, h5, hfind, hback, pure, Sem.run]
            · cases hv
          · cases hv
        · cases hv
      · cases hv
    · cases hv
  | convert src dst x =>
    have hx := hop x (by simp [Op.operands])
    simp only [readOp] at hv
    split at hv
    · rename_i b off n c hs
      rw [hs] at hx
      split at hv
      · rename_i e h1 h2
        split at hv
        · rename_i h3
          simp only [Option.bind_eq_some_iff, Option.some.injEq] at hv
          obtain ⟨l, hl, bs, hbs, rfl⟩ := hv
          obtain ⟨lo, hlo, hcase⟩ := hx.slice_inv
          obtain ⟨vs', hlen, hcell, hr⟩ := load_cells h hlo hl
          obtain ⟨rfl, _⟩ := bytes_rel hbs hr
          refine ⟨_, ?_, .atom rfl⟩
          have hx' : ∃ ad c', a'.eval x = .slice (some ad) n c' ∧ (Conv.bytesToString (.slice (some ad) n c')).run P w = .ok (.string ⟨⟨bs⟩⟩) w := by
            rcases hcase with ⟨_, _, h⟩ | ⟨es, c', ad, _, h5, h6, _, h⟩
            · exact ⟨_, _, h, bytesToString_run hlen hcell hbs⟩
            · refine ⟨ad, c', h, ?_⟩
              by_cases hc' : c' = 0
              · have hn : n = 0 := by omega
                have : vs' = [] := List.eq_nil_of_length_eq_zero (by omega)
                subst this hn
                simp [bytesOfCells] at hbs; subst hbs
                simp [Conv.bytesToString, Sem.run_bind, loadCells, loadCellsFrom, Result.andThen, pure, Sem.run]
                rfl
              · rw [h6 hc']; exact bytesToString_run hlen hcell hbs
          obtain ⟨ad, c', h5, h6⟩ := hx'
          simp only [execOp]
          refine run_value _ ?_
          simp only [convert, Sem.run_bind, run_und h1, run_und h2, Result.andThen, h5, run_und h3]
          exact h6
        · cases hv
      · cases hv
    · rename_i b off hs
      rw [hs] at hx
      obtain ⟨l, hl, hx'⟩ := hx.pointer_inv
      split at hv
      · rename_i t vs e fz gr mk h1 h2 hb
        simp only [Option.bind_eq_some_iff] at hv
        obtain ⟨n, hn, hv⟩ := hv
        cases hz : Nat.beq n 0 <;> simp only [hz, cond_true, cond_false] at hv
        · simp only [beq_dec, decide_eq_false_iff_not] at hz
          cases hlt : Nat.blt off vs.length <;> simp only [hlt, cond_true, cond_false] at hv
          · cases hv
          simp only [blt_dec, decide_eq_true_eq] at hlt
          simp at hv; subst hv
          obtain ⟨c, lo, hi, hobj, h3, h4, h5, h6, h7⟩ := h.blk hb hl
          refine ⟨_, ?_, .ptr hl⟩
          have hsh : w.shape? l.blk = some (e, c.size) := shape_of hobj
          simp only [execOp]
          refine run_value _ ?_
          simp only [convert, Sem.run_bind, run_und h1, run_und h2, Result.andThen, hx', Conv.unsafePointer, seenAt_run (a := ⟨l.blk, l.sh + off, none⟩) hsh, cellsIn, run_shape, hsh, pure, Sem.run, run_size hn]
          simp only [hz, decide_false, Bool.false_or, ge_iff_le, Option.isNone_none, Bool.and_true, decide_eq_true_eq]
          rw [if_neg (by omega)]
          rfl
        · cases hv
      · rename_i u vs e fz mk h1 h2 hb
        simp only [Option.bind_eq_some_iff] at hv
        obtain ⟨n, hn, hv⟩ := hv
        cases hz : Nat.beq n 0 <;> simp only [hz, cond_true, cond_false] at hv
        · simp only [beq_dec, decide_eq_false_iff_not] at hz
          cases hlt : liesAt P P.depth e (vs.length / P.cellsOf e) off u 1 <;> simp only [hlt, cond_true, cond_false] at hv
          · cases hv
          simp at hv; subst hv
          obtain ⟨c, lo, hi, hobj, h3, h4, h5, h6, h7⟩ := h.blk hb hl
          obtain ⟨h8, h9⟩ := h4 rfl
          refine ⟨_, ?_, .ptr hl⟩
          have hsh : w.shape? l.blk = some (e, c.size) := shape_of hobj
          have hlies : liesAt P P.depth e (c.size / P.cellsOf e) (l.sh + off) u 1 = true := by rw [h3, h9, h8, Nat.zero_add]; exact hlt
          simp only [execOp]
          refine run_value _ ?_
          simp only [convert, Sem.run_bind, run_und h1, run_und h2, Result.andThen, hx', Conv.unsafePointer, seenAt_run (a := ⟨l.blk, l.sh + off, none⟩) hsh, variablesAt, program, run_shape, hsh, pure, Sem.run, run_size hn, hlies]
          simp [Sem.run]
        · cases hv
      · cases hv
    · cases hv
  | call c =>
    simp only [readOp] at hv
    split at hv
    · rename_i r t hc hx hty
      split at hv
      · rename_i k e hd
        split at hv
        · rename_i es clk hb
          simp at hv; subst hv
          have hargs : VRs μ (c.args.toList.map (opd a)) (c.args.toList.map a'.eval) := by
            simp only [Op.operands, Call.operands, Array.toList_append, List.all_append, Bool.and_eq_true] at ho
            exact opds_sound h ha ho.2
          rw [hx] at hargs
          generalize hg : c.args.toList.map a'.eval = l' at hargs
          cases hargs with
          | cons hv1 ht =>
            cases ht
            obtain ⟨l, hl, rfl⟩ := hv1.map_inv
            obtain ⟨es', h3, h4, h5⟩ := map_blk (P := P) h hb hl
            refine ⟨.int .i64 es'.size, ?_, by have := h4.length; simp at this; rw [this]; exact .atom rfl⟩
            have hty' : c.argTypes = #[t] := by apply Array.toList_inj.1; simp [hty]
            have hargs : c.args.map a'.eval = #[.map (some l.blk)] := by apply Array.toList_inj.1; simp [hg]
            simp only [execOp, resolve, hc, Sem.run_bind, pure, Sem.run, Result.andThen, invoke, hargs, hty']
            simp [builtin, Builtin.len_, Sem.run_bind, run_und hd, Result.andThen, pure, Sem.run, goInt, h5]
        · cases hv
      · cases hv
    · cases hv
  | _ => simp [readOp] at hv
end Go.Ev

namespace Go.Ev
variable {P : Program}

theorem run_askRoom (n : Nat) (w : World) : (askRoom n).run P w = .ok () w := by
  unfold askRoom
  split <;> simp [mark, pure, Sem.run]
theorem run_newObj (o : Obj) (w : World) : (newObj o).run P w = .ok w.heap.size { w with heap := w.heap.push o } := rfl

theorem zeros_len (z : List Value) : ∀ n, (zeros z n).length = n * z.length
  | 0 => by simp [zeros]
  | n + 1 => by simp [zeros, zeros_len z n, Nat.add_mul]; omega
theorem zeros_get (z : List Value) : ∀ (n i : Nat), i < n * z.length → (zeros z n)[i]? = z[i % z.length]?
  | 0, i, h => by simp at h
  | n + 1, i, h => by
    have hz : 0 < z.length := by
      rcases Nat.eq_zero_or_pos z.length with h0 | h0
      · rw [h0] at h; simp at h
      · exact h0
    simp only [zeros]
    by_cases hi : i < z.length
    · rw [List.getElem?_append_left hi, Nat.mod_eq_of_lt hi]
    · have h' : i < n * z.length + z.length := by rw [Nat.add_mul, Nat.one_mul] at h; exact h
      rw [List.getElem?_append_right (by omega), zeros_get z n (i - z.length) (by omega)]
      congr 1
      exact (Nat.mod_eq_sub_mod (by omega : z.length ≤ i)).symm
theorem zeros_arr (z : Array Value) (n : Nat) : (Array.range (n * z.size)).map (fun i => z[i % z.size]!) = ⟨zeros z.toList n⟩ := by
  apply Array.toList_inj.1
  apply List.ext_getElem?
  intro i
  by_cases hi : i < n * z.size
  · have hz : 0 < z.size := by
      rcases Nat.eq_zero_or_pos z.size with h0 | h0
      · rw [h0] at hi; simp at hi
      · exact h0
    have hm := Nat.mod_lt i hz
    simp only [Array.getElem?_toList]
    rw [zeros_get z.toList n i (by simpa using hi)]
    simp [hi, hm]
  · have : (zeros z.toList n)[i]? = none := by
      apply List.getElem?_eq_none; rw [zeros_len]; simpa using hi
    simp only [Array.getElem?_toList]
    rw [this]
    simp; omega

/-- A block of cells just made. -/
theorem cells_new {μ : Ren} {n : Nat} {vs : List Value} {c : Array Value} {t : TypeId} (h : VRs μ vs c.toList) {csz : Nat} (hc : csz = c.size) : BlkR μ ⟨n, 0, csz⟩ (some (.cells c t)) (.cells vs t 0 false false) := by
  have hl := h.length
  simp only [Array.length_toList] at hl
  refine ⟨c, 0, 0, rfl, hc.symm, fun _ => ⟨rfl, hc.trans hl⟩, by simp [hc, hl], fun i v hv => ?_, ⟨.inl rfl, fun _ _ _ => ⟨rfl, rfl⟩⟩⟩
  obtain ⟨v', h1, h2⟩ := h.get i v hv
  exact ⟨v', by simpa using h1, h2⟩

theorem closed_cells {z : Value} (hz : closed z = true) (μ : Ren) : VRs μ z.cells.toList z.cells.toList := (VR.closed μ hz).cells
theorem zeros_rel {μ : Ren} {z z' : List Value} (h : VRs μ z z') : ∀ n, VRs μ (zeros z n) (zeros z' n)
  | 0 => .nil
  | n + 1 => h.append (zeros_rel h n)

theorem allocOp_sound {μ : Ren} {s : St} {w : World} (h : Sim μ s w) {nt : Nat} {a : AAct} {a' : Act} (ha : ActR μ nt a a') {o : Oper} (ho : o.op.operands.toList.all (okOpd nt) = true) {b : Blk} {f : Nat → Value} (hv : allocOp P a o = some (b, f)) :
    ∃ obj csz v', (execOp a'.eval o).run P w = .ok (.value v') { w with heap := w.heap.push obj } ∧
      BlkR (μ.add s.nx ⟨w.heap.size, 0, csz⟩) ⟨w.heap.size, 0, csz⟩ (some obj) b ∧ VR (μ.add s.nx ⟨w.heap.size, 0, csz⟩) (f s.nx) v' := by
  obtain ⟨dst, op, ty, pos, aft, grd⟩ := o
  have hle : ∀ l, μ.le (μ.add s.nx l) := fun l => Ren.le_add (h.nxt _ (Nat.le_refl _)) l
  have hop : ∀ x, x ∈ op.operands → VR μ (opd a x) (a'.eval x) := fun x hx => opd_sound h ha (List.all_eq_true.1 ho x (by simpa using hx))
  cases op with
  | alloc t =>
    simp only [allocOp, Option.bind_eq_some_iff, Option.some.injEq, Prod.mk.injEq] at hv
    obtain ⟨z, hz, rfl, rfl⟩ := hv
    obtain ⟨hz, hcl⟩ := zeroC_eq hz
    refine ⟨.cells z.cells t, z.cells.size, .pointer (some ⟨w.heap.size, 0, none⟩), ?_, cells_new (closed_cells hcl _) rfl, ?_⟩
    · simp only [execOp]
      refine run_value _ ?_
      simp [Instr.alloc, Sem.run_bind, run_zero hz, Result.andThen, newVar, newRow, run_newObj, pure, Sem.run]
    · exact VR.ptr (o := 0) (Ren.add_self ..)
  | box t x =>
    simp only [allocOp, Option.some.injEq, Prod.mk.injEq] at hv
    obtain ⟨rfl, rfl⟩ := hv
    refine ⟨.cells (a'.eval x).cells t, (a'.eval x).cells.size, .pointer (some ⟨w.heap.size, 0, none⟩), ?_, cells_new ((hop x (by simp [Op.operands])).cells.mono (hle _)) rfl, ?_⟩
    · simp only [execOp]
      refine run_value _ ?_
      simp [Instr.box, Sem.run_bind, Result.andThen, newVar, newRow, run_newObj, pure, Sem.run]
    · exact VR.ptr (o := 0) (Ren.add_self ..)
  | buildSlice t len ps =>
    simp only [allocOp] at hv
    split at hv
    · rename_i e hd
      simp only [Option.bind_eq_some_iff] at hv
      obtain ⟨size, hsz, z, hz, hv⟩ := hv
      obtain ⟨hz, hcl⟩ := zeroC_eq hz
      cases hc : (Nat.ble (Nat.mul len size) 65536 && Nat.ble len 65536 && Nat.beq z.cells.toList.length size) <;> simp only [hc, cond_true, cond_false] at hv
      · cases hv
      simp only [Bool.and_eq_true, ble_dec, beq_dec, decide_eq_true_eq] at hc
      obtain ⟨⟨hc1, hc2⟩, hc3⟩ := hc
      change len * size ≤ 65536 at hc1
      split at hv
      · rename_i cs hf
        simp only [Option.some.injEq, Prod.mk.injEq] at hv
        obtain ⟨rfl, rfl⟩ := hv
        have hpr : PartsR μ (ps.map fun p => (p.1, opd a p.2)).toList (ps.map fun p => (p.1, a'.eval p.2)).toList := by
          simp only [Array.toList_map]
          refine parts_rel h ha fun p hp => List.all_eq_true.1 ho p.2 ?_
          simp only [Op.operands]
          exact List.mem_map.2 ⟨p, hp, rfl⟩
        obtain ⟨⟨cs'⟩, hf', hr⟩ := fill_rel (cs' := ⟨zeros z.cells.toList len⟩) _ hpr (zeros_rel (closed_cells hcl μ) len) hf
        have hzs : z.cells.size = size := by simpa using hc3
        have hrow : (Array.range (len * size)).map (fun i => (if len * size = 0 then #[] else z.cells)[i % (if len * size = 0 then #[] else z.cells).size]!) = ⟨zeros z.cells.toList len⟩ := by
          by_cases h0 : len * size = 0
          · rw [if_pos h0, h0]
            have : zeros z.cells.toList len = [] := List.eq_nil_of_length_eq_zero (by rw [zeros_len, hc3]; exact h0)
            simp [this]
          · rw [if_neg h0, ← hzs]; exact zeros_arr _ _
        refine ⟨.cells ⟨cs'⟩ e, cs'.length, .slice (some ⟨w.heap.size, 0, none⟩) len len, ?_, cells_new (hr.mono (hle _)) rfl, ?_⟩
        · simp only [execOp]
          refine run_value _ ?_
          simp only [Instr.buildSlice, Sem.run_bind, run_und hd, run_size hsz, Result.andThen]
          rw [if_neg (by omega)]
          by_cases h0 : len * size = 0
          · rw [if_pos h0] at hrow ⊢
            simp only [Sem.run_bind, pure, Sem.run, Result.andThen, hrow, hf', newRow, run_newObj]
          · rw [if_neg h0] at hrow ⊢
            simp only [Sem.run_bind, run_zero hz, pure, Sem.run, Result.andThen, hrow, hf', newRow, run_newObj]
        · exact VR.slice (o := 0) (Ren.add_self ..) (Nat.le_refl _) (by unfold unk; omega)
      · cases hv
    · cases hv
  | makeMap t r =>
    cases r with
    | none =>
      simp only [allocOp, Option.some.injEq, Prod.mk.injEq] at hv
      obtain ⟨rfl, rfl⟩ := hv
      refine ⟨.map #[] 0, 0, .map (some w.heap.size), ?_, ⟨#[], rfl, .nil⟩, ?_⟩
      · simp only [execOp]
        refine run_value _ ?_
        simp [Instr.makeMap, Sem.run_bind, Result.andThen, run_newObj, pure, Sem.run]
      · exact VR.map (Ren.add_self ..)
    | some x => simp [allocOp] at hv
  | makeSlice t l c =>
    simp only [allocOp] at hv
    split at hv
    · rename_i e ln cn hd hl hc
      simp only [Option.bind_eq_some_iff] at hv
      obtain ⟨i, hi, z, hz, hv⟩ := hv
      obtain ⟨hz, hcl⟩ := zeroC_eq hz
      cases hcd : (Nat.ble ln cn && Nat.ble cn 65536 && Nat.ble i.bytes 65536 && Nat.beq z.cells.toList.length i.size) <;> simp only [hcd, cond_true, cond_false] at hv
      · cases hv
      simp only [Bool.and_eq_true, ble_dec, beq_dec, decide_eq_true_eq] at hcd
      obtain ⟨⟨⟨h1, h2⟩, h3⟩, h4⟩ := hcd
      simp only [Option.some.injEq, Prod.mk.injEq] at hv
      obtain ⟨rfl, rfl⟩ := hv
      obtain ⟨k1, hl'⟩ := nat_inv hl (hop l (by simp [Op.operands]))
      obtain ⟨k2, hc'⟩ := nat_inv hc (hop c (by simp [Op.operands]))
      have hsz : szOf P e = some i.size := by simp [szOf, hi]
      have hzs : z.cells.size = i.size := by simpa using h4
      have w1 : IntKind.i64.wrap (ln : Int) = ln := IntWalk.i64_in _ (by omega)
      have w2 : IntKind.i64.wrap (cn : Int) = cn := IntWalk.i64_in _ (by omega)
      have hb : ¬ ((i.bytes : Int) * (cn : Int) > 2 ^ 48) := by
        have h5 : i.bytes * cn ≤ 4294967296 := Nat.le_trans (Nat.mul_le_mul h3 h2) (by decide)
        have h6 : (i.bytes : Int) * (cn : Int) = ((i.bytes * cn : Nat) : Int) := (Int.natCast_mul ..).symm
        rw [h6]; omega
      have hrow : (Array.range (cn * i.size)).map (fun j => (if cn * i.size = 0 then #[] else z.cells)[j % (if cn * i.size = 0 then #[] else z.cells).size]!) = ⟨zeros z.cells.toList cn⟩ := by
        by_cases h0 : cn * i.size = 0
        · rw [if_pos h0, h0]
          have : zeros z.cells.toList cn = [] := List.eq_nil_of_length_eq_zero (by rw [zeros_len, h4]; exact h0)
          simp [this]
        · rw [if_neg h0, ← hzs]; exact zeros_arr _ _
      refine ⟨.cells ⟨zeros z.cells.toList cn⟩ e, (zeros z.cells.toList cn).length, .slice (some ⟨w.heap.size, 0, none⟩) ln cn, ?_, cells_new (zeros_rel (closed_cells hcl _) cn) rfl, ?_⟩
      · simp only [execOp]
        refine run_value _ ?_
        have ha1 : (asInt (a'.eval l)).run P w = .ok (ln : Int) w := by
          simp only [asInt, Sem.run_bind, run_asIntOf hl', Result.andThen, pure, Sem.run]
        have ha2 : (asInt (a'.eval c)).run P w = .ok (cn : Int) w := by
          simp only [asInt, Sem.run_bind, run_asIntOf hc', Result.andThen, pure, Sem.run]
        have hcond : (((decide ((cn : Int) < 0) || decide ((i.bytes : Int) * (cn : Int) > 2 ^ 48)) || decide ((ln : Int) < 0)) || decide ((ln : Int) > cn)) = false := by
          simp only [Bool.or_eq_false_iff, decide_eq_false_iff_not]
          exact ⟨⟨⟨by omega, hb⟩, by omega⟩, by omega⟩
        unfold Instr.makeSlice
        rw [Sem.run_bind, run_und hd]
        simp only [Result.andThen]
        rw [Sem.run_bind, ha1]
        simp only [Result.andThen]
        rw [Sem.run_bind, ha2]
        simp only [Result.andThen]
        rw [Sem.run_bind, run_info hi]
        simp only [Result.andThen, w1, w2]
        rw [if_neg (by rw [hcond]; simp)]
        rw [Sem.run_bind, run_askRoom]
        simp only [Result.andThen]
        rw [Sem.run_bind, run_size hsz]
        simp only [Result.andThen, Int.toNat_natCast]
        by_cases h0 : cn * i.size = 0
        · rw [if_pos h0] at hrow ⊢
          simp only [Sem.run_bind, pure, Sem.run, Result.andThen, hrow, newRow, run_newObj]
        · rw [if_neg h0] at hrow ⊢
          simp only [Sem.run_bind, run_zero hz, pure, Sem.run, Result.andThen, hrow, newRow, run_newObj]
      · exact VR.slice (o := 0) (Ren.add_self ..) h1 (by unfold unk; omega)
    · cases hv
  | _ => simp [allocOp] at hv
end Go.Ev

namespace Go.Ev
variable {P : Program}

theorem run_choose {q : Question} (h : q.forced = false) (w : World) : (choose q).run P w = .ok (q.cut (w.tape w.drawn q)) { w with drawn := w.drawn + 1 } := by
  simp [choose, Sem.run, h]
theorem cap_ge (need old : Nat) (e : TypeId) (t : Nat) : need ≤ (Question.appendCap need old e).cut t := by
  show need ≤ need + t % (2 ^ 63 - need); omega

theorem run_setObj {w : World} {r : Nat} {o p : Obj} (h : w.heap[r]? = some o) (hn : ∀ c e f, o ≠ .cells c e f) : (setObj r p).run P w = .ok () { w with heap := w.heap.setIfInBounds r p } := by
  cases o <;> first | exact absurd rfl (hn _ _ _) | simp [setObj, Sem.run, h]
theorem set_upd {w : World} {r : Nat} {o p : Obj} (h : w.heap[r]? = some o) : Upd w { w with heap := w.heap.setIfInBounds r p } r p := by
  have hlt : r < w.heap.size := by
    rcases Nat.lt_or_ge r w.heap.size with h' | h'
    · exact h'
    · simp [Array.getElem?_eq_none h'] at h
  exact ⟨by simp [Array.getElem?_setIfInBounds, hlt], fun c hc => Array.getElem?_setIfInBounds_ne (Ne.symm hc), by simp, rfl, rfl, rfl⟩

theorem setEnt_rel {μ : Ren} {k v v' : Value} (hk : closed k = true) (hv : VR μ v v') : ∀ (i : Nat) {l l' : List MapEntry}, EntsR μ l l' → EntsR μ (setEnt i k v l) (l'.modify i fun e => ⟨k, v', e.born⟩)
  | i, _, _, .nil => by cases i <;> exact .nil
  | 0, _, _, .cons h1 h2 h3 t => by simp only [setEnt, List.modify_zero_cons]; exact .cons (VR.closed μ hk) hv h3 t
  | i + 1, _, _, .cons h1 h2 h3 t => by simp only [setEnt, List.modify_succ_cons]; exact .cons h1 h2 h3 (setEnt_rel hk hv i t)
theorem EntsR.snoc {μ : Ren} {e e' : MapEntry} (hk : VR μ e.key e'.key) (hv : VR μ e.val e'.val) (hb : e.born = e'.born) : ∀ {l l' : List MapEntry}, EntsR μ l l' → EntsR μ (l ++ [e]) (l' ++ [e'])
  | _, _, .nil => .cons hk hv hb .nil
  | _, _, .cons h1 h2 h3 t => .cons h1 h2 h3 (t.snoc hk hv hb)

theorem update_sound {μ : Ren} {s s' : St} {w : World} (h : Sim μ s w) {t : TypeId} {m m' k k' v v' : Value} (hm : VR μ m m') (hk : VR μ k k') (hvv : VR μ v v') (hv : updateV P s t m k v = some s') :
    ∃ w', (Instr.mapUpdate t m' k' v').run P w = .ok () w' ∧ Stp μ s w μ s' w' := by
  unfold updateV at hv
  split at hv
  · rename_i kt et r hd
    split at hv
    · rename_i es clk hb
      obtain ⟨l, hl, rfl⟩ := hm.map_inv
      obtain ⟨es', h3, h4, h5⟩ := map_blk (P := P) h hb hl
      split at hv
      · rename_i u i hc hi
        simp only [Option.bind_eq_some_iff] at hv
        obtain ⟨e, hent, hv⟩ := hv
        cases hsb : Instr.sameBits 10000 e.key k <;> simp only [hsb, cond_true, cond_false] at hv
        · cases hv
        simp only [Option.some.injEq] at hv; subst hv
        obtain ⟨rfl, r', h1, h2, _⟩ := keyIdx_sound (w := w) hi hk h4
        have hcl : closed k' = true := by
          unfold keyIdx at hi
          cases hc : (closed k' && es.all fun e => closed e.key) <;> simp only [hc, cond_true, cond_false] at hi
          · cases hi
          · simp only [Bool.and_eq_true] at hc; exact hc.1
        have hcs : es.all (fun e => closed e.key) = true := by
          unfold keyIdx at hi
          cases hc : (closed k' && es.all fun e => closed e.key) <;> simp only [hc, cond_true, cond_false] at hi
          · cases hi
          · simp only [Bool.and_eq_true] at hc; exact hc.2
        rw [entAt_eq] at hent
        obtain ⟨e', h6, h7, _, _⟩ := h4.get _ _ hent
        have hke : e'.key = e.key := VR.of_closed (List.all_eq_true.1 hcs e (List.mem_of_getElem? hent)) h7
        cases r' with
        | none => simp at h2
        | some p =>
          obtain ⟨j, x⟩ := p
          simp at h2; subst h2
          have hst := Stp.upd h hb hl (set_upd (p := .map (es'.modify j fun e => ⟨k', v', e.born⟩) clk) h3) (b' := .map (setEnt j k' v es) clk) ⟨_, rfl, by
            have := setEnt_rel hcl hvv j h4
            simpa [Array.toList_modify] using this⟩
          refine ⟨_, ?_, hst⟩
          have h6' : es'[j]? = some e' := by simpa using h6
          simp only [Instr.mapUpdate, Sem.run_bind, run_und hd, Result.andThen, h5, pureRun_sound _ _ hc w, h1, h6', Option.map_some, Option.getD_some, Instr.keyThatStays, hke, hsb, if_true, pure, Sem.run]
          rw [run_setObj h3 (by simp)]
      · rename_i u hc hi
        simp only [Option.some.injEq] at hv; subst hv
        obtain ⟨rfl, r', h1, h2, _⟩ := keyIdx_sound (w := w) hi hk h4
        cases r' with
        | some p => simp at h2
        | none =>
          have hst := Stp.upd h hb hl (set_upd (p := .map (es'.push ⟨k', v', clk⟩) (clk + 1)) h3) (b' := .map (es ++ [⟨k', v, clk⟩]) (Nat.succ clk)) ⟨_, rfl, by
            simpa using h4.snoc (e := ⟨k', v, clk⟩) (e' := ⟨k', v', clk⟩) hk hvv rfl⟩
          refine ⟨_, ?_, hst⟩
          simp only [Instr.mapUpdate, Sem.run_bind, run_und hd, Result.andThen, h5, pureRun_sound _ _ hc w, h1]
          rw [run_setObj h3 (by simp)]
      · cases hv
    · cases hv
  · cases hv

theorem byteCells_closed (b : ByteArray) : (byteCells b).all atom = true := by
  refine List.all_eq_true.2 fun v hv => ?_
  simp only [byteCells, List.mem_map] at hv
  obtain ⟨c, _, rfl⟩ := hv
  rfl

/-- A new block, behind a draw or more. -/
theorem Stp.drawNew {μ : Ren} {s : St} {w v : World} (h : Sim μ s w) {o : Obj} {b : Blk} (csz n : Nat) (hv : v = { w with heap := w.heap.push o, drawn := n })
    (hb : BlkR (μ.add s.nx ⟨w.heap.size, 0, csz⟩) ⟨w.heap.size, 0, csz⟩ (some o) b) : Stp μ s w (μ.add s.nx ⟨w.heap.size, 0, csz⟩) (newBlk s b) v := by
  subst hv; exact Stp.new h csz rfl rfl rfl rfl hb

theorem stringToBytes_sound {μ : Ren} {s : St} {w : World} (h : Sim μ s w) (e : TypeId) (b : ByteArray) :
    ∃ ν v' w', (Conv.stringToBytes e b).run P w = .ok v' w' ∧ Stp μ s w ν (newBlk s (.cells (byteCells b) e 0 true true)) w' ∧ VR ν (.slice (some ⟨s.nx, 0, none⟩) b.size (unk + 1)) v' := by
  let cap := (Question.appendCap b.size 0 e).cut (w.tape w.drawn (.appendCap b.size 0 e))
  have hcap : b.size ≤ cap := cap_ge _ _ _ _
  let c : Array Value := (b.data.map fun x => Value.int .u8 x.toNat) ++ Array.replicate (cap - b.size) (.int .u8 0)
  have hsz : c.size = cap := by
    have : b.data.size = b.size := rfl
    simp [c, this]; omega
  have hcells : ∀ i v, (byteCells b)[i]? = some v → c[0 + i]? = some v := fun i v hv => by
    have hlt : i < (byteCells b).length := by
      rcases Nat.lt_or_ge i (byteCells b).length with h | h
      · exact h
      · simp [List.getElem?_eq_none h] at hv
    rw [Nat.zero_add, Array.getElem?_append_left (by simpa [byteCells] using hlt)]
    simpa [byteCells] using hv
  have hb : BlkR (μ.add s.nx ⟨w.heap.size, 0, cap⟩) ⟨w.heap.size, 0, cap⟩ (some (.cells c e (cap, cap + 1))) (.cells (byteCells b) e 0 true true) :=
    ⟨c, cap, cap + 1, rfl, hsz, (fun h => by cases h), by
      have : (byteCells b).length = b.size := by simp only [byteCells, List.length_map, Array.length_toList]; rfl
      show 0 + _ ≤ cap
      omega, fun i v hv => ⟨v, hcells i v hv, .atom (List.all_eq_true.1 (byteCells_closed b) v (List.mem_of_getElem? hv))⟩, ⟨.inr (.inr ⟨rfl, Nat.le_refl _⟩), fun _ _ h => by cases h⟩⟩
  refine ⟨_, .slice (some ⟨w.heap.size, 0, none⟩) b.size cap, { w with heap := w.heap.push (.cells c e (cap, cap + 1)), drawn := w.drawn + 1 }, ?_, Stp.drawNew h cap (w.drawn + 1) rfl hb, ?_⟩
  · have hfr : ∀ (u : World), u.heap = w.heap.push (.cells c e) → (markStringish ⟨w.heap.size, 0, none⟩).run P u = .ok () { u with heap := w.heap.push (.cells c e (cap, cap + 1)) } := fun u hu => by
      have hsh : u.shape? w.heap.size = some (e, cap) := by
        rw [shape_of (c := c) (e := e) (f := (0, 0)) (by simp [hu])]; rw [hsz]
      simp only [markStringish, Sem.run_bind, run_shape, hsh, Result.andThen]
      simp only [freeze, Sem.run, World.freeze, Nat.one_ne_zero, if_false, hu]
      congr 2
      apply Array.ext_getElem?
      intro i
      simp only [Array.getElem?_modify, Array.getElem?_push]
      by_cases hi : i = w.heap.size
      · simp [hi]
      · simp [hi, Ne.symm hi]
    simp only [Conv.stringToBytes, Sem.run_bind, run_choose (q := .appendCap b.size 0 e) rfl, Result.andThen, newRow, run_newObj, pure, Sem.run]
    rw [hfr _ rfl]
  · exact VR.sliceU (es := 1) (o := 0) (Ren.add_self ..) hcap (fun _ => rfl) (by show 0 + 0 + cap * 1 ≤ cap; omega)
end Go.Ev

namespace Go.Ev
variable {P : Program}

/-- An operation that may turn memory: what it comes to. -/
def EffR (P : Program) (μ : Ren) (s : St) (w : World) (t : Sem Next) (v : Value) (s' : St) : Prop :=
  ∃ ν w' x, (t.run P w = .ok (.value x) w' ∨ (t.run P w = .ok .skip w' ∧ x = undef)) ∧ Stp μ s w ν s' w' ∧ VR ν v x
theorem EffR.val {μ ν : Ren} {s s' : St} {w w' : World} {t : Sem Value} {v x : Value} (h : t.run P w = .ok x w') (hs : Stp μ s w ν s' w') (hv : VR ν v x) : EffR P μ s w (do let y ← t; pure (.value y)) v s' :=
  ⟨ν, w', x, .inl (run_value _ h), hs, hv⟩
theorem EffR.unit {μ ν : Ren} {s s' : St} {w w' : World} {t : Sem Unit} (h : t.run P w = .ok () w') (hs : Stp μ s w ν s' w') : EffR P μ s w (do t; pure .skip) undef s' :=
  ⟨ν, w', undef, .inr ⟨by simp [Sem.run_bind, h, Result.andThen, Sem.run, pure], rfl⟩, hs, VR.undef ν⟩

theorem EntsR.filter {μ : Ren} (p : Nat → Bool) : ∀ {l l' : List MapEntry}, EntsR μ l l' → EntsR μ (l.filter fun e => p e.born) (l'.filter fun e => p e.born)
  | _, _, .nil => .nil
  | e :: _, e' :: _, .cons hk hv hb t => by
    simp only [List.filter_cons]
    rw [← hb]
    cases hp : p e.born
    · simpa using t.filter p
    · simpa using .cons hk hv hb (t.filter p)
theorem EntsR.all {μ : Ren} (p : Nat → Bool) : ∀ {l l' : List MapEntry}, EntsR μ l l' → (l'.all fun e => p e.born) = (l.all fun e => p e.born)
  | _, _, .nil => rfl
  | _, _, .cons _ _ hb t => by simp only [List.all_cons, t.all p, hb]

theorem range_sound {μ : Ren} {s : St} {w : World} (h : Sim μ s w) {t k e : TypeId} {m : Nat} {x' : Value} (hx : VR μ (.map (some m)) x') (hd : P.underlying t = some (.map k e)) {es : List MapEntry} {clk : Nat} (hb : s.hp.get m = some (.map es clk)) :
    ∃ ν w' v', (Instr.range t x').run P w = .ok v' w' ∧ Stp μ s w ν (newBlk s (.miter m clk [] clk)) w' ∧ VR ν (mkPtr s.nx) v' := by
  obtain ⟨l, hl, rfl⟩ := hx.map_inv
  obtain ⟨es', h3, h4, h5⟩ := map_blk (P := P) h hb hl
  have hle : μ.le (μ.add s.nx ⟨w.heap.size, 0, 0⟩) := Ren.le_add (h.nxt _ (Nat.le_refl _)) _
  refine ⟨_, { w with heap := w.heap.push (.mapIter (some l.blk) clk #[] clk) }, .pointer (some ⟨w.heap.size, 0, none⟩), ?_, Stp.drawNew h 0 w.drawn rfl ⟨l, hle _ _ hl, rfl, rfl⟩, VR.ptr (o := 0) (Ren.add_self ..)⟩
  simp [Instr.range, Sem.run_bind, run_und hd, Result.andThen, h5, run_newObj, pure, Sem.run]

theorem run_choose1 (w : World) : (choose (.mapNext 1)).run P w = .ok 0 w := by
  simp [choose, Sem.run, Question.forced]

theorem next_sound {μ : Ren} {s : St} {w : World} (h : Sim μ s w) {r m since last clk : Nat} {seen : List Nat} {x' : Value} (hx : VR μ (.pointer (some ⟨r, 0, none⟩)) x') (ty : TypeId)
    (hb : s.hp.get r = some (.miter m since seen last)) {es : List MapEntry} (hm : s.hp.get m = some (.map es clk))
    (hc : (!seen.isEmpty && !es.isEmpty && es.all (fun e => decide (e.born ≥ last))) = false) :
    ((es.filter fun e => !seen.contains e.born) = [] → ∃ v', (Instr.next x' false ty).run P w = .ok v' w ∧ VR μ (.tuple ⟨[.bool false]⟩) v') ∧
    (∀ e, (es.filter fun e => !seen.contains e.born) = [e] → e.born < since →
      ∃ w' v', (Instr.next x' false ty).run P w = .ok v' w' ∧ Stp μ s w μ ⟨s.hp.set r (.miter m since (seen ++ [e.born]) clk), s.nx⟩ w' ∧ VR μ (.tuple ⟨[.bool true, e.key, e.val]⟩) v') := by
  obtain ⟨l, hl, rfl⟩ := hx.pointer_inv
  obtain ⟨lm, hlm, hobj, hsh⟩ := h.blk hb hl
  obtain ⟨es', h3, h4, h5⟩ := map_blk (P := P) h hm hlm
  have hemp := ents_empty h4
  have hall : es'.all (fun e => decide (e.born ≥ last)) = es.all (fun e => decide (e.born ≥ last)) := by
    rw [← Array.all_toList]; exact h4.all (fun n => decide (n ≥ last))
  have hcon : (!(Array.mk seen).isEmpty && !es'.isEmpty && es'.all (fun e => decide (e.born ≥ last))) = false := by
    rw [hall, hemp]; simpa using hc
  have hcont : ∀ n, (Array.mk seen).contains n = seen.contains n := fun n => by simp
  have hfil := h4.filter (fun n => !seen.contains n)
  have hleft : (es'.filter fun e => !(Array.mk seen).contains e.born) = ⟨es'.toList.filter fun e => !seen.contains e.born⟩ := by
    apply Array.toList_inj.1
    rw [Array.toList_filter]
    simp only [hcont]
  have hrun : (Instr.next (.pointer (some ⟨l.blk, l.sh + 0, none⟩)) false ty).run P w = _ := rfl
  constructor
  · intro hnil
    rw [hnil] at hfil
    generalize hg : (es'.toList.filter fun e => !seen.contains e.born) = lf at hfil hleft
    cases hfil
    refine ⟨.tuple #[.bool false], ?_, .tuple (.cons (.atom rfl) .nil)⟩
    simp only [Instr.next, hsh, Nat.add_zero, Sem.run_bind, run_getObj hobj (by simp), Result.andThen, h5]
    rw [if_neg (by rw [hcon]; simp)]
    rw [hleft]
    simp [Sem.run_bind, run_choose1, Result.andThen, pure, Sem.run, Question.forced]
  · intro e he hlt
    rw [he] at hfil
    generalize hg : (es'.toList.filter fun e => !seen.contains e.born) = lf at hfil hleft
    cases hfil with
    | cons hk hv hbn ht =>
      rename_i e' _
      cases ht
      have hst := Stp.upd h hb hl (set_upd (p := .mapIter (some lm.blk) since ((Array.mk seen).push e.born) clk) hobj) (b' := .miter m since (seen ++ [e.born]) clk) ⟨lm, hlm, by simp, hsh⟩
      refine ⟨_, .tuple #[.bool true, e'.key, e'.val], ?_, hst, .tuple (.cons (.atom rfl) (.cons hk (.cons hv .nil)))⟩
      simp only [Instr.next, hsh, Nat.add_zero, Sem.run_bind, run_getObj hobj (by simp), Result.andThen, h5]
      rw [if_neg (by rw [hcon]; simp)]
      rw [hleft]
      have hlt' : e'.born < since := hbn ▸ hlt
      have h1 : ((⟨[e']⟩ : Array MapEntry).filter fun e => decide (e.born < since)) = #[e'] := by
        simp [hlt']
      have h2 : ((⟨[e']⟩ : Array MapEntry).filter fun e => decide (e.born ≥ since)) = #[] := by
        simp [hlt']
      simp only [h1, h2]
      simp [Sem.run_bind, run_choose1, Result.andThen, pure, Sem.run, run_setObj hobj, hbn, Question.forced]

/-! ### append -/
theorem holds_len {α : Type} {l : List α} {n : Nat} (h : l.length = n) : l.length = n := h

/-- The machine's view of a slice's cells that are read. -/
theorem slice_cells {μ : Ren} {s : St} {w : World} (h : Sim μ s w) {size n : Nat} {x x' : Value} {vs : List Value} (hx : VR μ x x') (hv : sliceCells s size n x = some vs) (hn : ∀ k, lenV x = some k → n ≤ k) :
    ∃ vs', (∀ u, u.heap = w.heap → (Builtin.firstCells size n x').run P u = .ok ⟨vs'⟩ u) ∧ VRs μ vs vs' := by
  unfold sliceCells at hv
  split at hv
  · rename_i b o len c
    obtain ⟨l, hl, hcase⟩ := hx.slice_inv
    obtain ⟨vs', hlen, hcell, hr⟩ := load_cells h hl hv
    change vs'.length = n * size at hlen
    refine ⟨vs', fun u hu => ?_, hr⟩
    have hcell' : ∀ j v, vs'[j]? = some v → u.cell? ⟨l.blk, l.sh + o + j, none⟩ = some v := fun j v hj => by
      have := hcell j v hj
      unfold World.cell? at this ⊢; rw [hu]; exact this
    rcases hcase with ⟨_, _, rfl⟩ | ⟨es, c', ad, _, h2, h3, _, rfl⟩
    · simp only [Builtin.firstCells]; rw [← hlen]; exact run_loadCells hcell'
    · simp only [Builtin.firstCells]
      by_cases hc : c' = 0
      · have : n = 0 := by have := hn _ rfl; omega
        subst this
        obtain rfl : vs' = [] := List.eq_nil_of_length_eq_zero (by omega)
        simp [loadCells, loadCellsFrom, pure, Sem.run]
      · rw [h3 hc, ← hlen]; exact run_loadCells hcell'
  · obtain rfl := hx.of_atom rfl
    simp at hv; subst hv
    exact ⟨[], fun u _ => by simp [Builtin.firstCells, pure, Sem.run], .nil⟩
  · obtain rfl := hx.of_atom rfl
    simp at hv; subst hv
    rename_i b
    refine ⟨(byteCells b).take n, fun u _ => ?_, VRs.atoms μ ?_⟩
    · simp only [Builtin.firstCells, pure, Sem.run]
      congr 1
      apply Array.toList_inj.1
      simp [byteCells, List.map_take]
    · refine List.all_eq_true.2 fun v hv => List.all_eq_true.1 (byteCells_closed b) v (List.mem_of_mem_take hv)
  · cases hv

end Go.Ev

namespace Go.Ev
variable {P : Program}

theorem growBy_le (n : Nat) : ∀ (r c : Nat), Builtin.growBy n r c + 768 ≤ (c + 768) * 2 ^ r
  | 0, c => by simp [Builtin.growBy]
  | r + 1, c => by
    have h := growBy_le n r (c + (c + 768) / 4)
    have h1 : (c + 768) ≤ (c + 768) * 2 ^ (r + 1) := Nat.le_mul_of_pos_right _ (Nat.pos_of_ne_zero (by simp))
    have h2 : (c + (c + 768) / 4 + 768) * 2 ^ r ≤ (c + 768) * 2 ^ (r + 1) := by
      rw [Nat.pow_succ, Nat.mul_comm (2 ^ r) 2, ← Nat.mul_assoc]
      exact Nat.mul_le_mul_right _ (by omega)
    simp only [Builtin.growBy]
    split <;> omega
theorem next_le {need cap : Nat} (h1 : need ≤ 65536) (h2 : cap < need) : Builtin.nextslicecap need cap ≤ 1060864 := by
  unfold Builtin.nextslicecap
  split
  · omega
  · split
    · omega
    · have := growBy_le need 4 cap
      omega

/-- What is appended: cells of a slice, a string's bytes, or zeros. -/
def appT (zb : Bool) (e size n : Nat) (x : Value) : Sem (Array Value) :=
  if (!zb) = true then Builtin.firstCells size n x
  else if n * size = 0 then pure #[]
  else do
    let z ← zeroValue e
    pure (Builtin.zeroCells z.cells n)

structure AppH (P : Program) (st xt e : TypeId) (i : TypeInfo) (z : Value) (zb : Bool) (n : Nat) (x : Value) : Prop where
  hst : P.underlying st = some (.slice e)
  hm : ∃ d, P.underlying xt = some d ∧ (zb = true ↔ ∃ k, d = .int k)
  hi : P.info? e = some i
  hz : zero P e = some z
  hx : if zb = true then x = .int .i64 n else Builtin.lenOf x = pure n
  hn : n ≤ 65536
  hb : i.bytes ≤ 65536

theorem AppH.run_m {st xt e : TypeId} {i : TypeInfo} {z : Value} {zb : Bool} {n : Nat} {x : Value} (h : AppH P st xt e i z zb n x) {β : Type} (g : TypeDesc → Bool) (hg : ∀ d, g d = true ↔ ∃ k, d = .int k) (f : Bool → Sem β) (w : World) :
    (underlying xt >>= fun d => ((pure (g d) : Sem Bool) >>= f)).run P w = (f zb).run P w := by
  obtain ⟨d, hd, hk⟩ := h.hm
  have : g d = zb := by rw [Bool.eq_iff_iff, hg, hk]
  simp only [Sem.run_bind, run_und hd, Result.andThen, pure, Sem.run, this]
theorem int_iff (d : TypeDesc) : (match d with | .int _ => true | _ => false) = true ↔ ∃ k, d = .int k := by cases d <;> simp

theorem append_fit {st xt e : TypeId} {i : TypeInfo} {z : Value} {zb : Bool} {n : Nat} {x : Value} (h : AppH P st xt e i z zb n x) {base : Option Addr} {len cap : Nat} {new : List Value} (ty : TypeId) {w w' : World}
    (hT : (appT zb e i.size n x).run P w = .ok ⟨new⟩ w) (hc : len + n ≤ cap)
    (hs : match base with | some a => (Go.storeCells (a.add (len * i.size)) new).run P w = .ok () w' | none => w' = w) :
    (Builtin.append_ #[st, xt] ty #[.slice base len cap, x]).run P w = .ok (.slice base (len + n) cap) w' := by
  have hsz : szOf P e = some i.size := by simp [szOf, h.hi]
  unfold Builtin.append_
  simp only [List.getElem?_toArray, List.getElem?_cons_zero, List.getElem?_cons_succ]
  rw [Sem.run_bind, run_und h.hst]
  simp only [Result.andThen]
  rw [Sem.run_bind, run_size hsz]
  simp only [Result.andThen]
  rw [h.run_m _ (fun d => by cases d <;> simp)]
  have hx := h.hx
  have hn := h.hn
  have hb := h.hb
  cases zb with
  | false =>
    simp only [Bool.false_eq_true, if_false] at hx ⊢
    rw [hx]
    simp only [Sem.run_bind, pure, Sem.run, Result.andThen, hc, if_true, Bool.not_false]
    have hT' : (Builtin.firstCells i.size n x).run P w = .ok ⟨new⟩ w := hT
    rw [hT']
    cases base with
    | none => simp only at hs; subst hs; rfl
    | some a => simp only at hs; simp only [Sem.run_bind, hs, Result.andThen, Sem.run]
  | true =>
    simp only [if_true] at hx
    subst hx
    have w1 : IntKind.i64.wrap (n : Int) = n := IntWalk.i64_in _ (by omega)
    have hb' : ¬ ((n : Int) * (i.bytes : Int) > 2 ^ 48) := by
      have h5 : n * i.bytes ≤ 4294967296 := Nat.le_trans (Nat.mul_le_mul hn hb) (by decide)
      have h6 : (n : Int) * (i.bytes : Int) = ((n * i.bytes : Nat) : Int) := (Int.natCast_mul ..).symm
      rw [h6]; omega
    simp only [if_true, Sem.run_bind, asInt, asIntOf, pure, Sem.run, Result.andThen, w1]
    rw [if_neg (by omega)]
    simp only [Sem.run_bind, run_info h.hi, Result.andThen]
    rw [if_neg hb']
    simp only [Sem.run_bind, Sem.run, Result.andThen, Int.toNat_natCast, hc, if_true, Bool.not_true, Bool.false_eq_true, if_false]
    have hT' : (if n * i.size = 0 then Sem.pure #[] else do let z ← zeroValue e; Sem.pure (Builtin.zeroCells z.cells n) : Sem (Array Value)).run P w = .ok ⟨new⟩ w := hT
    rw [hT']
    cases base with
    | none => simp only at hs; subst hs; rfl
    | some a => simp only at hs; simp only [Sem.run_bind, hs, Result.andThen, Sem.run]

theorem append_grow {st xt e : TypeId} {i : TypeInfo} {z : Value} {zb : Bool} {n : Nat} {x : Value} (h : AppH P st xt e i z zb n x) {base : Option Addr} {len cap : Nat} {old new : List Value} (ty : TypeId) {w : World}
    (hT : ∀ u, u.heap = w.heap → (appT zb e i.size n x).run P u = .ok ⟨new⟩ u) (hO : ∀ u, u.heap = w.heap → (Builtin.firstCells i.size len (.slice base len cap)).run P u = .ok ⟨old⟩ u) (hc : cap < len + n) (hl : len + n ≤ 65536) :
    ∃ c', len + n ≤ c' ∧ (Builtin.append_ #[st, xt] ty #[.slice base len cap, x]).run P w =
      .ok (.slice (some ⟨w.heap.size, 0, none⟩) (len + n) c') { w with heap := w.heap.push (.cells (⟨old⟩ ++ ⟨new⟩ ++ Builtin.zeroCells z.cells (c' - (len + n))) e), drawn := w.drawn + 1 } := by
  have hsz : szOf P e = some i.size := by simp [szOf, h.hi]
  refine ⟨(Question.appendCap (len + n) cap e).cut (w.tape w.drawn (.appendCap (len + n) cap e)), cap_ge _ _ _ _, ?_⟩
  unfold Builtin.append_
  simp only [List.getElem?_toArray, List.getElem?_cons_zero, List.getElem?_cons_succ]
  rw [Sem.run_bind, run_und h.hst]
  simp only [Result.andThen]
  rw [Sem.run_bind, run_size hsz]
  simp only [Result.andThen]
  rw [h.run_m _ (fun d => by cases d <;> simp)]
  have hx := h.hx
  have hn := h.hn
  have hb := h.hb
  have hnext : ¬ (Builtin.nextslicecap (len + n) cap * i.bytes > 2 ^ 48) := by
    have h5 : Builtin.nextslicecap (len + n) cap * i.bytes ≤ 1060864 * 65536 := Nat.mul_le_mul (next_le hl hc) hb
    omega
  have hmax : ¬ (((len + n : Nat) : Int) > IntKind.i64.max) := by
    have : IntKind.i64.max = 9223372036854775807 := rfl
    rw [this]; omega
  cases zb with
  | false =>
    simp only [Bool.false_eq_true, if_false] at hx ⊢
    rw [hx]
    simp only [Sem.run_bind, pure, Sem.run, Result.andThen]
    rw [if_neg (by omega)]
    simp only [Sem.run_bind, run_info h.hi, Result.andThen]
    rw [if_neg (fun hh => hmax hh.1)]
    simp only [Sem.run_bind, run_info h.hi, Result.andThen]
    rw [if_neg hnext]
    have hT' : ∀ u, u.heap = w.heap → (Builtin.firstCells i.size n x).run P u = .ok ⟨new⟩ u := hT
    simp only [Sem.run_bind, run_choose (q := .appendCap (len + n) cap e) rfl, Result.andThen, run_info h.hi, run_askRoom]
    rw [hO { w with drawn := w.drawn + 1 } rfl]
    simp only [Bool.not_false, if_true]
    rw [hT' { w with drawn := w.drawn + 1 } rfl]
    simp only [run_zero h.hz, newRow, Sem.run_bind, run_newObj, Result.andThen, pure, Sem.run]
  | true =>
    simp only [if_true] at hx
    subst hx
    have w1 : IntKind.i64.wrap (n : Int) = n := IntWalk.i64_in _ (by omega)
    have hb' : ¬ ((n : Int) * (i.bytes : Int) > 2 ^ 48) := by
      have h5 : n * i.bytes ≤ 4294967296 := Nat.le_trans (Nat.mul_le_mul hn hb) (by decide)
      have h6 : (n : Int) * (i.bytes : Int) = ((n * i.bytes : Nat) : Int) := (Int.natCast_mul ..).symm
      rw [h6]; omega
    simp only [if_true, Sem.run_bind, asInt, asIntOf, pure, Sem.run, Result.andThen, w1]
    rw [if_neg (by omega)]
    simp only [Sem.run_bind, run_info h.hi, Result.andThen]
    rw [if_neg hb']
    simp only [Sem.run_bind, Sem.run, Result.andThen, Int.toNat_natCast]
    rw [if_neg (by omega)]
    simp only [Sem.run_bind, run_info h.hi, Result.andThen]
    rw [if_neg (fun hh => hmax hh.1)]
    simp only [Sem.run_bind, run_info h.hi, Result.andThen]
    rw [if_neg hnext]
    have hT' : ∀ u, u.heap = w.heap → (if n * i.size = 0 then Sem.pure #[] else do let z ← zeroValue e; Sem.pure (Builtin.zeroCells z.cells n) : Sem (Array Value)).run P u = .ok ⟨new⟩ u := hT
    simp only [Sem.run_bind, run_choose (q := .appendCap (len + n) cap e) rfl, Result.andThen, run_info h.hi, run_askRoom]
    rw [hO { w with drawn := w.drawn + 1 } rfl]
    simp only [Bool.not_true, Bool.false_eq_true, if_false]
    rw [hT' { w with drawn := w.drawn + 1 } rfl]
    simp only [run_zero h.hz, newRow, Sem.run_bind, run_newObj, Result.andThen, pure, Sem.run]
end Go.Ev

namespace Go.Ev
variable {P : Program}

theorem run_storeNil (a : Addr) (w : World) : (Go.storeCells a []).run P w = .ok () w := rfl

theorem firstCells_slice {μ : Ren} {s : St} {w : World} (h : Sim μ s w) {size len cap b o : Nat} {sl' : Value} {old : List Value} (hx : VR μ (.slice (some ⟨b, o, none⟩) len cap) sl') {vs : List Value} {e : TypeId} {fz : Nat} {gr mk : Bool}
    (hb : s.hp.get b = some (.cells vs e fz gr mk)) (ht : takeAt o (Nat.mul len size) vs = some old) :
    ∃ old', (∀ u, u.heap = w.heap → (Builtin.firstCells size len sl').run P u = .ok ⟨old'⟩ u) ∧ VRs μ old old' :=
  slice_cells h (x := .slice (some ⟨b, o, none⟩) len cap) hx (by simp only [sliceCells, loadN, cellsOf, hb]; exact ht) (fun k hk => by simp [lenV] at hk; omega)

/-- A row that may be longer than what is known of it. -/
theorem cells_grown {μ : Ren} {n : Nat} {vs vs' more : List Value} {t : TypeId} (h : VRs μ vs vs') {csz fz : Nat} {mk : Bool} (hc : csz = vs'.length + more.length) :
    BlkR μ ⟨n, 0, csz⟩ (some (.cells ⟨vs' ++ more⟩ t)) (.cells vs t fz true mk) := by
  have hl := h.length
  refine ⟨_, 0, 0, rfl, by simp [hc], (fun h => by cases h), by simp; omega, fun i v hv => ?_, ⟨.inl rfl, fun _ _ _ => ⟨rfl, rfl⟩⟩⟩
  obtain ⟨v', h1, h2⟩ := h.get i v hv
  refine ⟨v', ?_, h2⟩
  have hlt : i < vs'.length := by
    rcases Nat.lt_or_ge i vs'.length with h | h
    · exact h
    · simp [List.getElem?_eq_none h] at h1
  simp only [Nat.zero_add, List.getElem?_toArray]
  rw [List.getElem?_append_left hlt]; exact h1

theorem appendCells_sound {μ : Ren} {s s' : St} {w : World} (h : Sim μ s w) {st xt e : TypeId} {i : TypeInfo} {z : Value} {zb : Bool} {n : Nat} {x' : Value} (ha : AppH P st xt e i z zb n x') {base : Option Addr} {len cap : Nat} {sl' v : Value} {new new' : List Value} (ty : TypeId)
    (hzs : z.cells.size = i.size) (hsl : VR μ (.slice base len cap) sl') (hnew : VRs μ new new') (hnl : new.length = n * i.size)
    (hT : ∀ u, u.heap = w.heap → (appT zb e i.size n x').run P u = .ok ⟨new'⟩ u) (hv : appendCells s e i.size base len cap n new = some (v, s')) :
    ∃ ν w' r, (Builtin.append_ #[st, xt] ty #[sl', x']).run P w = .ok r w' ∧ Stp μ s w ν s' w' ∧ VR ν v r := by
  have hnl' := hnew.length
  have hz0 : ∀ k, Builtin.zeroCells z.cells k = ⟨zeros z.cells.toList k⟩ := fun k => zeros_arr z.cells k
  have hzl : ∀ k, (zeros z.cells.toList k).length = k * i.size := fun k => by rw [zeros_len]; simp [hzs]
  unfold appendCells at hv
  cases hc0 : (Nat.beq i.size 0 || Nat.blt 65536 (Nat.add len n)) <;> simp only [hc0, cond_true, cond_false] at hv
  rotate_left
  · cases hv
  simp only [Bool.or_eq_false_iff, beq_dec, blt_dec, decide_eq_false_iff_not] at hc0
  obtain ⟨hs0, hlen⟩ := hc0
  change ¬ 65536 < len + n at hlen
  split at hv
  · -- nil
    obtain rfl := hsl.of_atom rfl
    cases hc1 : (Nat.beq len 0 && Nat.beq cap 0) <;> simp only [hc1, cond_true, cond_false] at hv
    · cases hv
    simp only [Bool.and_eq_true, beq_dec, decide_eq_true_eq] at hc1
    obtain ⟨rfl, rfl⟩ := hc1
    cases hc2 : Nat.beq n 0 <;> simp only [hc2, cond_true, cond_false] at hv
    · simp only [beq_dec, decide_eq_false_iff_not] at hc2
      simp only [Option.some.injEq, Prod.mk.injEq] at hv
      obtain ⟨rfl, rfl⟩ := hv
      obtain ⟨c', h1, h2⟩ := append_grow ha (base := none) (len := 0) (cap := 0) (old := []) ty hT (fun u _ => by simp [Builtin.firstCells, pure, Sem.run]) (by omega) (by omega)
      rw [hz0] at h2
      have hle := Ren.le_add (h.nxt _ (Nat.le_refl s.nx)) (⟨w.heap.size, 0, new'.length + (zeros z.cells.toList (c' - (0 + n))).length⟩ : Loc)
      refine ⟨_, _, _, h2, Stp.drawNew h (new'.length + (zeros z.cells.toList (c' - (0 + n))).length) (w.drawn + 1) rfl ?_, ?_⟩
      · have := cells_grown (n := w.heap.size) (t := e) (fz := 0) (mk := false) (more := zeros z.cells.toList (c' - (0 + n))) (hnew.mono hle) rfl
        simpa using this
      · rw [Nat.zero_add]
        refine VR.sliceU (o := 0) (Ren.add_self ..) (by omega) (fun _ => rfl) ?_
        show 0 + 0 + c' * i.size ≤ new'.length + (zeros z.cells.toList (c' - n)).length
        rw [hzl, hnl', hnl, ← Nat.add_mul]
        rw [show n + (c' - n) = c' by omega]; omega
    · simp only [beq_dec, decide_eq_true_eq] at hc2
      subst hc2
      simp only [Option.some.injEq, Prod.mk.injEq] at hv
      obtain ⟨rfl, rfl⟩ := hv
      exact ⟨μ, w, .slice none 0 0, append_fit ha (new := new') ty (hT w rfl) (Nat.le_refl _) rfl, .refl h, .atom rfl⟩
  · rename_i b o
    split at hv
    · rename_i vs e' fz gr mk hb
      obtain ⟨l, hl, hcase⟩ := hsl.slice_inv
      cases hc2 : Nat.beq n 0 <;> simp only [hc2, cond_true, cond_false] at hv
      · simp only [beq_dec, decide_eq_false_iff_not] at hc2
        simp only [Option.bind_eq_some_iff] at hv
        obtain ⟨old, hold, hv⟩ := hv
        obtain ⟨old', hO, hor⟩ := firstCells_slice (P := P) h hsl hb hold
        have hol := takeAt_len hold
        change old.length = len * i.size ∧ _ at hol
        have hol' := hor.length
        cases hu : Nat.blt cap unk <;> simp only [hu, cond_true, cond_false] at hv
        · simp only [blt_dec, decide_eq_false_iff_not] at hu
          cases hc3 : (Nat.beq cap (Nat.add unk i.size) && Nat.beq e e' && Nat.ble fz (Nat.add o (Nat.mul len i.size)) && new.all scalar) <;> simp only [hc3, cond_true, cond_false] at hv
          · cases hv
          simp only [Bool.and_eq_true, beq_dec, ble_dec, decide_eq_true_eq] at hc3
          obtain ⟨⟨⟨hcap, rfl⟩, hfz⟩, hsc⟩ := hc3
          change cap = unk + i.size at hcap
          change fz ≤ o + len * i.size at hfz
          subst hcap
          simp only [Option.some.injEq, Prod.mk.injEq] at hv
          obtain ⟨rfl, rfl⟩ := hv
          rcases hcase with ⟨_, h1, _⟩ | ⟨es, c', a, hes, hn, hadr, hbd, rfl⟩
          · omega
          obtain rfl : i.size = es := by omega
          by_cases hfit : len + n ≤ c'
          · -- in place
            obtain rfl := hadr (by omega)
            obtain ⟨c, lo, hi, hobj, h2, h3, h4, h5, h6⟩ := h.blk hb hl
            have hmul : (len + n) * i.size ≤ c' * i.size := Nat.mul_le_mul_right _ hfit
            rw [Nat.add_mul] at hmul
            obtain ⟨w', hw, hup⟩ := run_storeCells (P := P) e lo hi l.blk new' 0 (l.sh + o + len * i.size) c w hobj (by rw [hnew.scalars]; exact hsc) (by omega) (fun j hj1 hj2 => by
              rcases h6 with h6 | h6 | ⟨_, h6⟩ <;> omega)
            have hle := Ren.le_add (h.nxt _ (Nat.le_refl s.nx)) (⟨l.blk, l.sh + o, l.csz⟩ : Loc)
            refine ⟨_, w', _, append_fit ha (base := some ⟨l.blk, l.sh + o, none⟩) ty (hT w rfl) hfit (by simp only [add_none]; exact hw), Stp.take h hb hl (l' := ⟨l.blk, l.sh + o, l.csz⟩) rfl hup ?_, ?_⟩
            · refine ⟨_, lo, hi, rfl, by rw [overC_size]; exact h2, (fun h => by cases h), ?_, fun k u hk => ?_, ?_⟩
              · show l.sh + o + (old ++ new).length ≤ l.csz
                simp only [List.length_append]; omega
              · show ∃ v', (overC c (l.sh + o + len * i.size + 0) new')[l.sh + o + k]? = some v' ∧ VR _ u v'
                rw [overC_get _ _ _ _ (by omega)]
                by_cases hk2 : k < old.length
                · rw [List.getElem?_append_left hk2] at hk
                  obtain ⟨hoe, _, _⟩ := takeAt_eq _ _ _ _ hold
                  rw [hoe, List.getElem?_take] at hk
                  split at hk
                  · rw [List.getElem?_drop] at hk
                    obtain ⟨u', h7, h8⟩ := h5 _ _ hk
                    refine ⟨u', ?_, h8.mono hle⟩
                    rw [if_neg (by omega), Nat.add_assoc]; exact h7
                  · cases hk
                · rw [List.getElem?_append_right (by omega)] at hk
                  obtain ⟨u', h7, h8⟩ := hnew.get _ _ hk
                  have : k - old.length < new'.length := by
                    rcases Nat.lt_or_ge (k - old.length) new'.length with h | h
                    · exact h
                    · simp [List.getElem?_eq_none h] at h7
                  refine ⟨u', ?_, h8.mono hle⟩
                  rw [if_pos (by omega), show l.sh + o + k - (l.sh + o + len * i.size + 0) = k - old.length by omega]; exact h7
              · refine ⟨?_, fun (h9 : l.sh + o = 0) (h10 : fz - o = 0) hmk => h6.2 (by omega) (by omega) hmk⟩
                show lo = hi ∨ hi ≤ l.sh + o + (fz - o) ∨ (mk = true ∧ l.csz ≤ lo)
                rcases h6.1 with h6 | h6 | h6
                · exact .inl h6
                · exact .inr (.inl (by omega))
                · exact .inr (.inr h6)
            · exact VR.sliceU (o := 0) (l := ⟨l.blk, l.sh + o, l.csz⟩) (Ren.add_self ..) hfit (fun _ => rfl) (by show l.sh + o + 0 + c' * i.size ≤ l.csz; omega)
          · -- a new row
            obtain ⟨c2, h1, h2⟩ := append_grow ha (base := some a) (len := len) (cap := c') ty hT hO (by omega) (by omega)
            rw [hz0] at h2
            have hdel := Stp.del h b
            have hle := Ren.le_add (hdel.sim.nxt _ (Nat.le_refl s.nx)) (⟨w.heap.size, 0, (old' ++ new').length + (zeros z.cells.toList (c2 - (len + n))).length⟩ : Loc)
            refine ⟨_, _, _, h2, hdel.trans (Stp.drawNew hdel.sim ((old' ++ new').length + (zeros z.cells.toList (c2 - (len + n))).length) (w.drawn + 1) rfl ?_), ?_⟩
            · have := cells_grown (n := w.heap.size) (t := e) (fz := fz - o) (mk := mk) (more := zeros z.cells.toList (c2 - (len + n))) ((hor.append hnew).mono hle) rfl
              simpa using this
            · refine VR.sliceU (o := 0) (Ren.add_self ..) h1 (fun _ => rfl) ?_
              show 0 + 0 + c2 * i.size ≤ (old' ++ new').length + (zeros z.cells.toList (c2 - (len + n))).length
              rw [hzl, List.length_append, hnl', hnl, hol', hol.1, ← Nat.add_mul, ← Nat.add_mul]
              rw [show len + n + (c2 - (len + n)) = c2 by omega]; omega
        · simp only [blt_dec, decide_eq_true_eq] at hu
          cases hc3 : Nat.blt cap (Nat.add len n) <;> simp only [hc3, cond_true, cond_false] at hv
          · cases hv
          simp only [blt_dec, decide_eq_true_eq] at hc3
          change cap < len + n at hc3
          simp only [Option.some.injEq, Prod.mk.injEq] at hv
          obtain ⟨rfl, rfl⟩ := hv
          rcases hcase with ⟨_, _, rfl⟩ | ⟨es, c', a, hes, _⟩
          rotate_left
          · omega
          obtain ⟨c2, h1, h2⟩ := append_grow ha (base := some ⟨l.blk, l.sh + o, none⟩) (len := len) (cap := cap) ty hT hO hc3 (by omega)
          rw [hz0] at h2
          have hle := Ren.le_add (h.nxt _ (Nat.le_refl s.nx)) (⟨w.heap.size, 0, (old' ++ new').length + (zeros z.cells.toList (c2 - (len + n))).length⟩ : Loc)
          refine ⟨_, _, _, h2, Stp.drawNew h ((old' ++ new').length + (zeros z.cells.toList (c2 - (len + n))).length) (w.drawn + 1) rfl ?_, ?_⟩
          · have := cells_grown (n := w.heap.size) (t := e) (fz := 0) (mk := false) (more := zeros z.cells.toList (c2 - (len + n))) ((hor.append hnew).mono hle) rfl
            simpa using this
          · refine VR.sliceU (o := 0) (Ren.add_self ..) h1 (fun _ => rfl) ?_
            show 0 + 0 + c2 * i.size ≤ (old' ++ new').length + (zeros z.cells.toList (c2 - (len + n))).length
            rw [hzl, List.length_append, hnl', hnl, hol', hol.1, ← Nat.add_mul, ← Nat.add_mul]
            rw [show len + n + (c2 - (len + n)) = c2 by omega]; omega
      · simp only [beq_dec, decide_eq_true_eq] at hc2
        subst hc2
        simp only [Option.some.injEq, Prod.mk.injEq] at hv
        obtain ⟨rfl, rfl⟩ := hv
        have hn0 : new' = [] := List.eq_nil_of_length_eq_zero (by rw [hnl', hnl]; omega)
        subst hn0
        have hx : ∃ a' c', sl' = .slice (some a') len c' ∧ len ≤ c' := by
          rcases hcase with ⟨h1, _, rfl⟩ | ⟨es, c', a, _, h2, _, _, rfl⟩
          · exact ⟨_, _, rfl, h1⟩
          · exact ⟨_, _, rfl, h2⟩
        obtain ⟨a', c', rfl, h1⟩ := hx
        exact ⟨μ, w, .slice (some a') (len + 0) c', append_fit ha (base := some a') (new := []) ty (hT w rfl) h1 rfl, .refl h, hsl⟩
    · cases hv
  · cases hv
end Go.Ev

namespace Go.Ev
variable {P : Program}

theorem VRs.two {μ : Ren} {a b : Value} {l : List Value} (h : VRs μ [a, b] l) : ∃ a' b', l = [a', b'] ∧ VR μ a a' ∧ VR μ b b' := by
  cases h with
  | cons h1 t => cases t with
    | cons h2 t => cases t; exact ⟨_, _, rfl, h1, h2⟩
theorem VRs.one {μ : Ren} {a : Value} {l : List Value} (h : VRs μ [a] l) : ∃ a', l = [a'] ∧ VR μ a a' := by
  cases h with
  | cons h1 t => cases t; exact ⟨_, rfl, h1⟩

theorem lenV_run {μ : Ren} {x x' : Value} {n : Nat} (hx : VR μ x x') (hl : lenV x = some n) : Builtin.lenOf x' = pure n := by
  unfold lenV at hl
  split at hl
  · rename_i p m c
    simp only [Option.some.injEq] at hl; subst hl
    generalize hs : Value.slice p m c = sv at hx
    cases hx with
    | atom h => subst hs; rfl
    | slice _ _ _ => injection hs with h1 h2 h3; subst h2; rfl
    | sliceU _ _ _ _ => injection hs with h1 h2 h3; subst h2; rfl
    | _ => cases hs
  · simp only [Option.some.injEq] at hl; subst hl
    obtain rfl := hx.of_atom rfl
    rfl
  · cases hl

theorem appendV_sound {μ : Ren} {s s' : St} {w : World} (h : Sim μ s w) {tys : List TypeId} {args args' : List Value} {v : Value} (ty : TypeId) (ha : VRs μ args args') (hv : appendV P s tys args = some (v, s')) :
    ∃ ν w' r, (Builtin.append_ ⟨tys⟩ ty ⟨args'⟩).run P w = .ok r w' ∧ Stp μ s w ν s' w' ∧ VR ν v r := by
  unfold appendV at hv
  split at hv
  · rename_i st xt base len cap x
    obtain ⟨sl', x', rfl, hsl, hx⟩ := ha.two
    have hdummy : True := trivial
    cases hdummy with
    | intro =>
      cases (trivial : True) with
      | intro =>
        split at hv
        · rename_i e hst
          simp only [Option.bind_eq_some_iff] at hv
          obtain ⟨i, hi, z, hz, hv⟩ := hv
          obtain ⟨hz, hcl⟩ := zeroC_eq hz
          cases hc : (Nat.ble i.bytes 65536 && Nat.beq z.cells.toList.length i.size) <;> simp only [hc, cond_true, cond_false] at hv
          · cases hv
          simp only [Bool.and_eq_true, ble_dec, beq_dec, decide_eq_true_eq] at hc
          obtain ⟨hb, hzl⟩ := hc
          have hzs : z.cells.size = i.size := by simpa using hzl
          split at hv
          · rename_i kk n hxt
            cases hn : Nat.ble n 65536 <;> simp only [hn, cond_true, cond_false] at hv
            · cases hv
            simp only [ble_dec, decide_eq_true_eq] at hn
            obtain rfl := hx.of_atom rfl
            have hA : AppH P st xt e i z true n (.int .i64 (Int.ofNat n)) := ⟨hst, ⟨_, hxt, by simp⟩, hi, hz, by simp, hn, hb⟩
            refine appendCells_sound h hA ty hzs hsl (zeros_rel (closed_cells hcl μ) n) (by rw [zeros_len, hzl]) (fun u _ => ?_) hv
            simp only [appT, Bool.not_true, Bool.false_eq_true, if_false]
            by_cases h0 : n * i.size = 0
            · rw [if_pos h0]
              have : zeros z.cells.toList n = [] := List.eq_nil_of_length_eq_zero (by rw [zeros_len, hzl]; exact h0)
              rw [this]; rfl
            · rw [if_neg h0]
              simp only [Sem.run_bind, run_zero hz, Result.andThen, pure, Sem.run]
              congr 1
              exact zeros_arr z.cells n
          · cases hv
          · rename_i _ d hne hxt _
            simp only [Option.bind_eq_some_iff] at hv
            obtain ⟨n, hlen, new, hnew, hv⟩ := hv
            cases hnl : Nat.beq new.length (Nat.mul n i.size) <;> simp only [hnl, cond_true, cond_false] at hv
            · cases hv
            simp only [beq_dec, decide_eq_true_eq] at hnl
            change new.length = n * i.size at hnl
            obtain ⟨new', hT, hr⟩ := slice_cells (P := P) h hx hnew (fun k hk => by rw [hlen] at hk; simp at hk; omega)
            have hl' : Builtin.lenOf x' = pure n := lenV_run hx hlen
            have hn : n ≤ 65536 := by
              unfold appendCells at hv
              cases hc0 : (Nat.beq i.size 0 || Nat.blt 65536 (Nat.add len n)) <;> simp only [hc0, cond_true, cond_false] at hv
              · simp only [Bool.or_eq_false_iff, blt_dec, decide_eq_false_iff_not] at hc0
                have : ¬ 65536 < len + n := hc0.2
                omega
              · cases hv
            have hA : AppH P st xt e i z false n x' := ⟨hst, ⟨d, hxt, by simp; intro k hk; exact hne k hk⟩, hi, hz, by simpa using hl', hn, hb⟩
            exact appendCells_sound h hA ty hzs hsl hr hnl hT hv
          · cases hv
        · cases hv
  · cases hv

theorem copyV_sound {μ : Ren} {s s' : St} {w : World} (h : Sim μ s w) {tys : List TypeId} {args args' : List Value} {v : Value} (ty : TypeId) (ha : VRs μ args args') (hv : copyV P s tys args = some (v, s')) :
    ∃ ν w' r, (Builtin.copy_ ⟨tys⟩ ty ⟨args'⟩).run P w = .ok r w' ∧ Stp μ s w ν s' w' ∧ VR ν v r := by
  unfold copyV at hv
  split at hv
  · rename_i dt tl base dl c src
    obtain ⟨sl', x', rfl, hsl, hx⟩ := ha.two
    have hdummy : True := trivial
    cases hdummy with
    | intro =>
      cases (trivial : True) with
      | intro =>
        split at hv
        · rename_i e hd
          simp only [Option.bind_eq_some_iff] at hv
          obtain ⟨size, hsz, sl, hlen, l, hl, hv⟩ := hv
          obtain ⟨l', hT, hr⟩ := slice_cells (P := P) h hx hl (fun k hk => by rw [hlen] at hk; simp at hk; subst hk; exact Nat.min_le_left _ _)
          have hl' : Builtin.lenOf x' = pure sl := lenV_run hx hlen
          split at hv
          · obtain rfl := hsl.of_atom rfl
            simp only [Option.some.injEq, Prod.mk.injEq] at hv
            obtain ⟨rfl, rfl⟩ := hv
            refine ⟨μ, w, .int .i64 (Nat.min sl dl), ?_, .refl h, .atom rfl⟩
            simp [Builtin.copy_, Sem.run_bind, run_und hd, run_size hsz, Result.andThen, hl', hT w rfl, pure, Sem.run, goInt]
          · rename_i b o
            obtain ⟨lo, hlo, hcase⟩ := hsl.slice_inv
            cases hz : Nat.beq l.length 0 <;> simp only [hz, cond_true, cond_false] at hv
            · simp only [beq_dec, decide_eq_false_iff_not] at hz
              simp only [Option.bind_eq_some_iff, Option.some.injEq, Prod.mk.injEq] at hv
              obtain ⟨s1, hs, rfl, rfl⟩ := hv
              obtain ⟨w', h1, h2⟩ := store_cells (P := P) h hlo hs hr
              have hx' : ∃ c', sl' = .slice (some ⟨lo.blk, lo.sh + o, none⟩) dl c' := by
                rcases hcase with ⟨_, _, rfl⟩ | ⟨es, c', ad, _, h3, h4, _, rfl⟩
                · exact ⟨_, rfl⟩
                · have h0' : c' ≠ 0 := by
                    intro h0
                    have h6 : dl = 0 := by omega
                    subst h6
                    -- nothing can be copied into an empty slice
                    have hmin : Nat.min sl 0 = 0 := Nat.min_zero sl
                    rw [hmin] at hl
                    unfold sliceCells at hl
                    split at hl
                    · simp only [loadN, Option.bind_eq_some_iff] at hl
                      obtain ⟨cs, _, hl⟩ := hl
                      have := (takeAt_len hl).1
                      simp at this; exact hz (by simp [this])
                    · simp at hl; subst hl; exact hz rfl
                    · simp at hl; exact hz (by simp [hl])
                    · cases hl
                  exact ⟨c', by rw [h4 h0']⟩
              obtain ⟨c', rfl⟩ := hx'
              refine ⟨μ, w', .int .i64 (Nat.min sl dl), ?_, h2, .atom rfl⟩
              simp [Builtin.copy_, Sem.run_bind, run_und hd, run_size hsz, Result.andThen, hl', hT w rfl, h1, pure, Sem.run, goInt]
            · simp only [beq_dec, decide_eq_true_eq] at hz
              simp only [Option.some.injEq, Prod.mk.injEq] at hv
              obtain ⟨rfl, rfl⟩ := hv
              have hl0 : l' = [] := List.eq_nil_of_length_eq_zero (by rw [hr.length]; exact hz)
              subst hl0
              have hx' : ∃ a' c', sl' = .slice (some a') dl c' := by
                rcases hcase with ⟨_, _, rfl⟩ | ⟨es, c', ad, _, h3, h4, _, rfl⟩
                · exact ⟨_, _, rfl⟩
                · exact ⟨_, _, rfl⟩
              obtain ⟨a', c', rfl⟩ := hx'
              refine ⟨μ, w, .int .i64 (Nat.min sl dl), ?_, .refl h, .atom rfl⟩
              simp [Builtin.copy_, Sem.run_bind, run_und hd, run_size hsz, Result.andThen, hl', hT w rfl, Go.storeCells, pure, Sem.run, goInt]
          · cases hv
        · cases hv
  · cases hv

theorem loadBytes_run {w : World} {b : Nat} : ∀ {l : List Value} {bs : List UInt8} (o : Nat) (acc : ByteArray), bytesOfCells l = some bs → (∀ j v, l[j]? = some v → w.cell? ⟨b, o + j, none⟩ = some v) →
    (loadBytes ⟨b, o, none⟩ acc l.length).run P w = .ok ⟨acc.data ++ bs.toArray⟩ w
  | [], bs, o, acc, h, _ => by simp [bytesOfCells] at h; subst h; simp [loadBytes, pure, Sem.run]
  | v :: l, bs, o, acc, h, hc => by
    cases v with
    | int k n =>
      cases k with
      | u8 =>
        simp only [bytesOfCells, Option.bind_eq_some_iff, Option.some.injEq] at h
        obtain ⟨bs', h1, rfl⟩ := h
        have h0 : w.cell? ⟨b, o, none⟩ = some (.int .u8 n) := by simpa using hc 0 _ rfl
        simp only [List.length_cons, loadBytes, Sem.run_bind, run_load h0, Result.andThen]
        have := loadBytes_run (w := w) (b := b) (o + 1) (acc.push (UInt8.ofNat n.toNat)) h1 (fun j u hj => by
          have := hc (j + 1) u (by simpa using hj)
          rw [show o + 1 + j = o + (j + 1) by omega]; exact this)
        rw [add_none]
        show Sem.run P (loadBytes ⟨b, o + 1, none⟩ (acc.push (n.toNat.toUInt8)) l.length) w = _
        rw [show n.toNat.toUInt8 = UInt8.ofNat n.toNat from rfl, this]
        congr 2
        simp [ByteArray.push]
      | _ => simp [bytesOfCells] at h
    | _ => simp [bytesOfCells] at h

theorem lies_bytes {e u : TypeId} {d cells off n : Nat} (he : P.underlying e = some (.int .u8)) (hu : P.underlying u = some (.int .u8)) (hc : P.cellsOf e = 1) (hd : 0 < d) (hle : off + n ≤ cells) : liesAt P d e cells off u n = true := by
  obtain ⟨d, rfl⟩ : ∃ k, d = k + 1 := ⟨d - 1, by omega⟩
  have hdep : ∃ k, P.depth = k + 1 := ⟨_, rfl⟩
  obtain ⟨k, hk⟩ := hdep
  have hs : sameLayout P P.depth e u = true := by
    rw [hk]
    simp [sameLayout, he, hu]
  simp only [liesAt, Bool.or_eq_true]
  refine .inl ?_
  rw [hk] at hs ⊢
  simp only [rowAt, hc, Nat.div_one, Nat.mod_one, Nat.one_ne_zero, if_false]
  simp [hle, hs]

theorem unsafeString_sound {μ : Ren} {s : St} {w : World} (h : Sim μ s w) {t u e : TypeId} {b o n fz : Nat} {k : IntKind} {gr : Bool} {vs l : List Value} {bs : List UInt8} {tys : List TypeId} {args' : List Value} (ty : TypeId)
    (ha : VRs μ [.pointer (some ⟨b, o, none⟩), .int k (Int.ofNat (n + 1))] args')
    (ht : P.underlying t = some (.pointer u)) (hb : s.hp.get b = some (.cells vs e fz gr false)) (he : P.underlying e = some (.int .u8)) (hu : P.underlying u = some (.int .u8)) (hc : P.cellsOf e = 1) (hn : n < 65536) (hd : 0 < P.depth)
    (hl : takeAt o (n + 1) vs = some l) (hbs : bytesOfCells l = some bs) :
    ∃ ν w' r, (Builtin.unsafeString_ ⟨t :: tys⟩ ty ⟨args'⟩).run P w = .ok r w' ∧ Stp μ s w ν ⟨s.hp.set b (.cells vs e (Nat.max fz (o + (n + 1))) gr false), s.nx⟩ w' ∧ VR ν (.string ⟨⟨bs⟩⟩) r := by
  obtain ⟨p', k', rfl, hp, hk⟩ := ha.two
  cases (trivial : True) with
  | intro =>
    cases (trivial : True) with
    | intro =>
      obtain ⟨lo, hlo, rfl⟩ := hp.pointer_inv
      obtain rfl := hk.of_atom rfl
      obtain ⟨vs', hlen, hcell, hr⟩ := load_cells h (n := n + 1) (vs := l) hlo (by simp only [loadN, cellsOf, hb]; exact hl)
      obtain ⟨rfl, _⟩ := bytes_rel hbs hr
      obtain ⟨c, lw, hi, hobj, h2, h3, h4, h5, h6⟩ := h.blk hb hlo
      have htl := takeAt_len hl
      have hsh : w.shape? lo.blk = some (e, c.size) := shape_of hobj
      let fr : Nat × Nat := if lw == hi then (lo.sh + o, lo.sh + o + (n + 1)) else (min lw (lo.sh + o), max hi (lo.sh + o + (n + 1)))
      have hup : Upd w (w.freeze ⟨lo.blk, lo.sh + o, none⟩ (n + 1)) lo.blk (.cells c e fr) := by
        refine ⟨?_, fun d hd => ?_, ?_, ?_, ?_, ?_⟩
        · simp [World.freeze, Array.getElem?_modify, hobj, fr]
        · simp only [World.freeze, Nat.add_one_ne_zero, if_false, Array.getElem?_modify]; rw [if_neg (Ne.symm hd)]
        · simp [World.freeze]
        · simp [World.freeze]
        · simp [World.freeze]
        · simp [World.freeze]
      have hlv : vs'.length = n + 1 := hlen
      refine ⟨μ, _, .string ⟨⟨bs⟩⟩, ?_, Stp.upd h hb hlo hup (b' := .cells vs e (Nat.max fz (o + (n + 1))) gr false) ?_, .atom rfl⟩
      · have hlies : liesAt P P.depth e (c.size / P.cellsOf e) (lo.sh + o) u (n + 1) = true := lies_bytes he hu hc hd (by rw [hc]; omega)
        have hbytes := loadBytes_run (P := P) (w := w) (b := lo.blk) (lo.sh + o) .empty hbs hcell
        rw [hlv] at hbytes
        have e2 : (⟨ByteArray.empty.data ++ bs.toArray⟩ : ByteArray) = ⟨⟨bs⟩⟩ := by
          show (⟨#[] ++ bs.toArray⟩ : ByteArray) = _
          simp
        rw [e2] at hbytes
        have hmax : IntKind.i64.max = 9223372036854775807 := rfl
        change Sem.run P (asInt (.int k (Int.ofNat (n + 1))) >>= _) w = _
        rw [Sem.run_bind]
        simp only [asInt, asIntOf, Sem.run_bind, pure, Sem.run, Result.andThen, List.getElem?_toArray, List.getElem?_cons_zero]
        rw [if_neg (by show ¬ ((n + 1 : Nat) : Int) < 0; omega)]
        rw [if_neg (by show ¬ ((n + 1 : Nat) : Int) > _; rw [hmax]; omega)]
        rw [if_neg (by show ¬ ((n + 1 : Nat) : Int) = 0; omega)]
        simp only [Sem.run_bind, elemOf, run_und ht, Result.andThen, variablesAt, program, run_shape, hsh, pure, Sem.run]
        rw [show (Int.ofNat (n + 1)).toNat = n + 1 from rfl, if_pos hlies]
        rw [Sem.run_bind, hbytes]
        rfl
      · refine ⟨c, fr.1, fr.2, rfl, h2, h3, h4, h5, ?_⟩
        have hf := h6
        refine ⟨?_, fun _ (h9 : Nat.max fz (o + (n + 1)) = 0) _ => absurd (Nat.le_max_right fz (o + (n + 1))) (by change ¬ o + (n + 1) ≤ Nat.max fz (o + (n + 1)); omega)⟩
        replace h6 := h6.1
        have hf := h6
        show fr.1 = fr.2 ∨ fr.2 ≤ lo.sh + Nat.max fz (o + (n + 1)) ∨ (false = true ∧ _)
        have hm1 := Nat.le_max_left fz (o + (n + 1))
        have hm2 := Nat.le_max_right fz (o + (n + 1))
        change fz ≤ Nat.max fz (o + (n + 1)) at hm1
        change o + (n + 1) ≤ Nat.max fz (o + (n + 1)) at hm2
        by_cases hlh : lw = hi
        · simp only [fr, hlh, beq_self_eq_true, if_true]
          exact .inr (.inl (by omega))
        · have : (lw == hi) = false := by simpa using hlh
          simp only [fr, this, Bool.false_eq_true, if_false]
          rcases h6 with h6 | h6 | ⟨h6, _⟩
          · exact absurd h6 hlh
          · refine .inr (.inl ?_)
            exact Nat.max_le.2 ⟨by omega, by omega⟩
          · cases h6
end Go.Ev

namespace Go.Ev
variable {P : Program}

theorem builtinV_sound {μ : Ren} {s s' : St} {w : World} (h : Sim μ s w) {b : Builtin} {tys : Array TypeId} {ty : TypeId} {cs : Array Bool} {args : List Value} {args' : Array Value} {v : Value}
    (ha : VRs μ args args'.toList) (hv : builtinV P s b tys.toList args = some (v, s')) : EffR P μ s w (builtin b tys ty cs args') v s' := by
  obtain ⟨args'⟩ := args'
  obtain ⟨tys⟩ := tys
  unfold builtinV at hv
  split at hv
  · obtain ⟨ν, w', r, h1, h2, h3⟩ := appendV_sound h ty ha hv
    exact EffR.val h1 h2 h3
  · obtain ⟨ν, w', r, h1, h2, h3⟩ := copyV_sound h ty ha hv
    exact EffR.val h1 h2 h3
  · next _ b o n c =>
    simp only [beq_dec] at hv
    by_cases hc : c = 0
    · simp [hc] at hv
    simp only [hc, decide_false, cond_false, Option.some.injEq, Prod.mk.injEq] at hv
    obtain ⟨rfl, rfl⟩ := hv
    obtain ⟨x', hx0, hx⟩ := ha.one
    cases hx0
    obtain ⟨l, hl, hcase⟩ := hx.slice_inv
    have key : ∃ m, x' = .slice (some ⟨l.blk, l.sh + o, none⟩) (n + 1) (m + 1) := by
      rcases hcase with ⟨h1, h2, rfl⟩ | ⟨es, c', a, rfl, h1, h2, h3, rfl⟩
      · exact ⟨c - 1, by rw [show c - 1 + 1 = c by omega]⟩
      · exact ⟨c' - 1, by rw [show c' - 1 + 1 = c' by omega, h2 (by omega)]⟩
    obtain ⟨m, rfl⟩ := key
    refine EffR.val (ν := μ) (w' := w) (x := .pointer (some ⟨l.blk, l.sh + o, none⟩)) rfl (Stp.refl h) (VR.ptr hl)
  · next t ts b o k n heq =>
    change tys = _ at heq
    subst heq
    split at hv
    · next u vs e fz gr ht hb =>
      split at hv
      · next he hu =>
        simp only [beq_dec, blt_dec] at hv
        by_cases hc : (decide (P.cellsOf e = 1) && decide (n < 65536) && decide (0 < P.depth)) = true
        · rw [hc] at hv
          simp only [Bool.and_eq_true, decide_eq_true_eq] at hc
          obtain ⟨⟨hc1, hc2⟩, hc3⟩ := hc
          simp only [cond_true, Option.bind_eq_some_iff, Option.some.injEq, Prod.mk.injEq] at hv
          obtain ⟨l, hl, bs, hbs, rfl, rfl⟩ := hv
          obtain ⟨ν, w', r, h1, h2, h3⟩ := unsafeString_sound h ty ha ht hb he hu hc1 hc2 hc3 hl hbs
          exact EffR.val h1 h2 h3
        · rw [Bool.not_eq_true] at hc
          rw [hc] at hv
          cases hv
      · cases hv
    · cases hv
  · cases hv
end Go.Ev
