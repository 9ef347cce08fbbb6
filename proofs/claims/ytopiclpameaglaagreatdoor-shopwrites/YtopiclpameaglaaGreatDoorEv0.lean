/-
An evaluator of code over abstract memory, sound against the model: part 0. No condition.
-/
import GoSem.Step
import Derived.RangeFuncIn
import Derived.OrdersIn
import Derived.DefersIn
set_option linter.unusedSimpArgs false
set_option linter.unusedVariables false
/-
An evaluator of Go code over abstract memory: the definitions.
-/
noncomputable section
namespace Go.Ev

/-- Tries over numbers. -/
inductive Tr (α : Type) where
  | lf
  | nd (v : Option α) (l r : Tr α)

def Tr.get {α : Type} (t : Tr α) : Nat → Option α :=
  Tr.rec (motive := fun _ => Nat → Option α) (fun _ => none)
    (fun v _ _ gl gr k => Bool.rec (motive := fun _ => Option α) (Bool.rec (motive := fun _ => Option α) (gr (Nat.sub (Nat.div k 2) 1)) (gl (Nat.div k 2)) (Nat.beq (Nat.mod k 2) 1)) v (Nat.beq k 0)) t

/-- One entry alone. -/
def Tr.one {α : Type} (x : Option α) (n : Nat) : Nat → Tr α :=
  Nat.rec (motive := fun _ => Nat → Tr α) (fun _ => .lf)
    (fun _ f k => Bool.rec (motive := fun _ => Tr α) (Bool.rec (motive := fun _ => Tr α) (.nd none .lf (f (Nat.sub (Nat.div k 2) 1))) (.nd none (f (Nat.div k 2)) .lf) (Nat.beq (Nat.mod k 2) 1)) (.nd x .lf .lf) (Nat.beq k 0)) n
def Tr.put {α : Type} (x : Option α) (t : Tr α) : Nat → Tr α :=
  Tr.rec (motive := fun _ => Nat → Tr α) (fun k => Tr.one x (Nat.succ k) k)
    (fun v l r pl pr k => Bool.rec (motive := fun _ => Tr α) (Bool.rec (motive := fun _ => Tr α) (.nd v l (pr (Nat.sub (Nat.div k 2) 1))) (.nd v (pl (Nat.div k 2)) r) (Nat.beq (Nat.mod k 2) 1)) (.nd x l r) (Nat.beq k 0)) t

def Tr.set {α : Type} (t : Tr α) (k : Nat) (x : α) : Tr α := Tr.put (some x) t k
def Tr.del {α : Type} (t : Tr α) (k : Nat) : Tr α := Tr.put none t k

/-- The record of a range over a function. -/
structure LoopR where
  st : LoopState
  jump : Option Code
  fn : FuncId
  nt : Nat
  tmps : Tr Value
  params : Array Tmp
  assign : Code
  body : Code
  defers : Nat

/-- An abstract block: cells (fz: at most so many of the first ones are frozen; gr: more may follow; mk: it may bear a mark behind its end), a map, an iterator over a map, a loop, a block for deferred calls. -/
inductive Blk where
  | cells (vs : List Value) (elem : TypeId) (fz : Nat) (gr mk : Bool)
  | map (es : List MapEntry) (clk : Nat)
  | miter (m : Nat) (since : Nat) (seen : List Nat) (stepped : Nat)
  | loop (r : LoopR)
  | dfr (b : Bool)

structure St where
  hp : Tr Blk
  nx : Nat

structure AAct where
  tm : Tr Value
  df : List Deferred

inductive AExit where
  | normal
  | exit (id : Nat)
  | ret

inductive Tk where
  | code (ro : Option Nat) (fn : FuncId) (nt : Nat) (c : Code) (a : AAct)
  | call (f : FuncId) (args : List Value)
  | round (l : Nat) (args : List Value)
  | defers (ds : List Deferred)

inductive R where
  | code (e : AExit) (a : AAct)
  | val (v : Value)

/-- A capacity from here on stands for one that is not known; what it is above is the number of cells of an element. -/
def unk : Nat := 4611686018427387904
/-- Block numbers below this are those of package-level variables. -/
def base : Nat := 1000

abbrev Rec := Tk → St → Option (R × St)
abbrev Orc := FuncId → List Value → St → Option (Value × St)

/-- Kinds of functions without a body. -/
inductive XK where
  | plain (e : Array Value → Sem Value)
  | noEscape
  | makeNoZero (ps rs : Array TypeId)
  | race (m : Addr → Mark)
  | cas
  | add
  | clone

section
variable (P : Program)

def AAct.tmp (a : AAct) (t : Tmp) : Value := (a.tm.get t).getD undef

def opd (a : AAct) : Operand → Value
  | .tmp t => a.tmp t
  | .const v => v
  | .global g => .pointer (some ⟨g, 0, none⟩)
  | .func f => .func (.func f) #[] #[]

def pureRun {α : Type} : Sem α → Option α
  | .pure a => some a
  | .program k => pureRun (k P)
  | .mark _ k => pureRun k
  | _ => none

/-- A value without an address. -/
def atom : Value → Bool
  | .bool _ | .int _ _ | .float _ _ | .complex _ _ _ | .string _ | .pointer none | .slice none _ _ | .map none | .nilFunc | .nilIface | .chan none => true
  | _ => false
def closed : Value → Bool
  | .agg cs => cs.toList.all atom
  | .tuple cs => cs.toList.all atom
  | .iface _ v => atom v
  | .func (.func _) ⟨[]⟩ ⟨[]⟩ => true
  | v => atom v

def okOpd (nt : Nat) : Operand → Bool
  | .tmp t => Nat.blt t nt
  | .const v => closed v
  | .global g => Nat.blt g base
  | .func _ => true
def okOper (nt : Nat) (o : Oper) : Bool :=
  o.op.operands.toList.all (okOpd nt) && (match o.dst with | some d => Nat.blt d nt | none => true)
def okOps (nt : Nat) (ops : Array Oper) : Bool := ops.toList.all (okOper nt)

def szOf (t : TypeId) : Option Nat := (P.info? t).bind fun i => some i.size
def zero (t : TypeId) : Option Value := (P.info? t).bind (·.zero)
def zeroC (t : TypeId) : Option Value :=
  match zero P t with
  | some z => bif closed z then some z else none
  | none => none
/-- The number of cells if the type is a struct's or an array's. -/
def aggN (t : TypeId) : Option (Option Nat) :=
  match P.underlying t with
  | some (.struct _) | some (.array _ _) => (szOf P t).bind fun n => some (some n)
  | some _ => some none
  | none => none

def ptr : Value → Option Addr
  | .pointer (some ⟨b, o, none⟩) => some ⟨b, o, none⟩
  | _ => none
def nat : Value → Option Nat
  | .int _ (.ofNat n) => some n
  | _ => none
def mkPtr (b : Nat) : Value := .pointer (some ⟨b, 0, none⟩)
/-- the address n cells on -/
def adv (a : Addr) (n : Nat) : Addr := ⟨a.block, Nat.add a.off n, none⟩

def takeN : Nat → List Value → Option (List Value)
  | 0, _ => some []
  | _ + 1, [] => none
  | n + 1, v :: vs => (takeN n vs).bind fun l => some (v :: l)

def takeAt : Nat → Nat → List Value → Option (List Value)
  | 0, n, vs => takeN n vs
  | _ + 1, _, [] => none
  | o + 1, n, _ :: vs => takeAt o n vs

def nth : Nat → List Value → Option Value
  | _, [] => none
  | 0, v :: _ => some v
  | n + 1, _ :: vs => nth n vs

def overwrite : List Value → List Value → Option (List Value)
  | [], vs => some vs
  | _ :: _, [] => none
  | x :: xs, _ :: vs => (overwrite xs vs).bind fun l => some (x :: l)

def overAt : Nat → List Value → List Value → Option (List Value)
  | 0, xs, vs => overwrite xs vs
  | _ + 1, _, [] => none
  | n + 1, xs, v :: vs => (overAt n xs vs).bind fun l => some (v :: l)

def scalar : Value → Bool
  | .agg _ | .tuple _ => false
  | _ => true

def cellsOf (s : St) (b : Nat) : Option (List Value) :=
  match s.hp.get b with
  | some (.cells vs _ _ _ _) => some vs
  | _ => none

/-- n cells at an address -/
def loadN (s : St) (a : Addr) (n : Nat) : Option (List Value) := (cellsOf s a.block).bind (takeAt a.off n)

def loadV (s : St) (t : TypeId) (a : Addr) : Option Value :=
  match aggN P t with
  | some (some n) => (loadN s a n).bind fun l => some (.agg ⟨l⟩)
  | some none => (cellsOf s a.block).bind (nth a.off)
  | none => none

def storeN (s : St) (a : Addr) (xs : List Value) : Option St :=
  match s.hp.get a.block with
  | some (.cells vs e fz gr mk) =>
    bif Nat.ble fz a.off && xs.all scalar then (overAt a.off xs vs).bind fun vs' => some ⟨s.hp.set a.block (.cells vs' e fz gr mk), s.nx⟩ else none
  | _ => none

def storeV (s : St) (t : TypeId) (a : Addr) (v : Value) : Option St :=
  (szOf P t).bind fun n =>
    bif Nat.beq v.cells.toList.length n then storeN s a v.cells.toList else none

def partV (t : TypeId) (cs : List Value) (off : Nat) : Option Value :=
  match aggN P t with
  | some (some n) => (takeAt off n cs).bind fun l => some (.agg ⟨l⟩)
  | some none => nth off cs
  | none => none

/-! ### Equality of values, as far as it is wanted -/

def addrEq : Option Addr → Option Addr → Bool
  | none, none => true
  | some ⟨b, o, none⟩, some ⟨b', o', none⟩ => Nat.beq b b' && Nat.beq o o'
  | _, _ => false
def natEq : Option Nat → Option Nat → Bool
  | none, none => true
  | some a, some b => Nat.beq a b
  | _, _ => false
def bytesEq : List UInt8 → List UInt8 → Bool
  | [], [] => true
  | a :: as, b :: bs => Nat.beq a.toNat b.toNat && bytesEq as bs
  | _, _ => false
def scEq : Value → Value → Bool
  | .bool a, .bool b => a == b
  | .int k a, .int l b => decide (k = l) && decide (a = b)
  | .string ⟨⟨a⟩⟩, .string ⟨⟨b⟩⟩ => bytesEq a b
  | .pointer a, .pointer b => addrEq a b
  | .slice a n c, .slice b m d => addrEq a b && Nat.beq n m && Nat.beq c d
  | .map a, .map b => natEq a b
  | .nilFunc, .nilFunc => true
  | .nilIface, .nilIface => true
  | _, _ => false
def scsEq : List Value → List Value → Bool
  | [], [] => true
  | a :: as, b :: bs => scEq a b && scsEq as bs
  | _, _ => false
def fcEq : Value → Value → Bool
  | .func (.func f) ⟨p⟩ ⟨c⟩, .func (.func g) ⟨q⟩ ⟨d⟩ => Nat.beq f g && scsEq p q && scsEq c d
  | .iface t v, .iface u w => Nat.beq t u && scEq v w
  | a, b => scEq a b
def fcsEq : List Value → List Value → Bool
  | [], [] => true
  | a :: as, b :: bs => fcEq a b && fcsEq as bs
  | _, _ => false
def vEq1 : Value → Value → Bool
  | .agg ⟨a⟩, .agg ⟨b⟩ => fcsEq a b
  | a, b => fcEq a b
def vsEq1 : List Value → List Value → Bool
  | [], [] => true
  | a :: as, b :: bs => vEq1 a b && vsEq1 as bs
  | _, _ => false
def vEq : Value → Value → Bool
  | .tuple ⟨a⟩, .tuple ⟨b⟩ => vsEq1 a b
  | a, b => vEq1 a b

/-! ### Operations that look at no memory -/

def fallback (ρ : Operand → Value) (o : Oper) : Option Value :=
  bif o.op.operands.toList.all (fun x => closed (ρ x)) then
    match pureRun P (execOp ρ o) with
    | some (.value v) => bif closed v then some v else none
    | _ => none
  else none

def bound (v : Option Value) (dflt : Nat) : Option Nat :=
  match v with
  | none => some dflt
  | some v => nat v

def sliceV (t : TypeId) (x : Value) (lo hi mx : Option Value) : Option Value :=
  match P.underlying t, x with
  | some (.slice e), .slice (some ⟨b, o, none⟩) len cap =>
    (szOf P e).bind fun size => (bound lo 0).bind fun l => (bound hi len).bind fun h =>
      bif Nat.blt cap unk then
        (bound mx cap).bind fun m =>
          bif Nat.ble l h && Nat.ble h m && Nat.ble m cap then
            some (.slice (some (bif Nat.beq m l then ⟨b, o, none⟩ else adv ⟨b, o, none⟩ (Nat.mul l size))) (Nat.sub h l) (Nat.sub m l))
          else none
      else bif Nat.beq cap (Nat.add unk size) then
        match mx with
        | none => bif Nat.ble l h && Nat.ble h len then some (.slice (some (adv ⟨b, o, none⟩ (Nat.mul l size))) (Nat.sub h l) cap) else none
        | some m => (nat m).bind fun m => bif Nat.ble l h && Nat.ble h m && Nat.ble m len && Nat.blt 0 m && Nat.blt m unk then some (.slice (some (bif Nat.beq m l then ⟨b, o, none⟩ else adv ⟨b, o, none⟩ (Nat.mul l size))) (Nat.sub h l) (Nat.sub m l)) else none
      else none
  | some (.slice e), .slice none len cap =>
    (szOf P e).bind fun _ => (bound lo 0).bind fun l => (bound hi len).bind fun h => (bound mx cap).bind fun m =>
      bif Nat.ble l h && Nat.ble h m && Nat.ble m cap then some (.slice none (Nat.sub h l) (Nat.sub m l)) else none
  | _, _ => none

def pureOp (a : AAct) (o : Oper) : Option Value :=
  match o.op with
  | .move x | .assign x => some (opd a x)
  | .pick c x y => match opd a c with | .bool b => some (bif b then opd a x else opd a y) | _ => none
  | .build t ps => (zeroC P t).bind fun _ => pureRun P (Instr.build t (ps.map fun p => (p.1, opd a p.2)))
  | .nilCheck x => match opd a x with
    | .pointer (some b) => some (.pointer (some b))
    | .func (.func f) p c => some (.func (.func f) p c)
    | .func (.yield l) p c => some (.func (.yield l) p c)
    | _ => none
  | .makeInterface t x =>
    match P.underlying t with
    | some (.interface _) | none => none
    | some _ => some (.iface t (opd a x))
  | .makeFunc (.func f) first cap => some (.func (.func f) (first.map (opd a)) (cap.map (opd a)))
  | .slice t x lo hi mx =>
    match opd a x with
    | .string _ => fallback P (opd a) o
    | v => bif mx.isSome && hi.isNone then none else sliceV P t v (lo.map (opd a)) (hi.map (opd a)) (mx.map (opd a))
  | .fieldAddr t x f =>
    match P.underlying t with
    | some (.struct fs) => match fs[f]? with
      | some f => (ptr (opd a x)).bind fun p => (szOf P f.type).bind fun n => bif Nat.beq n 0 then none else some (.pointer (some (adv p f.offset)))
      | none => none
    | _ => none
  | .field t x f =>
    match P.underlying t, opd a x with
    | some (.struct fs), .agg ⟨cs⟩ => match fs[f]? with
      | some f => partV P f.type cs f.offset
      | none => none
    | _, _ => none
  | .indexAddr t x i =>
    (nat (opd a i)).bind fun i =>
      match P.underlying t, opd a x with
      | some (.array n e), .pointer (some ⟨b, o, none⟩) => (szOf P e).bind fun size => bif Nat.blt i n then some (.pointer (some (adv ⟨b, o, none⟩ (Nat.mul i size)))) else none
      | some (.slice e), .slice (some ⟨b, o, none⟩) n _ => (szOf P e).bind fun size => bif Nat.blt i n then some (.pointer (some (adv ⟨b, o, none⟩ (Nat.mul i size)))) else none
      | _, _ => none
  | .index t x i =>
    match opd a x with
    | .agg ⟨cs⟩ => (nat (opd a i)).bind fun i =>
      match P.underlying t with
      | some (.array n e) => (szOf P e).bind fun size => bif Nat.blt i n then partV P e cs (Nat.mul i size) else none
      | _ => none
    | _ => fallback P (opd a) o
  | .typeAssert x _ want ok =>
    match P.underlying want, opd a x with
    | some (.interface _), _ => none
    | some _, .iface t v => bif Nat.beq t want then some (bif ok then .tuple ⟨[v, .bool true]⟩ else v) else none
    | _, _ => none
  | .extract t i => match opd a t with | .tuple ⟨vs⟩ => nth i vs | _ => none
  | .call c =>
    match c.callee, c.args.toList.map (opd a), c.argTypes.toList with
    | .builtin .len, [.slice _ n _], [t] => (match P.underlying t with
      | some (.slice _) => some (.int .i64 n)
      | _ => none)
    | .builtin .cap, [.slice _ _ k], [t] => (match P.underlying t with
      | some (.slice _) => (bif Nat.blt k unk then some (.int .i64 k) else none)
      | _ => none)
    | .builtin .len, _, _ => fallback P (opd a) o
    | .builtin .min, _, _ => fallback P (opd a) o
    | .builtin .max, _, _ => fallback P (opd a) o
    | _, _, _ => none
  | .binOp .. | .unOp .. | .convert .. => fallback P (opd a) o
  | _ => none

/-! ### Operations that read memory -/

def eqV (t : TypeId) (x y : Value) : Option Bool :=
  match P.underlying t, x, y with
  | some (.pointer _), .pointer (some _), .pointer none => some false
  | some (.pointer e), .pointer (some ⟨b, o, none⟩), .pointer (some ⟨b', o', none⟩) =>
    (szOf P e).bind fun n => bif Nat.beq n 0 then none else bif Nat.beq b b' then some (Nat.beq o o') else none
  | some (.slice _), .slice (some _) _ _, .slice none _ _ => some false
  | some (.map _ _), .map (some _), .map none => some false
  | some (.func _ _ _), .func _ _ _, .nilFunc => some false
  | _, _, _ => none

/-- Whether '==' of two values is worked out by eqV. -/
def eqHeld : Value → Bool
  | .pointer (some _) => true
  | .slice (some _) _ _ => true
  | .map (some _) => true
  | .func _ _ _ => true
  | _ => false

def bare (es : List MapEntry) : List MapEntry := es.map fun e => ⟨e.key, undef, e.born⟩

def keyIdx (kt : TypeId) (k : Value) (es : List MapEntry) : Option (Option Nat) :=
  bif closed k && es.all (fun e => closed e.key) then
    match pureRun P (Instr.findKey kt k (bare es)) with
    | some (some (i, _)) => some (some i)
    | some none => some none
    | none => none
  else none

def entAt : Nat → List MapEntry → Option MapEntry
  | _, [] => none
  | 0, e :: _ => some e
  | n + 1, _ :: es => entAt n es

def lookupV (s : St) (t : TypeId) (m k : Value) (ok : Bool) : Option Value :=
  match P.underlying t with
  | some (.map kt et) =>
    let go (es : List MapEntry) : Option Value :=
      match pureRun P (Instr.checkKey es.isEmpty 10000 kt k), keyIdx P kt k es with
      | some _, some (some i) => (entAt i es).bind fun e => some (bif ok then .tuple ⟨[e.val, .bool true]⟩ else e.val)
      | some _, some none => (zeroC P et).bind fun z => some (bif ok then .tuple ⟨[z, .bool false]⟩ else z)
      | _, _ => none
    match m with
    | .map none => go []
    | .map (some r) => match s.hp.get r with | some (.map es _) => go es | _ => none
    | _ => none
  | _ => none

def bytesOfCells : List Value → Option (List UInt8)
  | [] => some []
  | .int .u8 n :: vs => (bytesOfCells vs).bind fun l => some (UInt8.ofNat n.toNat :: l)
  | _ => none

def readOp (a : AAct) (o : Oper) (s : St) : Option Value :=
  match o.op with
  | .load t x => (ptr (opd a x)).bind (loadV P s t)
  | .lookup t m k ok => lookupV P s t (opd a m) (opd a k) ok
  | .entry it =>
    match opd a it with
    | .pointer (some ⟨r, 0, none⟩) => match s.hp.get r with
      | some (.miter m _ seen stepped) => match s.hp.get m with
        | some (.map es clk) => bif Nat.beq clk stepped then
            (match seen.getLast? with
             | some stamp => match es.find? (fun e => e.born == stamp) with
               | some e => some (.tuple ⟨[e.key, e.val]⟩)
               | none => none
             | none => none)
          else none
        | _ => none
      | _ => none
    | _ => none
  | .convert src dst x =>
    match opd a x with
    | .slice (some ⟨b, o, none⟩) n _ =>
      match P.underlying src, P.underlying dst with
      | some (.slice e), some .string => match P.underlying e with
        | some (.int .u8) => (loadN s ⟨b, o, none⟩ n).bind fun l => (bytesOfCells l).bind fun bs => some (.string ⟨⟨bs⟩⟩)
        | _ => none
      | _, _ => none
    | .pointer (some ⟨b, o, none⟩) =>
      match P.underlying src, P.underlying dst, s.hp.get b with
      | some (.pointer t), some .unsafePointer, some (.cells vs _ _ _ _) =>
        (szOf P t).bind fun n => bif Nat.beq n 0 then none else bif Nat.blt o vs.length then some (.pointer (some ⟨b, o, none⟩)) else none
      | some .unsafePointer, some (.pointer u), some (.cells vs e _ false _) =>
        (szOf P u).bind fun n => bif Nat.beq n 0 then none else bif liesAt P P.depth e (vs.length / P.cellsOf e) o u 1 then some (.pointer (some ⟨b, o, none⟩)) else none
      | _, _, _ => none
    | _ => none
  | .call c =>
    match c.callee, c.args.toList.map (opd a), c.argTypes.toList with
    | .builtin .len, [.map (some r)], [t] => (match P.underlying t with
      | some (.map _ _) => (match s.hp.get r with | some (.map es _) => some (.int .i64 es.length) | _ => none)
      | _ => none)
    | _, _, _ => none
  | _ => none

/-! ### Operations that make a block -/

def zeros (z : List Value) : Nat → List Value
  | 0 => []
  | n + 1 => z ++ zeros z n

/-- The block that is made, and the value by its number. -/
def allocOp (a : AAct) (o : Oper) : Option (Blk × (Nat → Value)) :=
  match o.op with
  | .alloc t => (zeroC P t).bind fun z => some (.cells z.cells.toList t 0 false false, mkPtr)
  | .box t x => some (.cells (opd a x).cells.toList t 0 false false, mkPtr)
  | .buildSlice t len ps =>
    match P.underlying t with
    | some (.slice e) => (szOf P e).bind fun size => (zeroC P e).bind fun z =>
      bif Nat.ble (Nat.mul len size) 65536 && Nat.ble len 65536 && Nat.beq z.cells.toList.length size then
        match Instr.fill (fun i => some (i * size, size)) ⟨zeros z.cells.toList len⟩ (ps.map fun p => (p.1, opd a p.2)).toList with
        | some ⟨cs⟩ => some (.cells cs e 0 false false, fun b => .slice (some ⟨b, 0, none⟩) len len)
        | none => none
      else none
    | _ => none
  | .makeMap _ none => some (.map [] 0, fun b => .map (some b))
  | .makeSlice t l c =>
    match P.underlying t, nat (opd a l), nat (opd a c) with
    | some (.slice e), some l, some c =>
      (P.info? e).bind fun i => (zeroC P e).bind fun z =>
        bif Nat.ble l c && Nat.ble c 65536 && Nat.ble i.bytes 65536 && Nat.beq z.cells.toList.length i.size then
          some (.cells (zeros z.cells.toList c) e 0 false false, fun b => .slice (some ⟨b, 0, none⟩) l c)
        else none
    | _, _, _ => none
  | _ => none

def newBlk (s : St) (b : Blk) : St := ⟨s.hp.set s.nx b, Nat.succ s.nx⟩

/-! ### Operations that turn memory, and calls -/

def setEnt : Nat → Value → Value → List MapEntry → List MapEntry
  | _, _, _, [] => []
  | 0, k, v, e :: es => ⟨k, v, e.born⟩ :: es
  | n + 1, k, v, e :: es => e :: setEnt n k v es

def updateV (s : St) (t : TypeId) (m k v : Value) : Option St :=
  match P.underlying t, m with
  | some (.map kt _), .map (some r) =>
    match s.hp.get r with
    | some (.map es clk) =>
      match pureRun P (Instr.checkKey false 10000 kt k), keyIdx P kt k es with
      | some _, some (some i) => (entAt i es).bind fun e =>
        bif Instr.sameBits 10000 e.key k then some ⟨s.hp.set r (.map (setEnt i k v es) clk), s.nx⟩ else none
      | some _, some none => some ⟨s.hp.set r (.map (es ++ [⟨k, v, clk⟩]) (Nat.succ clk)), s.nx⟩
      | _, _ => none
    | _ => none
  | _, _ => none

def byteCells (b : ByteArray) : List Value := b.data.toList.map fun c => .int .u8 c.toNat

/-- the cells of a slice's first n elements, or a string's first n bytes -/
def sliceCells (s : St) (size n : Nat) : Value → Option (List Value)
  | .slice (some ⟨b, o, none⟩) _ _ => loadN s ⟨b, o, none⟩ (Nat.mul n size)
  | .slice none _ _ => some []
  | .string b => some ((byteCells b).take n)
  | _ => none

def lenV : Value → Option Nat
  | .slice _ n _ => some n
  | .string s => some s.size
  | _ => none

/-- 'append' of cells that are read already -/
def appendCells (s : St) (e size : Nat) (base : Option Addr) (len cap n : Nat) (new : List Value) : Option (Value × St) :=
  bif Nat.beq size 0 || Nat.blt 65536 (Nat.add len n) then none else
  match base with
  | none =>
    bif Nat.beq len 0 && Nat.beq cap 0 then
      bif Nat.beq n 0 then some (.slice none 0 0, s)
      else some (.slice (some ⟨s.nx, 0, none⟩) n (Nat.add unk size), newBlk s (.cells new e 0 true false))
    else none
  | some ⟨b, o, none⟩ =>
    match s.hp.get b with
    | some (.cells vs e' fz _ mk) =>
      bif Nat.beq n 0 then some (.slice (some ⟨b, o, none⟩) len cap, s)
      else (takeAt o (Nat.mul len size) vs).bind fun old =>
        bif Nat.blt cap unk then
          bif Nat.blt cap (Nat.add len n) then some (.slice (some ⟨s.nx, 0, none⟩) (Nat.add len n) (Nat.add unk size), newBlk s (.cells (old ++ new) e 0 true false)) else none
        else bif Nat.beq cap (Nat.add unk size) && Nat.beq e e' && Nat.ble fz (Nat.add o (Nat.mul len size)) && new.all scalar then
          some (.slice (some ⟨s.nx, 0, none⟩) (Nat.add len n) cap, newBlk ⟨s.hp.del b, s.nx⟩ (.cells (old ++ new) e (Nat.sub fz o) true mk))
        else none
    | _ => none
  | _ => none

def appendV (s : St) (tys : List TypeId) (args : List Value) : Option (Value × St) :=
  match tys, args with
  | [st, xt], [.slice base len cap, x] =>
    match P.underlying st with
    | some (.slice e) => (P.info? e).bind fun i => (zeroC P e).bind fun z =>
      bif Nat.ble i.bytes 65536 && Nat.beq z.cells.toList.length i.size then
        match P.underlying xt, x with
        | some (.int _), .int .i64 (.ofNat n) => bif Nat.ble n 65536 then appendCells s e i.size base len cap n (zeros z.cells.toList n) else none
        | some (.int _), _ => none
        | some _, x => (lenV x).bind fun n => (sliceCells s i.size n x).bind fun new => bif Nat.beq new.length (Nat.mul n i.size) then appendCells s e i.size base len cap n new else none
        | none, _ => none
      else none
    | _ => none
  | _, _ => none

def copyV (s : St) (tys : List TypeId) (args : List Value) : Option (Value × St) :=
  match tys, args with
  | dt :: _, [.slice base dl _, src] =>
    match P.underlying dt with
    | some (.slice e) => (szOf P e).bind fun size => (lenV src).bind fun sl =>
      (sliceCells s size (Nat.min sl dl) src).bind fun l =>
        match base with
        | none => some (.int .i64 (Nat.min sl dl), s)
        | some ⟨b, o, none⟩ => bif Nat.beq l.length 0 then some (.int .i64 (Nat.min sl dl), s) else (storeN s ⟨b, o, none⟩ l).bind fun s' => some (.int .i64 (Nat.min sl dl), s')
        | _ => none
    | _ => none
  | _, _ => none

def builtinV (s : St) (b : Builtin) (tys : List TypeId) (args : List Value) : Option (Value × St) :=
  match b, tys, args with
  | .append, tys, args => appendV P s tys args
  | .copy, tys, args => copyV P s tys args
  | .unsafeSliceData, _, [.slice (some ⟨b, o, none⟩) (n + 1) c] => bif Nat.beq c 0 then none else some (.pointer (some ⟨b, o, none⟩), s)
  | .unsafeString, t :: _, [.pointer (some ⟨b, o, none⟩), .int _ (.ofNat (n + 1))] =>
    match P.underlying t, s.hp.get b with
    | some (.pointer u), some (.cells vs e fz gr false) =>
      match P.underlying e, P.underlying u with
      | some (.int .u8), some (.int .u8) =>
        bif Nat.beq (P.cellsOf e) 1 && Nat.blt n 65536 && Nat.blt 0 P.depth then
          (takeAt o (n + 1) vs).bind fun l => (bytesOfCells l).bind fun bs =>
            some (.string ⟨⟨bs⟩⟩, ⟨s.hp.set b (.cells vs e (Nat.max fz (o + (n + 1))) gr false), s.nx⟩)
        else none
      | _, _ => none
    | _, _ => none
  | _, _, _ => none

/-- Functions without a body. -/
def extern (k : XK) (s : St) (args : List Value) : Option (Value × St) :=
  match k, args with
  | .plain e, args => bif args.all closed then
      (match pureRun P (e ⟨args⟩) with
      | some v => bif closed v then some (v, s) else none
      | none => none)
    else none
  | .noEscape, [x] => some (x, s)
  | .makeNoZero _ rs, [.int .i64 (.ofNat n)] =>
    match rs.toList with
    | t :: _ => match P.underlying t with
      | some (.slice e) => bif Nat.ble n 65536 then (match szOf P e with
        | some 1 => some (.slice (some ⟨s.nx, 0, none⟩) n (Nat.add unk 1), newBlk s (.cells [] e 0 true false))
        | _ => none) else none
      | _ => none
    | [] => none
  | .race _, [.pointer (some _)] => some (.tuple ⟨[]⟩, s)
  | .cas, [.pointer (some ⟨b, o, none⟩), .int _ old, .int k new] =>
    (cellsOf s b).bind fun vs => match nth o vs with
      | some (.int .i32 cur) => bif cur == old then (storeN s ⟨b, o, none⟩ [.int k new]).bind fun s' => some (.bool true, s') else none
      | _ => none
  | .add, [.pointer (some ⟨b, o, none⟩), .int _ d] =>
    (cellsOf s b).bind fun vs => match nth o vs with
      | some (.int .i32 cur) => (storeN s ⟨b, o, none⟩ [.int .i32 (IntKind.i32.wrap (cur + d))]).bind fun s' => some (.int .i32 (IntKind.i32.wrap (cur + d)), s')
      | _ => none
  | .clone, [.iface t (.map (some r))] =>
    match s.hp.get r with
    | some (.map es clk) => some (.iface t (.map (some s.nx)), newBlk s (.map es clk))
    | _ => none
  | _, _ => none

variable (xk : FuncId → Option XK) (orc : Orc) (dorc : FuncId → Bool)

def callF (rec : Rec) (f : FuncId) (args : List Value) (s : St) : Option (Value × St) :=
  match orc f args s with
  | some r => some r
  | none =>
    match xk f with
    | some k => extern P k s args
    | none =>
      match rec (.call f args) s with
      | some (.val v, s') => some (v, s')
      | _ => none

def invokeT (rec : Rec) (t : Target) (args : List Value) (s : St) : Option (Value × St) :=
  match t with
  | .fn (.func f) cap => callF P xk orc rec f (args ++ cap.toList) s
  | .fn (.yield l) _ =>
    match rec (.round l args) s with
    | some (.val v, s') => some (v, s')
    | _ => none
  | _ => none

def resolveC (a : AAct) (c : Call) : Option (Fn × List Value × List Value) :=
  match c.callee with
  | .value f => match opd a f with
    | .func fn first cap => some (fn, first.toList ++ c.args.toList.map (opd a), cap.toList)
    | _ => none
  | _ => none

def effOp (rec : Rec) (a : AAct) (o : Oper) (s : St) : Option (Value × St) :=
  match o.op with
  | .store t x y => (ptr (opd a x)).bind fun p => (storeV P s t p (opd a y)).bind fun s' => some (undef, s')
  | .mapUpdate t m k v | .insert t m k v => (updateV P s t (opd a m) (opd a k) (opd a v)).bind fun s' => some (undef, s')
  | .convert src dst x =>
    match opd a x, P.underlying src, P.underlying dst with
    | .string b, some .string, some (.slice e) => match P.underlying e, szOf P e with
      | some (.int .u8), some 1 => some (.slice (some ⟨s.nx, 0, none⟩) b.size (Nat.add unk 1), newBlk s (.cells (byteCells b) e 0 true true))
      | _, _ => none
    | _, _, _ => none
  | .range t x =>
    match P.underlying t, opd a x with
    | some (.map _ _), .map (some m) =>
      match s.hp.get m with
      | some (.map _ clk) => some (mkPtr s.nx, newBlk s (.miter m clk [] clk))
      | _ => none
    | _, _ => none
  | .next it false =>
    match opd a it with
    | .pointer (some ⟨r, 0, none⟩) =>
      match s.hp.get r with
      | some (.miter m since seen last) =>
        match s.hp.get m with
        | some (.map es clk) =>
          bif !seen.isEmpty && !es.isEmpty && es.all (fun e => decide (e.born ≥ last)) then none else
          match es.filter fun e => !seen.contains e.born with
          | [] => some (.tuple ⟨[.bool false]⟩, s)
          | [e] => bif Nat.blt e.born since then some (.tuple ⟨[.bool true, e.key, e.val]⟩, ⟨s.hp.set r (.miter m since (seen ++ [e.born]) clk), s.nx⟩) else none
          | _ => none
        | _ => none
      | _ => none
    | _ => none
  | .call c =>
    match c.callee with
    | .builtin b => builtinV P s b c.argTypes.toList (c.args.toList.map (opd a))
    | _ => (resolveC a c).bind fun r => invokeT P xk orc rec (.fn r.1 ⟨r.2.2⟩) r.2.1 s
  | _ => none

inductive Cls where
  | pure | read | alloc | eff

def cls (a : AAct) (o : Oper) : Cls :=
  match o.op with
  | .load .. | .lookup .. | .entry .. => .read
  | .convert _ dst x => match opd a x with | .slice (some _) _ _ | .pointer (some _) => .read | .string _ => (match P.underlying dst with | some (.slice _) => .eff | _ => .pure) | _ => .pure
  | .alloc .. | .box .. | .buildSlice .. | .makeMap .. | .makeSlice .. => .alloc
  | .store .. | .mapUpdate .. | .insert .. | .range .. | .next .. => .eff
  | .call c => match c.callee with
    | .builtin .len => (match c.args.toList.map (opd a) with | [.map (some _)] => .read | _ => .pure)
    | .builtin .cap | .builtin .min | .builtin .max => .pure
    | _ => .eff
  | _ => .pure

/-- '==' and '!=' of values that are held -/
def pureOp' (a : AAct) (o : Oper) : Option Value :=
  match o.op with
  | .binOp .eql t x y _ => bif eqHeld (opd a x) then (eqV P t (opd a x) (opd a y)).bind fun b => some (.bool b) else fallback P (opd a) o
  | .binOp .neq t x y _ => bif eqHeld (opd a x) then (eqV P t (opd a x) (opd a y)).bind fun b => some (.bool (!b)) else fallback P (opd a) o
  | _ => pureOp P a o

def wantedA (a : AAct) (ops : Array Oper) (o : Oper) : Bool :=
  match o.guard with
  | none => true
  | some (j, b) => match ops[j]? with
    | some oj => match oj.dst with
      | some d => match a.tmp d with
        | .bool c => c == b
        | _ => false
      | none => false
    | none => false

def putA (a : AAct) (d : Option Tmp) (v : Value) : AAct :=
  match d with
  | some d => ⟨a.tm.set d v, a.df⟩
  | none => a

/-- One operation, in the order as written. -/
def evOp (rec : Rec) (a : AAct) (o : Oper) (s : St) : Option (AAct × St) :=
  match cls P a o with
  | .pure => (pureOp' P a o).bind fun v => some (putA a o.dst v, s)
  | .read => (readOp P a o s).bind fun v => some (putA a o.dst v, s)
  | .alloc => (allocOp P a o).bind fun r => some (putA a o.dst (r.2 s.nx), newBlk s r.1)
  | .eff => (effOp P xk orc rec a o s).bind fun r => some (putA a o.dst r.1, r.2)

def evOps (rec : Rec) (ro : Option Nat) (ops : Array Oper) : List Oper → AAct → St → Option (AAct × St)
  | [], a, s => some (a, s)
  | o :: rest, a, s =>
    bif wantedA a ops o then
      match o.op, ro with
      | .defer c, none => (resolveC a c).bind fun r => match r.1 with
        | .func f => evOps rec ro ops rest (putA ⟨a.tm, ⟨.fn (.func f) ⟨r.2.2⟩, ⟨r.2.1⟩⟩ :: a.df⟩ o.dst undef) s
        | _ => none
      | .defer _, some _ => none
      | _, _ => (evOp P xk orc rec a o s).bind fun r => evOps rec ro ops rest r.1 r.2
    else evOps rec ro ops rest (putA a o.dst undef) s

/-! ### A region whose order is open -/

def regPair (ops : Array Oper) (b : Nat) (i : Nat) (o : Oper) : Nat → List Oper → Bool
  | _, [] => true
  | j, p :: ps => bif Nat.blt j i then ((p.apart ops o || (b.testBit j && (match p.dst with | some d => o.dst != some d | none => true))) && regPair ops b i o (j + 1) ps) else true

def regAll (ops : Array Oper) (b : Array Nat) : Nat → List Oper → Bool
  | _, [] => true
  | i, o :: os => o.after.toList.all (fun e => !Region.binds .any e || Nat.blt e.on i) && (match o.guard with | some (j, _) => o.after.toList.any (fun e => Nat.beq e.on j && Region.binds .any e) | none => true) &&
      regPair ops (b.getD i 0) i o 0 ops.toList && regAll ops b (i + 1) os

/-- What an open order asks of a region, whatever the values. -/
def regOk (ops : Array Oper) : Bool := regAll ops (Region.before ops) 0 ops.toList

/-- an order of a region's operations that leaves the making of blocks as late as may be -/
def isMake (o : Oper) : Bool :=
  match o.op with
  | .alloc .. | .box .. | .buildSlice .. | .makeMap .. | .makeSlice .. => true
  | _ => false
def readyIn (o : Oper) (done : Nat) : Bool := o.after.toList.all fun e => !Region.binds .any e || done.testBit e.on
def firstReady (late : Bool) (done : Nat) : Nat → List Oper → Option Nat
  | _, [] => none
  | i, o :: os => bif !done.testBit i && (late || !isMake o) && readyIn o done then some i else firstReady late done (i + 1) os
def ordGo (ops : List Oper) : Nat → Nat → List Nat
  | 0, _ => []
  | n + 1, done =>
    match firstReady false done 0 ops with
    | some i => i :: ordGo ops n (done ||| 2 ^ i)
    | none => match firstReady true done 0 ops with
      | some i => i :: ordGo ops n (done ||| 2 ^ i)
      | none => []
def ordOf (ops : Array Oper) : List Nat := ordGo ops.toList ops.size 0

/-- an order lists each operation once, behind those that it waits for -/
def ordOk (ops : Array Oper) : Nat → List Nat → Bool
  | done, [] => (List.range ops.size).all fun i => done.testBit i
  | done, i :: is => match ops[i]? with
    | some o => !done.testBit i && readyIn o done && ordOk ops (done ||| 2 ^ i) is
    | none => false

structure RdRec where
  i : Nat
  o : Oper
  a : AAct
  v : Value

/-- what is kept on the way: the effects done (the number of each, and the state behind it), the state at the start, the numbers of the operations that made blocks, the reads -/
structure Pend where
  lv : List (Nat × St)
  s0 : St
  al : List Nat
  rd : List RdRec

/-- a read done again at the states behind earlier effects, as far back as the order is open -/
def backOk (b : Nat) (r : RdRec) : List (Nat × St) → St → Bool
  | [], s0 => (match readOp P r.a r.o s0 with | some v => vEq v r.v | none => false)
  | (e, s) :: lv, s0 => (match readOp P r.a r.o s with | some v => vEq v r.v | none => false) && (b.testBit e || backOk b r lv s0)

/-- the reads behind effect i: those that may come behind it must be as they were -/
def fwdOk (b : Nat) (s : St) : List RdRec → Option (List RdRec)
  | [] => some []
  | r :: rs =>
    bif b.testBit r.i then fwdOk b s rs
    else match readOp P r.a r.o s with
      | some v => bif vEq v r.v then (fwdOk b s rs).bind fun l => some (r :: l) else none
      | none => none

def evDraw (rec : Rec) (ops : Array Oper) (bs : Array Nat) : List Nat → AAct → St → Pend → Option (AAct × St)
  | [], a, s, _ => some (a, s)
  | i :: rest, a, s, p =>
    match ops[i]? with
    | none => none
    | some o =>
      bif wantedA a ops o then
        match o.op with
        | .defer _ => none
        | _ => match cls P a o with
          | .pure => (pureOp' P a o).bind fun v => evDraw rec ops bs rest (putA a o.dst v) s p
          | .read => (readOp P a o s).bind fun v =>
            bif backOk P (bs.getD i 0) ⟨i, o, a, v⟩ p.lv p.s0 then
              evDraw rec ops bs rest (putA a o.dst v) s ⟨p.lv, p.s0, p.al, ⟨i, o, a, v⟩ :: p.rd⟩
            else none
          | .alloc => (allocOp P a o).bind fun r => evDraw rec ops bs rest (putA a o.dst (r.2 s.nx)) (newBlk s r.1) ⟨p.lv, p.s0, i :: p.al, p.rd⟩
          | .eff =>
            bif p.lv.all (fun e => (bs.getD i 0).testBit e.1) && p.al.all (fun e => (bs.getD i 0).testBit e) then
              (effOp P xk orc rec a o s).bind fun r =>
                bif Nat.ble s.nx r.2.nx then
                  (fwdOk P (bs.getD i 0) r.2 p.rd).bind fun rd => evDraw rec ops bs rest (putA a o.dst r.1) r.2 ⟨(i, r.2) :: p.lv, p.s0, p.al, rd⟩
                else none
            else none
      else evDraw rec ops bs rest (putA a o.dst undef) s p

/-! ### Code, calls, rounds, deferred calls -/

def initTm : List Value → Nat → Tr Value → Tr Value
  | [], _, t => t
  | v :: vs, i, t => initTm vs (Nat.succ i) (t.set i v)

def setTm (nt : Nat) : List (Tmp × Value) → Tr Value → Option (Tr Value)
  | [], t => some t
  | (k, v) :: l, t => bif Nat.blt k nt then setTm nt l (t.set k v) else none

def resV (nt : Nat) (a : AAct) (s : St) : List ResultVar → Option (List Value)
  | [] => some []
  | .tmp t :: rs => bif Nat.blt t nt then (resV nt a s rs).bind fun l => some (a.tmp t :: l) else none
  | .cell p t :: rs => bif Nat.blt p nt then (ptr (a.tmp p)).bind fun q => (loadV P s t q).bind fun v => (resV nt a s rs).bind fun l => some (v :: l) else none

def resultsV (fn : Func) (a : AAct) (s : St) : Option Value :=
  match resV P fn.ntmps a s fn.results.toList with
  | some [v] => some v
  | some vs => some (.tuple ⟨vs⟩)
  | none => none

def loopAt (s : St) (l : Nat) : Option LoopR :=
  match s.hp.get l with
  | some (.loop r) => some r
  | _ => none

def stepCode (rec : Rec) (ro : Option Nat) (fn : FuncId) (nt : Nat) (c : Code) (a : AAct) (s : St) : Option (R × St) :=
  match c with
  | .skip => some (.code .normal a, s)
  | .region _ ops draw =>
    bif okOps nt ops then
      bif draw then
        bif regOk ops && ordOk ops 0 (ordOf ops) then (evDraw P xk orc rec ops (Region.before ops) (ordOf ops) a s ⟨[], s, [], []⟩).bind fun r => some (.code .normal r.1, r.2) else none
      else (evOps P xk orc rec ro ops ops.toList a s).bind fun r => some (.code .normal r.1, r.2)
    else none
  | .seq x y =>
    match rec (.code ro fn nt x a) s with
    | some (.code .normal a, s) => rec (.code ro fn nt y a) s
    | r => r
  | .cond c x y =>
    bif okOpd nt c then
      match opd a c with
      | .bool true => rec (.code ro fn nt x a) s
      | .bool false => rec (.code ro fn nt y a) s
      | _ => none
    else none
  | .block id c =>
    match rec (.code ro fn nt c a) s with
    | some (.code (.exit id') a, s) => bif Nat.beq id' id then some (.code .normal a, s) else some (.code (.exit id') a, s)
    | r => r
  | .loop c =>
    match rec (.code ro fn nt c a) s with
    | some (.code .normal a, s) => rec (.code ro fn nt (.loop c) a) s
    | r => r
  | .exit id => some (.code (.exit id) a, s)
  | .ret => some (.code .ret a, s)
  | .rangeFunc g ps assign body =>
    bif okOpd nt g then
      match ro, opd a g with
      | none, .func (.func f) first cap =>
        let s0 := newBlk s (.dfr true)
        let s1 := newBlk s0 (.loop ⟨.ready, none, fn, nt, a.tm, ps, assign, body, s.nx⟩)
        match rec (.call f (first.toList ++ [.func (.yield s0.nx) ⟨[]⟩ ⟨[]⟩] ++ cap.toList)) s1 with
        | some (.val _, s2) =>
          (loopAt s2 s0.nx).bind fun lr =>
            match lr.st, lr.jump with
            | .ready, none => some (.code .normal ⟨a.tm, ⟨.collected s.nx, ⟨[]⟩⟩ :: a.df⟩, ⟨s2.hp.set s0.nx (.loop { lr with st := .exhausted }), s2.nx⟩)
            | _, _ => none
        | _ => none
      | _, _ => none
    else none
  | _ => none

def step (rec : Rec) : Tk → St → Option (R × St)
  | .code ro fn nt c a, s => stepCode P xk orc rec ro fn nt c a s
  | .call f args, s =>
    match P.funcs[f]? with
    | some fn => match fn.body with
      | some c =>
        bif Nat.ble args.length fn.ntmps then
          match rec (.code none f fn.ntmps c ⟨initTm args 0 .lf, []⟩) s with
          | some (.code .normal a, s) | some (.code .ret a, s) =>
            match rec (.defers a.df) s with
            | some (_, s) => (resultsV P fn a s).bind fun v => some (.val v, s)
            | none => none
          | _ => none
        else none
      | none => none
    | none => none
  | .defers ds, s =>
    match ds with
    | [] => some (.val undef, s)
    | d :: ds =>
      match d.target with
      | .collected r =>
        match s.hp.get r with
        | some (.dfr true) => rec (.defers ds) ⟨s.hp.set r (.dfr false), s.nx⟩
        | _ => none
      | .fn (.func f) cap =>
        bif dorc f then rec (.defers ds) s
        else match P.funcs[f]? with
        | some fn => match fn.body with
          | some c =>
            bif Nat.ble (d.args.toList ++ cap.toList).length fn.ntmps then
              match rec (.code none f fn.ntmps c ⟨initTm (d.args.toList ++ cap.toList) 0 .lf, []⟩) s with
              | some (.code .normal a, s) | some (.code .ret a, s) =>
                match a.df with
                | [] => (resultsV P fn a s).bind fun _ => rec (.defers ds) s
                | _ :: _ => none
              | _ => none
            else none
          | none => none
        | none => none
      | _ => none
  | .round l args, s =>
    (loopAt s l).bind fun r =>
      bif Nat.beq r.params.size args.length then
        (setTm r.nt (r.params.toList.zip args) r.tmps).bind fun tm =>
        match rec (.code (some l) r.fn r.nt r.assign ⟨tm, []⟩) s with
        | some (.code .normal a, s) =>
          (loopAt s l).bind fun r1 =>
            match r1.st with
            | .ready =>
              match rec (.code (some l) r.fn r.nt r.body a) ⟨s.hp.set l (.loop { r1 with st := .busy }), s.nx⟩ with
              | some (.code .normal _, s) => (loopAt s l).bind fun r2 => some (.val (.bool true), ⟨s.hp.set l (.loop { r2 with st := .ready, jump := none }), s.nx⟩)
              | _ => none
            | _ => none
        | _ => none
      else none

def ev : Nat → Tk → St → Option (R × St)
  | 0, _, _ => none
  | n + 1, t, s => step P xk orc dorc (ev n) t s
end
end Go.Ev
end

namespace Go.Ev

/-! ### Tries -/
theorem Tr.get_lf {α : Type} (k : Nat) : (Tr.lf : Tr α).get k = none := rfl
theorem Tr.get_nd {α : Type} (v : Option α) (l r : Tr α) (k : Nat) : (Tr.nd v l r).get k = if k = 0 then v else if k % 2 = 1 then l.get (k / 2) else r.get (k / 2 - 1) := by
  show Bool.rec (motive := fun _ => Option α) (Bool.rec (motive := fun _ => Option α) (r.get (Nat.sub (Nat.div k 2) 1)) (l.get (Nat.div k 2)) (Nat.beq (Nat.mod k 2) 1)) v (Nat.beq k 0) = _
  cases h : Nat.beq k 0
  · rw [if_neg (Nat.ne_of_beq_eq_false h)]
    cases h2 : Nat.beq (Nat.mod k 2) 1
    · rw [if_neg (show ¬ k % 2 = 1 from Nat.ne_of_beq_eq_false h2)]; rfl
    · rw [if_pos (show k % 2 = 1 from Nat.eq_of_beq_eq_true h2)]; rfl
  · rw [if_pos (Nat.eq_of_beq_eq_true h)]
theorem Tr.one_succ {α : Type} (x : Option α) (n k : Nat) : Tr.one x (n + 1) k = if k = 0 then .nd x .lf .lf else if k % 2 = 1 then .nd none (Tr.one x n (k / 2)) .lf else .nd none .lf (Tr.one x n (k / 2 - 1)) := by
  show Bool.rec (motive := fun _ => Tr α) (Bool.rec (motive := fun _ => Tr α) (.nd none .lf (Tr.one x n (Nat.sub (Nat.div k 2) 1))) (.nd none (Tr.one x n (Nat.div k 2)) .lf) (Nat.beq (Nat.mod k 2) 1)) (.nd x .lf .lf) (Nat.beq k 0) = _
  cases h : Nat.beq k 0
  · rw [if_neg (Nat.ne_of_beq_eq_false h)]
    cases h2 : Nat.beq (Nat.mod k 2) 1
    · rw [if_neg (show ¬ k % 2 = 1 from Nat.ne_of_beq_eq_false h2)]; rfl
    · rw [if_pos (show k % 2 = 1 from Nat.eq_of_beq_eq_true h2)]; rfl
  · rw [if_pos (Nat.eq_of_beq_eq_true h)]
theorem Tr.put_nd {α : Type} (x : Option α) (v : Option α) (l r : Tr α) (k : Nat) : Tr.put x (.nd v l r) k = if k = 0 then .nd x l r else if k % 2 = 1 then .nd v (Tr.put x l (k / 2)) r else .nd v l (Tr.put x r (k / 2 - 1)) := by
  show Bool.rec (motive := fun _ => Tr α) (Bool.rec (motive := fun _ => Tr α) (.nd v l (Tr.put x r (Nat.sub (Nat.div k 2) 1))) (.nd v (Tr.put x l (Nat.div k 2)) r) (Nat.beq (Nat.mod k 2) 1)) (.nd x l r) (Nat.beq k 0) = _
  cases h : Nat.beq k 0
  · rw [if_neg (Nat.ne_of_beq_eq_false h)]
    cases h2 : Nat.beq (Nat.mod k 2) 1
    · rw [if_neg (show ¬ k % 2 = 1 from Nat.ne_of_beq_eq_false h2)]; rfl
    · rw [if_pos (show k % 2 = 1 from Nat.eq_of_beq_eq_true h2)]; rfl
  · rw [if_pos (Nat.eq_of_beq_eq_true h)]
theorem Tr.one_get {α : Type} (x : Option α) : ∀ (n k j : Nat), k < n → (Tr.one x n k).get j = if j = k then x else none
  | 0, k, j, h => by omega
  | n + 1, k, j, h => by
    rw [Tr.one_succ]
    by_cases hk : k = 0
    · subst hk
      rw [if_pos rfl, Tr.get_nd]
      by_cases hj : j = 0
      · subst hj; rfl
      · rw [if_neg hj, if_neg hj]; split <;> rfl
    · rw [if_neg hk]
      by_cases hk1 : k % 2 = 1
      · rw [if_pos hk1, Tr.get_nd]
        by_cases hj : j = 0
        · rw [if_pos hj, if_neg (by omega)]
        · rw [if_neg hj]
          by_cases hj1 : j % 2 = 1
          · rw [if_pos hj1, Tr.one_get x n _ _ (by omega)]
            by_cases hjk : j = k
            · subst hjk; rw [if_pos rfl, if_pos rfl]
            · rw [if_neg (by omega), if_neg hjk]
          · rw [if_neg hj1, if_neg (by rintro rfl; exact hj1 hk1)]; rfl
      · rw [if_neg hk1, Tr.get_nd]
        by_cases hj : j = 0
        · rw [if_pos hj, if_neg (by omega)]
        · rw [if_neg hj]
          by_cases hj1 : j % 2 = 1
          · rw [if_pos hj1, if_neg (by rintro rfl; exact hk1 hj1)]; rfl
          · rw [if_neg hj1, Tr.one_get x n _ _ (by omega)]
            by_cases hjk : j = k
            · subst hjk; rw [if_pos rfl, if_pos rfl]
            · rw [if_neg (by omega), if_neg hjk]
theorem Tr.put_get {α : Type} (x : Option α) : ∀ (t : Tr α) (k j : Nat), (Tr.put x t k).get j = if j = k then x else t.get j
  | .lf, k, j => by
    show (Tr.one x (k + 1) k).get j = _
    rw [Tr.one_get x _ _ _ (Nat.lt_succ_self k)]; rfl
  | .nd v l r, k, j => by
    rw [Tr.put_nd]
    by_cases hk : k = 0
    · subst hk
      rw [if_pos rfl, Tr.get_nd, Tr.get_nd]
      by_cases hj : j = 0
      · rw [if_pos hj, if_pos hj]
      · rw [if_neg hj, if_neg hj, if_neg hj]
    · rw [if_neg hk]
      by_cases hk1 : k % 2 = 1
      · rw [if_pos hk1, Tr.get_nd, Tr.get_nd]
        by_cases hj : j = 0
        · rw [if_pos hj, if_neg (by omega), if_pos hj]
        · rw [if_neg hj, if_neg hj]
          by_cases hj1 : j % 2 = 1
          · rw [if_pos hj1, if_pos hj1, Tr.put_get x l]
            by_cases hjk : j = k
            · subst hjk; rw [if_pos rfl, if_pos rfl]
            · rw [if_neg (by omega), if_neg hjk]
          · rw [if_neg hj1, if_neg hj1, if_neg (by rintro rfl; exact hj1 hk1)]
      · rw [if_neg hk1, Tr.get_nd, Tr.get_nd]
        by_cases hj : j = 0
        · rw [if_pos hj, if_neg (by omega), if_pos hj]
        · rw [if_neg hj, if_neg hj]
          by_cases hj1 : j % 2 = 1
          · rw [if_pos hj1, if_pos hj1, if_neg (by rintro rfl; exact hk1 hj1)]
          · rw [if_neg hj1, if_neg hj1, Tr.put_get x r]
            by_cases hjk : j = k
            · subst hjk; rw [if_pos rfl, if_pos rfl]
            · rw [if_neg (by omega), if_neg hjk]

theorem Tr.get_set {α : Type} (t : Tr α) (k : Nat) (x : α) (j : Nat) : (t.set k x).get j = if j = k then some x else t.get j :=
  Tr.put_get _ _ _ _
theorem Tr.get_del {α : Type} (t : Tr α) (k : Nat) (j : Nat) : (t.del k).get j = if j = k then none else t.get j :=
  Tr.put_get _ _ _ _

@[simp] theorem beq_dec (a b : Nat) : Nat.beq a b = decide (a = b) := by
  cases h : Nat.beq a b with
  | true => simp [Nat.eq_of_beq_eq_true h]
  | false => simp [Nat.ne_of_beq_eq_false h]
@[simp] theorem ble_dec (a b : Nat) : Nat.ble a b = decide (a ≤ b) := by
  cases h : Nat.ble a b with
  | true => simp [Nat.le_of_ble_eq_true h]
  | false =>
    have : ¬ a ≤ b := fun hle => by rw [Nat.ble_eq_true_of_le hle] at h; cases h
    simp [this]
@[simp] theorem blt_dec (a b : Nat) : Nat.blt a b = decide (a < b) := by
  unfold Nat.blt; rw [ble_dec]; rfl

/-! ### Values -/
structure Loc where
  blk : Nat
  sh : Nat
  csz : Nat

abbrev Ren := Nat → Option Loc
def Ren.le (μ ν : Ren) : Prop := ∀ i l, μ i = some l → ν i = some l
theorem Ren.le.refl (μ : Ren) : μ.le μ := fun _ _ h => h
theorem Ren.le.trans {μ ν ρ : Ren} (h : μ.le ν) (k : ν.le ρ) : μ.le ρ := fun i l e => k i l (h i l e)

mutual
inductive VR (μ : Ren) : Value → Value → Prop
  | atom {v : Value} (h : atom v = true) : VR μ v v
  | ptr {b o : Nat} {l : Loc} (h : μ b = some l) : VR μ (.pointer (some ⟨b, o, none⟩)) (.pointer (some ⟨l.blk, l.sh + o, none⟩))
  | slice {b o n c : Nat} {l : Loc} (h : μ b = some l) (hn : n ≤ c) (hc : c < unk) : VR μ (.slice (some ⟨b, o, none⟩) n c) (.slice (some ⟨l.blk, l.sh + o, none⟩) n c)
  | sliceU {b o n c es : Nat} {l : Loc} {a : Addr} (h : μ b = some l) (hn : n ≤ c) (ha : c ≠ 0 → a = ⟨l.blk, l.sh + o, none⟩) (hb : l.sh + o + c * es ≤ l.csz) :
      VR μ (.slice (some ⟨b, o, none⟩) n (unk + es)) (.slice (some a) n c)
  | map {r : Nat} {l : Loc} (h : μ r = some l) : VR μ (.map (some r)) (.map (some l.blk))
  | func {f : FuncId} {p c p' c' : List Value} (hp : VRs μ p p') (hc : VRs μ c c') : VR μ (.func (.func f) ⟨p⟩ ⟨c⟩) (.func (.func f) ⟨p'⟩ ⟨c'⟩)
  | yield {k : Nat} {l : Loc} (h : μ k = some l) : VR μ (.func (.yield k) ⟨[]⟩ ⟨[]⟩) (.func (.yield l.blk) ⟨[]⟩ ⟨[]⟩)
  | iface {t : TypeId} {v v' : Value} (h : VR μ v v') : VR μ (.iface t v) (.iface t v')
  | agg {p p' : List Value} (h : VRs μ p p') : VR μ (.agg ⟨p⟩) (.agg ⟨p'⟩)
  | tuple {p p' : List Value} (h : VRs μ p p') : VR μ (.tuple ⟨p⟩) (.tuple ⟨p'⟩)
inductive VRs (μ : Ren) : List Value → List Value → Prop
  | nil : VRs μ [] []
  | cons {v v' : Value} {l l' : List Value} (h : VR μ v v') (t : VRs μ l l') : VRs μ (v :: l) (v' :: l')
end

mutual
theorem VR.mono {μ ν : Ren} (hle : μ.le ν) {v v' : Value} : VR μ v v' → VR ν v v'
  | .atom h => .atom h
  | .ptr h => .ptr (hle _ _ h)
  | .slice h hn hc => .slice (hle _ _ h) hn hc
  | .sliceU h hn ha hb => .sliceU (hle _ _ h) hn ha hb
  | .map h => .map (hle _ _ h)
  | .func hp hc => .func (VRs.mono hle hp) (VRs.mono hle hc)
  | .yield h => .yield (hle _ _ h)
  | .iface h => .iface (VR.mono hle h)
  | .agg h => .agg (VRs.mono hle h)
  | .tuple h => .tuple (VRs.mono hle h)
theorem VRs.mono {μ ν : Ren} (hle : μ.le ν) {v v' : List Value} : VRs μ v v' → VRs ν v v'
  | .nil => .nil
  | .cons h t => .cons (VR.mono hle h) (VRs.mono hle t)
end

theorem VRs.length {μ : Ren} : ∀ {l l' : List Value}, VRs μ l l' → l'.length = l.length
  | _, _, .nil => rfl
  | _, _, .cons _ t => by simp [VRs.length t]
theorem VRs.append {μ : Ren} : ∀ {l l' k k' : List Value}, VRs μ l l' → VRs μ k k' → VRs μ (l ++ k) (l' ++ k')
  | _, _, _, _, .nil, hk => hk
  | _, _, _, _, .cons h t, hk => .cons h (VRs.append t hk)
theorem VRs.get {μ : Ren} : ∀ {l l' : List Value}, VRs μ l l' → ∀ (i : Nat) (v : Value), l[i]? = some v → ∃ v', l'[i]? = some v' ∧ VR μ v v'
  | _, _, .nil, i, v, h => by simp at h
  | _, _, .cons hv t, 0, v, h => by simp at h; subst h; exact ⟨_, rfl, hv⟩
  | _, _, .cons hv t, i + 1, v, h => by simpa using VRs.get t i v (by simpa using h)
theorem VRs.of_get {μ : Ren} : ∀ {l l' : List Value}, l.length = l'.length → (∀ (i : Nat) (v : Value), l[i]? = some v → ∃ v', l'[i]? = some v' ∧ VR μ v v') → VRs μ l l'
  | [], [], _, _ => .nil
  | [], _ :: _, h, _ => by simp at h
  | _ :: _, [], h, _ => by simp at h
  | v :: l, v' :: l', h, hg => by
    obtain ⟨u, hu, hr⟩ := hg 0 v rfl
    simp at hu; subst hu
    exact .cons hr (VRs.of_get (by simpa using h) fun i x hx => by simpa using hg (i + 1) x (by simpa using hx))
theorem VRs.drop {μ : Ren} : ∀ {l l' : List Value} (n : Nat), VRs μ l l' → VRs μ (l.drop n) (l'.drop n)
  | _, _, 0, h => h
  | _, _, _ + 1, .nil => .nil
  | _, _, n + 1, .cons _ t => VRs.drop n t
theorem VRs.take {μ : Ren} : ∀ {l l' : List Value} (n : Nat), VRs μ l l' → VRs μ (l.take n) (l'.take n)
  | _, _, 0, _ => .nil
  | _, _, _ + 1, .nil => .nil
  | _, _, n + 1, .cons h t => .cons h (VRs.take n t)

theorem VR.of_atom {μ : Ren} {v v' : Value} (ha : Ev.atom v = true) (h : VR μ v v') : v' = v := by
  cases h with
  | atom _ => rfl
  | _ => simp [Ev.atom] at ha
theorem VRs.of_atoms {μ : Ren} : ∀ {l l' : List Value}, l.all Ev.atom = true → VRs μ l l' → l' = l
  | _, _, _, .nil => rfl
  | _, _, h, .cons hv t => by
    simp at h
    rw [VR.of_atom h.1 hv, VRs.of_atoms (by simpa using h.2) t]
theorem VR.of_closed {μ : Ren} {v v' : Value} (ha : Ev.closed v = true) (h : VR μ v v') : v' = v := by
  cases h with
  | atom _ => rfl
  | iface h => rw [VR.of_atom (by simpa [closed] using ha) h]
  | agg h => rw [VRs.of_atoms (by simpa [closed] using ha) h]
  | tuple h => rw [VRs.of_atoms (by simpa [closed] using ha) h]
  | func hp hc =>
    cases hp with
    | nil => cases hc with
      | nil => rfl
      | cons _ _ => simp [closed, Ev.atom] at ha
    | cons _ _ => simp [closed, Ev.atom] at ha
  | _ => simp [closed, Ev.atom] at ha
theorem VRs.atoms (μ : Ren) : ∀ {l : List Value}, l.all Ev.atom = true → VRs μ l l
  | [], _ => .nil
  | v :: l, h => by simp at h; exact .cons (.atom h.1) (VRs.atoms μ (by simpa using h.2))
theorem VR.closed (μ : Ren) {v : Value} (h : Ev.closed v = true) : VR μ v v := by
  unfold Ev.closed at h
  split at h
  · exact .agg (VRs.atoms μ h)
  · exact .tuple (VRs.atoms μ h)
  · exact .iface (.atom h)
  · exact .func .nil .nil
  · exact .atom h
theorem VR.undef (μ : Ren) : VR μ undef undef := VR.closed μ rfl
theorem VR.cells {μ : Ren} {v v' : Value} (h : VR μ v v') : VRs μ v.cells.toList v'.cells.toList := by
  cases h with
  | agg h => exact h
  | atom h =>
    have e : v.cells.toList = [v] := by cases v <;> first | rfl | simp [Ev.atom] at h
    rw [e]
    exact .cons (.atom h) .nil
  | ptr h => exact .cons (.ptr h) .nil
  | slice h hn hc => exact .cons (.slice h hn hc) .nil
  | sliceU h a b c => exact .cons (.sliceU h a b c) .nil
  | map h => exact .cons (.map h) .nil
  | func a b => exact .cons (.func a b) .nil
  | yield h => exact .cons (.yield h) .nil
  | iface h => exact .cons (.iface h) .nil
  | tuple h => exact .cons (.tuple h) .nil
theorem VR.scalar {μ : Ren} {v v' : Value} (h : VR μ v v') : Ev.scalar v' = Ev.scalar v := by
  cases h <;> rfl
theorem VRs.scalars {μ : Ren} : ∀ {l l' : List Value}, VRs μ l l' → l'.all Ev.scalar = l.all Ev.scalar
  | _, _, .nil => rfl
  | _, _, .cons h t => by simp [VR.scalar h, VRs.scalars t]

/-! ### Lists of cells -/
theorem takeN_eq : ∀ (n : Nat) (vs l : List Value), takeN n vs = some l → l = vs.take n ∧ n ≤ vs.length
  | 0, _, _, h => by simp [takeN] at h; simp [h]
  | _ + 1, [], _, h => by simp [takeN] at h
  | n + 1, v :: vs, l, h => by
    simp only [takeN, Option.bind_eq_some_iff, Option.some.injEq] at h
    obtain ⟨k, hk, rfl⟩ := h
    obtain ⟨rfl, hl⟩ := takeN_eq n vs k hk
    simp [hl]
theorem takeAt_eq : ∀ (o n : Nat) (vs l : List Value), takeAt o n vs = some l → l = (vs.drop o).take n ∧ (n = 0 ∨ o + n ≤ vs.length) ∧ o ≤ vs.length
  | 0, n, vs, l, h => by
    have := takeN_eq n vs l (by simpa [takeAt] using h)
    simp [this.1, this.2]
  | _ + 1, _, [], _, h => by simp [takeAt] at h
  | o + 1, n, _ :: vs, l, h => by
    obtain ⟨h1, h2, h3⟩ := takeAt_eq o n vs l (by simpa [takeAt] using h)
    simp only [List.drop_succ_cons, List.length_cons]
    exact ⟨h1, by omega, by omega⟩
theorem takeAt_len {o n : Nat} {vs l : List Value} (h : takeAt o n vs = some l) : l.length = n ∧ o + n ≤ vs.length := by
  obtain ⟨rfl, h2, h3⟩ := takeAt_eq o n vs l h
  simp
  omega
theorem nth_eq : ∀ (n : Nat) (vs : List Value), nth n vs = vs[n]?
  | _, [] => by simp [nth]
  | 0, _ :: _ => rfl
  | n + 1, _ :: vs => by simp [nth, nth_eq n vs]
theorem overwrite_eq : ∀ (xs vs l : List Value), overwrite xs vs = some l → xs.length ≤ vs.length ∧ l = xs ++ vs.drop xs.length
  | [], vs, l, h => by simp [overwrite] at h; simp [h]
  | _ :: _, [], _, h => by simp [overwrite] at h
  | x :: xs, _ :: vs, l, h => by
    simp only [overwrite, Option.bind_eq_some_iff, Option.some.injEq] at h
    obtain ⟨k, hk, rfl⟩ := h
    obtain ⟨h1, rfl⟩ := overwrite_eq xs vs k hk
    simp [h1]
theorem overAt_eq : ∀ (o : Nat) (xs vs l : List Value), overAt o xs vs = some l → o + xs.length ≤ vs.length ∧ l = vs.take o ++ xs ++ vs.drop (o + xs.length)
  | 0, xs, vs, l, h => by
    obtain ⟨h1, rfl⟩ := overwrite_eq xs vs l (by simpa [overAt] using h)
    simp [h1]
  | _ + 1, _, [], _, h => by simp [overAt] at h
  | o + 1, xs, v :: vs, l, h => by
    simp only [overAt, Option.bind_eq_some_iff, Option.some.injEq] at h
    obtain ⟨k, hk, rfl⟩ := h
    obtain ⟨h1, rfl⟩ := overAt_eq o xs vs k hk
    refine ⟨by simp; omega, ?_⟩
    simp [show o + 1 + xs.length = (o + xs.length) + 1 by omega]

end Go.Ev

namespace Go.Ev
variable {P : Program}

/-! ### Abstract memory and the machine's -/
inductive EntsR (μ : Ren) : List MapEntry → List MapEntry → Prop
  | nil : EntsR μ [] []
  | cons {e e' : MapEntry} {l l' : List MapEntry} (hk : VR μ e.key e'.key) (hv : VR μ e.val e'.val) (hb : e.born = e'.born) (t : EntsR μ l l') : EntsR μ (e :: l) (e' :: l')
theorem EntsR.mono {μ ν : Ren} (hle : μ.le ν) : ∀ {l l' : List MapEntry}, EntsR μ l l' → EntsR ν l l'
  | _, _, .nil => .nil
  | _, _, .cons hk hv hb t => .cons (hk.mono hle) (hv.mono hle) hb (t.mono hle)
theorem EntsR.length {μ : Ren} : ∀ {l l' : List MapEntry}, EntsR μ l l' → l'.length = l.length
  | _, _, .nil => rfl
  | _, _, .cons _ _ _ t => by simp [t.length]

/-- The temporaries. -/
structure TmR (μ : Ren) (nt : Nat) (tm : Tr Value) (tmps : Array Value) : Prop where
  size : nt ≤ tmps.size
  at_ : ∀ t, t < nt → VR μ ((tm.get t).getD undef) (tmps.getD t undef)
theorem TmR.mono {μ ν : Ren} (hle : μ.le ν) {nt : Nat} {tm : Tr Value} {tmps : Array Value} (h : TmR μ nt tm tmps) : TmR ν nt tm tmps :=
  ⟨h.size, fun t ht => (h.at_ t ht).mono hle⟩

def BlkR (μ : Ren) (l : Loc) (o : Option Obj) : Blk → Prop
  | .cells vs e fz gr mk => ∃ (c : Array Value) (lo hi : Nat), o = some (.cells c e (lo, hi)) ∧ c.size = l.csz ∧ (gr = false → l.sh = 0 ∧ l.csz = vs.length) ∧ l.sh + vs.length ≤ l.csz ∧
      (∀ i v, vs[i]? = some v → ∃ v', c[l.sh + i]? = some v' ∧ VR μ v v') ∧ (lo = hi ∨ hi ≤ l.sh + fz ∨ (mk = true ∧ l.csz ≤ lo)) ∧ (l.sh = 0 → fz = 0 → mk = false → lo = 0 ∧ hi = 0)
  | .map es clk => ∃ es', o = some (.map es' clk) ∧ EntsR μ es es'.toList
  | .miter m since seen stepped => ∃ lm, μ m = some lm ∧ o = some (.mapIter (some lm.blk) since ⟨seen⟩ stepped) ∧ l.sh = 0
  | .loop r => ∃ L, o = some (.loop L) ∧ L.state = r.st ∧ L.pending = r.jump ∧ TmR μ r.nt r.tmps L.tmps ∧ L.params = r.params ∧ L.assign = r.assign ∧ L.body = r.body
  | .dfr true => o = some (.deferred (some []))
  | .dfr false => o = some (.deferred none)
theorem BlkR.mono {μ ν : Ren} (hle : μ.le ν) {l : Loc} {o : Option Obj} {b : Blk} (h : BlkR μ l o b) : BlkR ν l o b := by
  cases b with
  | cells vs e fz gr mk =>
    obtain ⟨c, lo, hi, h1, h2, h3, h4, h5, h6⟩ := h
    exact ⟨c, lo, hi, h1, h2, h3, h4, fun i v hv => let ⟨v', a, b⟩ := h5 i v hv; ⟨v', a, b.mono hle⟩, h6⟩
  | map es clk => obtain ⟨es', h1, h2⟩ := h; exact ⟨es', h1, h2.mono hle⟩
  | miter m a b c => obtain ⟨lm, h1, h2⟩ := h; exact ⟨lm, hle _ _ h1, h2⟩
  | loop r => obtain ⟨L, h1, h2, h3, h5, h6⟩ := h; exact ⟨L, h1, h2, h3, h5.mono hle, h6⟩
  | dfr b => cases b <;> exact h
theorem BlkR.some {μ : Ren} {l : Loc} {o : Option Obj} {b : Blk} (h : BlkR μ l o b) : ∃ x, o = some x := by
  cases b with
  | cells vs e fz gr mk => obtain ⟨c, lo, hi, h1, _⟩ := h; exact ⟨_, h1⟩
  | map es clk => obtain ⟨es', h1, _⟩ := h; exact ⟨_, h1⟩
  | miter m a b c => obtain ⟨lm, _, h2, _⟩ := h; exact ⟨_, h2⟩
  | loop r => obtain ⟨L, h1, _⟩ := h; exact ⟨_, h1⟩
  | dfr b => cases b <;> exact ⟨_, h⟩

structure Sim (μ : Ren) (s : St) (w : World) : Prop where
  live : ∀ i b, s.hp.get i = some b → ∃ l, μ i = some l ∧ BlkR μ l (w.heap[l.blk]?) b
  inj : ∀ i j b c li lj, s.hp.get i = some b → s.hp.get j = some c → μ i = some li → μ j = some lj → li.blk = lj.blk → i = j
  nxt : ∀ i, s.nx ≤ i → μ i = none
  glob : ∀ g, g < base → ∃ l, μ g = some l ∧ l.blk = g ∧ l.sh = 0
  nxb : base ≤ s.nx

theorem Sim.lt {μ : Ren} {s : St} {w : World} (h : Sim μ s w) {i : Nat} {b : Blk} {l : Loc} (hi : s.hp.get i = some b) (hl : μ i = some l) : l.blk < w.heap.size := by
  obtain ⟨l', h1, h2⟩ := h.live i b hi
  obtain rfl : l' = l := by simpa [h1] using hl
  obtain ⟨x, hx⟩ := h2.some
  rcases Nat.lt_or_ge l'.blk w.heap.size with h | h
  · exact h
  · simp [Array.getElem?_eq_none h] at hx
theorem Sim.blk {μ : Ren} {s : St} {w : World} (h : Sim μ s w) {i : Nat} {b : Blk} {l : Loc} (hi : s.hp.get i = some b) (hl : μ i = some l) : BlkR μ l (w.heap[l.blk]?) b := by
  obtain ⟨l', h1, h2⟩ := h.live i b hi
  obtain rfl : l' = l := by simpa [h1] using hl
  exact h2

/-- What a piece of the run leaves: memory that it did not reach is as it was. -/
structure Stp (μ : Ren) (s : St) (w : World) (ν : Ren) (t : St) (v : World) : Prop where
  le : μ.le ν
  sim : Sim ν t v
  nx : s.nx ≤ t.nx
  size : w.heap.size ≤ v.heap.size
  keep : ∀ b, b < w.heap.size → (∀ i x l, s.hp.get i = some x → μ i = some l → l.blk ≠ b) → v.heap[b]? = w.heap[b]?
  foot : ∀ i x l, t.hp.get i = some x → ν i = some l → w.heap.size ≤ l.blk ∨ ∃ j y lj, s.hp.get j = some y ∧ μ j = some lj ∧ lj.blk = l.blk
  fresh : ∀ i l, μ i = none → ν i = some l → s.nx ≤ i
  os : v.os = w.os
  tape : v.tape = w.tape
  out : v.output = w.output

theorem Stp.refl {μ : Ren} {s : St} {w : World} (h : Sim μ s w) : Stp μ s w μ s w :=
  ⟨.refl μ, h, Nat.le_refl _, Nat.le_refl _, fun _ _ _ => rfl, fun i x l hx hl => .inr ⟨i, x, l, hx, hl, rfl⟩, fun i l h1 h2 => by simp [h1] at h2, rfl, rfl, rfl⟩
theorem Stp.trans {μ ν ρ : Ren} {s t u : St} {w v z : World} (h : Stp μ s w ν t v) (k : Stp ν t v ρ u z) : Stp μ s w ρ u z where
  le := h.le.trans k.le
  sim := k.sim
  nx := Nat.le_trans h.nx k.nx
  size := Nat.le_trans h.size k.size
  keep := fun b hb hn => by
    rw [k.keep b (Nat.lt_of_lt_of_le hb h.size) fun i x l hx hl he => ?_, h.keep b hb hn]
    rcases h.foot i x l hx hl with h' | ⟨j, y, lj, h1, h2, h3⟩
    · omega
    · exact hn j y lj h1 h2 (h3.trans he)
  foot := fun i x l hx hl => by
    rcases k.foot i x l hx hl with h' | ⟨j, y, lj, h1, h2, h3⟩
    · exact .inl (Nat.le_trans h.size h')
    · rcases h.foot j y lj h1 h2 with h' | ⟨a, b, c, h4, h5, h6⟩
      · exact .inl (h3 ▸ h')
      · exact .inr ⟨a, b, c, h4, h5, h6.trans h3⟩
  fresh := fun i l h1 h2 => by
    cases hν : ν i with
    | none => exact Nat.le_trans h.nx (k.fresh i l hν h2)
    | some l' => exact h.fresh i l' h1 hν
  os := k.os.trans h.os
  tape := k.tape.trans h.tape
  out := k.out.trans h.out

/-- The world v is w but for block b, which is o. -/
structure Upd (w v : World) (b : Nat) (o : Obj) : Prop where
  at_ : v.heap[b]? = some o
  keep : ∀ c, c ≠ b → v.heap[c]? = w.heap[c]?
  size : v.heap.size = w.heap.size
  os : v.os = w.os
  tape : v.tape = w.tape
  out : v.output = w.output

theorem Stp.upd {μ : Ren} {s : St} {w v : World} (h : Sim μ s w) {i : Nat} {b b' : Blk} {l : Loc} {o : Obj} (hi : s.hp.get i = some b) (hl : μ i = some l)
    (hu : Upd w v l.blk o) (hb : BlkR μ l (some o) b') : Stp μ s w μ ⟨s.hp.set i b', s.nx⟩ v where
  le := .refl μ
  sim := by
    refine ⟨fun j x hj => ?_, fun j k x y lj lk hj hk hlj hlk he => ?_, h.nxt, h.glob, h.nxb⟩
    · simp only [Tr.get_set] at hj
      by_cases hji : j = i
      · subst hji; simp at hj; subst hj
        exact ⟨l, hl, by rw [hu.at_]; exact hb⟩
      · simp [hji] at hj
        obtain ⟨lj, h1, h2⟩ := h.live j x hj
        refine ⟨lj, h1, ?_⟩
        rw [hu.keep _ fun he => hji (h.inj j i x b lj l hj hi h1 hl he)]
        exact h2
    · simp only [Tr.get_set] at hj hk
      have hj' : ∃ x', s.hp.get j = some x' := by
        by_cases hji : j = i
        · exact ⟨b, hji ▸ hi⟩
        · simp [hji] at hj; exact ⟨x, hj⟩
      have hk' : ∃ x', s.hp.get k = some x' := by
        by_cases hki : k = i
        · exact ⟨b, hki ▸ hi⟩
        · simp [hki] at hk; exact ⟨y, hk⟩
      obtain ⟨x', hx'⟩ := hj'
      obtain ⟨y', hy'⟩ := hk'
      exact h.inj j k x' y' lj lk hx' hy' hlj hlk he
  nx := Nat.le_refl _
  size := by rw [hu.size]; exact Nat.le_refl _
  keep := fun c hc hn => hu.keep c fun he => hn i b l hi hl he.symm
  foot := fun j x lj hx hlj => by
    simp only [Tr.get_set] at hx
    by_cases hji : j = i
    · subst hji; exact .inr ⟨j, b, lj, hi, hlj, rfl⟩
    · simp [hji] at hx; exact .inr ⟨j, x, lj, hx, hlj, rfl⟩
  fresh := fun i l h1 h2 => by simp [h1] at h2
  os := hu.os
  tape := hu.tape
  out := hu.out

/-- The same memory, whatever has been drawn. -/
theorem Stp.same {μ : Ren} {s : St} {w v : World} (h : Sim μ s w) (hh : v.heap = w.heap) (ho : v.os = w.os) (ht : v.tape = w.tape) (hp : v.output = w.output) : Stp μ s w μ s v where
  le := .refl μ
  sim := ⟨fun i b hi => by rw [hh]; exact h.live i b hi, h.inj, h.nxt, h.glob, h.nxb⟩
  nx := Nat.le_refl _
  size := by rw [hh]; exact Nat.le_refl _
  keep := fun b _ _ => by rw [hh]
  foot := fun i x l hx hl => .inr ⟨i, x, l, hx, hl, rfl⟩
  fresh := fun i l h1 h2 => by simp [h1] at h2
  os := ho
  tape := ht
  out := hp

def Ren.add (μ : Ren) (i : Nat) (l : Loc) : Ren := fun j => if j = i then some l else μ j
theorem Ren.le_add {μ : Ren} {i : Nat} (h : μ i = none) (l : Loc) : μ.le (μ.add i l) := fun j k hj => by
  unfold Ren.add
  by_cases he : j = i
  · subst he; simp [h] at hj
  · simp [he, hj]
theorem Ren.add_self (μ : Ren) (i : Nat) (l : Loc) : μ.add i l i = some l := by simp [Ren.add]
theorem Ren.add_ne (μ : Ren) {i j : Nat} (l : Loc) (h : j ≠ i) : μ.add i l j = μ j := by simp [Ren.add, h]

theorem heap_push (w : World) (o : Obj) (b : Nat) : (w.heap.push o)[b]? = if b = w.heap.size then some o else w.heap[b]? := Array.getElem?_push ..

/-- A new block. -/
theorem Stp.new {μ : Ren} {s : St} {w v : World} (h : Sim μ s w) {o : Obj} {b : Blk} (csz : Nat) (hh : v.heap = w.heap.push o) (ho : v.os = w.os) (ht : v.tape = w.tape) (hp : v.output = w.output)
    (hb : BlkR (μ.add s.nx ⟨w.heap.size, 0, csz⟩) ⟨w.heap.size, 0, csz⟩ (some o) b) : Stp μ s w (μ.add s.nx ⟨w.heap.size, 0, csz⟩) (newBlk s b) v where
  le := Ren.le_add (h.nxt _ (Nat.le_refl _)) _
  sim := by
    have hle := Ren.le_add (h.nxt _ (Nat.le_refl s.nx)) (⟨w.heap.size, 0, csz⟩ : Loc)
    refine ⟨fun j x hj => ?_, fun j k x y lj lk hj hk hlj hlk he => ?_, fun j hj => ?_, fun g hg => ?_, Nat.le_succ_of_le h.nxb⟩
    · simp only [newBlk, Tr.get_set] at hj
      by_cases hjn : j = s.nx
      · subst hjn; simp at hj; subst hj
        refine ⟨_, Ren.add_self .., ?_⟩
        rw [hh, heap_push]; simpa using hb
      · simp [hjn] at hj
        obtain ⟨lj, h1, h2⟩ := h.live j x hj
        have hlt := h.lt hj h1
        refine ⟨lj, hle _ _ h1, ?_⟩
        rw [hh, heap_push, if_neg (by omega)]
        exact h2.mono hle
    · simp only [newBlk, Tr.get_set] at hj hk
      by_cases hjn : j = s.nx <;> by_cases hkn : k = s.nx
      · rw [hjn, hkn]
      · subst hjn
        rw [Ren.add_self] at hlj; rw [Ren.add_ne _ _ hkn] at hlk
        simp [hkn] at hk
        have := h.lt hk hlk
        obtain rfl := Option.some.inj hlj
        simp at he; omega
      · subst hkn
        rw [Ren.add_self] at hlk; rw [Ren.add_ne _ _ hjn] at hlj
        simp [hjn] at hj
        have := h.lt hj hlj
        obtain rfl := Option.some.inj hlk
        simp at he; omega
      · simp [hjn] at hj; simp [hkn] at hk
        rw [Ren.add_ne _ _ hjn] at hlj; rw [Ren.add_ne _ _ hkn] at hlk
        exact h.inj j k x y lj lk hj hk hlj hlk he
    · have hj' : s.nx + 1 ≤ j := hj
      rw [Ren.add_ne _ _ (by omega)]; exact h.nxt j (by omega)
    · obtain ⟨l, h1, h2⟩ := h.glob g hg
      exact ⟨l, hle _ _ h1, h2⟩
  nx := Nat.le_succ _
  size := by rw [hh]; simp
  keep := fun c hc _ => by rw [hh, heap_push, if_neg (by omega)]
  foot := fun i x l hx hl => by
    by_cases hi : i = s.nx
    · subst hi; rw [Ren.add_self] at hl; obtain rfl := Option.some.inj hl; exact .inl (Nat.le_refl _)
    · simp only [newBlk, Tr.get_set] at hx
      simp [hi] at hx
      rw [Ren.add_ne _ _ hi] at hl
      exact .inr ⟨i, x, l, hx, hl, rfl⟩
  fresh := fun i l h1 h2 => by
    by_cases hi : i = s.nx
    · rw [hi]; exact Nat.le_refl _
    · rw [Ren.add_ne _ _ hi] at h2; simp [h1] at h2
  os := ho
  tape := ht
  out := hp

/-- A block less in the abstract memory. -/
theorem Stp.del {μ : Ren} {s : St} {w : World} (h : Sim μ s w) (i : Nat) : Stp μ s w μ ⟨s.hp.del i, s.nx⟩ w where
  le := .refl μ
  sim := by
    have hg : ∀ j x, (s.hp.del i).get j = some x → s.hp.get j = some x := fun j x hj => by
      rw [Tr.get_del] at hj
      by_cases he : j = i <;> simp [he] at hj
      exact hj
    exact ⟨fun j x hj => h.live j x (hg j x hj), fun j k x y lj lk hj hk => h.inj j k x y lj lk (hg j x hj) (hg k y hk), h.nxt, h.glob, h.nxb⟩
  nx := Nat.le_refl _
  size := Nat.le_refl _
  keep := fun _ _ _ => rfl
  foot := fun j x l hx hl => by
    have hx : (s.hp.del i).get j = some x := hx
    rw [Tr.get_del] at hx
    by_cases he : j = i
    · simp [he] at hx
    · simp [he] at hx; exact .inr ⟨j, x, l, hx, hl, rfl⟩
  fresh := fun i l h1 h2 => by simp [h1] at h2
  os := rfl
  tape := rfl
  out := rfl

/-- A block known under a new number: it was block i's; its memory is turned. -/
theorem Stp.take {μ : Ren} {s : St} {w v : World} (h : Sim μ s w) {i : Nat} {b b' : Blk} {l l' : Loc} {o : Obj} (hi : s.hp.get i = some b) (hl : μ i = some l) (hl' : l'.blk = l.blk)
    (hu : Upd w v l.blk o) (hb : BlkR (μ.add s.nx l') l' (some o) b') : Stp μ s w (μ.add s.nx l') (newBlk ⟨s.hp.del i, s.nx⟩ b') v where
  le := Ren.le_add (h.nxt _ (Nat.le_refl _)) _
  sim := by
    have hle := Ren.le_add (h.nxt _ (Nat.le_refl s.nx)) l'
    have hg : ∀ j x, (newBlk ⟨s.hp.del i, s.nx⟩ b').hp.get j = some x → (j = s.nx ∧ x = b') ∨ (j ≠ s.nx ∧ j ≠ i ∧ s.hp.get j = some x) := fun j x hj => by
      simp only [newBlk, Tr.get_set, Tr.get_del] at hj
      by_cases h1 : j = s.nx
      · simp [h1] at hj; exact .inl ⟨h1, hj.symm⟩
      · by_cases h2 : j = i
        · simp [h1, h2] at hj
          exact absurd (h2.trans hj.1) h1
        · simp [h1, h2] at hj; exact .inr ⟨h1, h2, hj⟩
    refine ⟨fun j x hj => ?_, fun j k x y lj lk hj hk hlj hlk he => ?_, fun j hj => ?_, fun g hg => ?_, Nat.le_succ_of_le h.nxb⟩
    · rcases hg j x hj with ⟨rfl, rfl⟩ | ⟨h1, h2, h3⟩
      · exact ⟨l', Ren.add_self .., by rw [hl', hu.at_]; exact hb⟩
      · obtain ⟨lj, h4, h5⟩ := h.live j x h3
        refine ⟨lj, hle _ _ h4, ?_⟩
        rw [hu.keep _ fun he => h2 (h.inj j i x b lj l h3 hi h4 hl he)]
        exact h5.mono hle
    · rcases hg j x hj with ⟨rfl, rfl⟩ | ⟨h1, h2, h3⟩ <;> rcases hg k y hk with ⟨rfl, rfl⟩ | ⟨h4, h5, h6⟩
      · rfl
      · rw [Ren.add_self] at hlj; rw [Ren.add_ne _ _ h4] at hlk
        obtain rfl := Option.some.inj hlj
        exact absurd (h.inj k i y b lk l h6 hi hlk hl (by rw [← he, hl'])) h5
      · rw [Ren.add_self] at hlk; rw [Ren.add_ne _ _ h1] at hlj
        obtain rfl := Option.some.inj hlk
        exact absurd (h.inj j i x b lj l h3 hi hlj hl (by rw [he, hl'])) h2
      · rw [Ren.add_ne _ _ h1] at hlj; rw [Ren.add_ne _ _ h4] at hlk
        exact h.inj j k x y lj lk h3 h6 hlj hlk he
    · have hj' : s.nx + 1 ≤ j := hj
      rw [Ren.add_ne _ _ (by omega)]; exact h.nxt j (by omega)
    · obtain ⟨l, h1, h2⟩ := h.glob g hg
      exact ⟨l, hle _ _ h1, h2⟩
  nx := Nat.le_succ _
  size := by rw [hu.size]; exact Nat.le_refl _
  keep := fun c hc hn => hu.keep c fun he => hn i b l hi hl he.symm
  foot := fun j x lj hx hlj => by
    simp only [newBlk, Tr.get_set, Tr.get_del] at hx
    by_cases h1 : j = s.nx
    · subst h1; rw [Ren.add_self] at hlj; obtain rfl := Option.some.inj hlj; exact .inr ⟨i, b, l, hi, hl, hl'.symm⟩
    · rw [Ren.add_ne _ _ h1] at hlj
      by_cases h2 : j = i
      · exact .inr ⟨i, b, l, hi, hl, by rw [h2, hl] at hlj; rw [Option.some.inj hlj]⟩
      · simp [h1, h2] at hx; exact .inr ⟨j, x, lj, hx, hlj, rfl⟩
  fresh := fun j lj h1 h2 => by
    by_cases hj : j = s.nx
    · rw [hj]; exact Nat.le_refl _
    · rw [Ren.add_ne _ _ hj] at h2; simp [h1] at h2
  os := hu.os
  tape := hu.tape
  out := hu.out

/-! ### Loads and stores -/
theorem cell_of {w : World} {b o : Nat} {c : Array Value} {e : TypeId} {f : Nat × Nat} (h : w.heap[b]? = some (.cells c e f)) : w.cell? ⟨b, o, none⟩ = c[o]? := by
  simp [World.cell?, h]
theorem frozen_of {w : World} {b o : Nat} {c : Array Value} {e : TypeId} {lo hi : Nat} (h : w.heap[b]? = some (.cells c e (lo, hi))) : w.frozen? ⟨b, o, none⟩ = (decide (lo ≤ o) && decide (o < hi)) := by
  simp [World.frozen?, h]
theorem shape_of {w : World} {b : Nat} {c : Array Value} {e : TypeId} {f : Nat × Nat} (h : w.heap[b]? = some (.cells c e f)) : w.shape? b = some (e, c.size) := by
  simp [World.shape?, h]

theorem add_none (b o n : Nat) : (⟨b, o, none⟩ : Addr).add n = ⟨b, o + n, none⟩ := by
  unfold Addr.add
  by_cases h : n = 0 <;> simp [h]

theorem run_load {w : World} {a : Addr} {v : Value} (h : w.cell? a = some v) : (load a).run P w = .ok v w := by
  simp [load, Sem.run, h]

theorem run_loadCellsFrom {w : World} (b o : Nat) : ∀ (l : List Value) (i : Nat) (acc : Array Value), (∀ j v, l[j]? = some v → w.cell? ⟨b, o + (i + j), none⟩ = some v) →
    (loadCellsFrom ⟨b, o, none⟩ i l.length acc).run P w = .ok (acc ++ l.toArray) w
  | [], i, acc, _ => by simp [loadCellsFrom, pure, Sem.run]
  | v :: l, i, acc, h => by
    have h0 : w.cell? (Addr.add ⟨b, o, none⟩ i) = some v := by rw [add_none]; simpa using h 0 v rfl
    simp only [List.length_cons, loadCellsFrom, Sem.run_bind, run_load h0, Result.andThen]
    rw [run_loadCellsFrom b o l (i + 1) (acc.push v) fun j u hj => by
      have := h (j + 1) u (by simpa using hj)
      rw [show o + (i + 1 + j) = o + (i + (j + 1)) by omega]; exact this]
    simp

theorem run_loadCells {w : World} {b o : Nat} {l : List Value} (h : ∀ j v, l[j]? = some v → w.cell? ⟨b, o + j, none⟩ = some v) :
    (loadCells ⟨b, o, none⟩ l.length).run P w = .ok ⟨l⟩ w := by
  unfold loadCells
  rw [run_loadCellsFrom b o l 0 #[] (fun j v hj => by simpa using h j v hj)]
  simp

end Go.Ev

namespace Go.Ev
variable {P : Program}

theorem scalar_store {v : Value} (h : scalar v = true) {α : Type} (a : Addr) (k : Sem α) (w : World) {c : Value} (hc : w.cell? a = some c) (hf : w.frozen? a = false) :
    (Sem.store .plain a v k).run P w = k.run P (w.setCell a v) := by
  cases v <;> first | (simp [scalar] at h; done) | simp [Sem.run, hc, hf]

def overC (c : Array Value) (o : Nat) : List Value → Array Value
  | [] => c
  | v :: vs => overC (c.setIfInBounds o v) (o + 1) vs
theorem overC_size (c : Array Value) : ∀ (vs : List Value) (o : Nat), (overC c o vs).size = c.size
  | [], _ => rfl
  | _ :: vs, o => by simp [overC, overC_size _ vs]
theorem overC_get (c : Array Value) : ∀ (vs : List Value) (o i : Nat), o + vs.length ≤ c.size → (overC c o vs)[i]? = if o ≤ i ∧ i < o + vs.length then vs[i - o]? else c[i]?
  | [], o, i, _ => by simp [overC]; omega
  | v :: vs, o, i, h => by
    simp only [List.length_cons] at h
    rw [overC, overC_get _ vs (o + 1) i (by simp; omega)]
    by_cases h1 : o + 1 ≤ i ∧ i < o + 1 + vs.length
    · rw [if_pos h1, if_pos (by simp; omega)]
      rw [show i - o = (i - (o + 1)) + 1 by omega]; simp
    · rw [if_neg h1]
      by_cases h2 : i = o
      · subst h2
        rw [if_pos (by simp)]
        simp [Array.getElem?_setIfInBounds]; omega
      · rw [if_neg (by simp; omega), Array.getElem?_setIfInBounds_ne (Ne.symm h2)]

theorem setCell_upd {w : World} {b o : Nat} {c : Array Value} {e : TypeId} {f : Nat × Nat} (h : w.heap[b]? = some (.cells c e f)) (v : Value) :
    Upd w (w.setCell ⟨b, o, none⟩ v) b (.cells (c.setIfInBounds o v) e f) where
  at_ := by simp [World.setCell, Array.getElem?_modify, h]
  keep := fun d hd => by simp only [World.setCell, Array.getElem?_modify]; rw [if_neg (Ne.symm hd)]
  size := by simp [World.setCell]
  os := rfl
  tape := rfl
  out := rfl
theorem Upd.trans {w v u : World} {b : Nat} {o p : Obj} (h : Upd w v b o) (k : Upd v u b p) : Upd w u b p :=
  ⟨k.at_, fun c hc => (k.keep c hc).trans (h.keep c hc), k.size.trans h.size, k.os.trans h.os, k.tape.trans h.tape, k.out.trans h.out⟩
theorem Upd.refl {w : World} {b : Nat} {o : Obj} (h : w.heap[b]? = some o) : Upd w w b o := ⟨h, fun _ _ => rfl, rfl, rfl, rfl, rfl⟩

theorem storeCells_cons (a : Addr) (v : Value) (vs : List Value) (i : Nat) : Go.storeCells a (v :: vs) i = (do store (a.add i) v; Go.storeCells a vs (i + 1)) := rfl

theorem run_storeCells (e : TypeId) (lo hi b : Nat) : ∀ (xs : List Value) (i o : Nat) (c : Array Value) (w : World), w.heap[b]? = some (.cells c e (lo, hi)) → xs.all scalar = true → o + i + xs.length ≤ c.size →
    (∀ j, o + i ≤ j → j < c.size → ¬ (lo ≤ j ∧ j < hi)) →
    ∃ v, (Go.storeCells ⟨b, o, none⟩ xs i).run P w = .ok () v ∧ Upd w v b (.cells (overC c (o + i) xs) e (lo, hi))
  | [], i, o, c, w, h, _, _, _ => ⟨w, by simp [Go.storeCells, pure, Sem.run], .refl h⟩
  | x :: xs, i, o, c, w, h, hs, hl, hf => by
    simp only [List.length_cons] at hl
    simp only [List.all_cons, Bool.and_eq_true] at hs
    have hc : w.cell? ⟨b, o + i, none⟩ = some c[o + i] := by rw [cell_of h]; exact Array.getElem?_eq_getElem (by omega)
    have hfr : w.frozen? ⟨b, o + i, none⟩ = false := by
      rw [frozen_of h]; have := hf (o + i) (Nat.le_refl _) (by omega); simp; omega
    have hu := setCell_upd (o := o + i) h x
    obtain ⟨v, hv, hu2⟩ := run_storeCells e lo hi b xs (i + 1) o (c.setIfInBounds (o + i) x) (w.setCell ⟨b, o + i, none⟩ x) hu.at_ hs.2 (by rw [Array.size_setIfInBounds]; omega) (fun j h1 h2 => hf j (by omega) (by simpa using h2))
    refine ⟨v, ?_, hu.trans (by rw [overC]; exact hu2)⟩
    rw [Ev.storeCells_cons, add_none]
    simp only [Sem.run_bind, store, scalar_store hs.1 _ _ _ hc hfr, Sem.run, Result.andThen]
    exact hv
/-! ### Pieces of the model that look at no memory -/
theorem pureRun_sound {α : Type} : ∀ (t : Sem α) (a : α), pureRun P t = some a → ∀ w, t.run P w = .ok a w := by
  intro t
  induction t with
  | pure b => intro a h w; simp [pureRun] at h; simp [Sem.run, h]
  | program k ih => intro a h w; simp only [Sem.run]; exact ih P a (by simpa [pureRun] using h) w
  | mark m k ih => intro a h w; simp only [Sem.run]; exact ih a (by simpa [pureRun] using h) w
  | _ => intro a h; simp [pureRun] at h

theorem run_und {t : TypeId} {d : TypeDesc} (h : P.underlying t = some d) (w : World) : (underlying t).run P w = .ok d w := by
  simp [underlying, program, Sem.run_bind, Sem.run, Result.andThen, h, pure]
theorem run_info {t : TypeId} {i : TypeInfo} (h : P.info? t = some i) (w : World) : (typeInfo t).run P w = .ok i w := by
  simp [typeInfo, program, Sem.run_bind, Sem.run, Result.andThen, h, pure]
theorem run_size {t : TypeId} {n : Nat} (h : szOf P t = some n) (w : World) : (sizeOf t).run P w = .ok n w := by
  simp only [szOf, Option.bind_eq_some_iff, Option.some.injEq] at h
  obtain ⟨i, hi, rfl⟩ := h
  simp [sizeOf, Sem.run_bind, run_info hi, Result.andThen, Sem.run, pure]
theorem run_zero {t : TypeId} {z : Value} (h : zero P t = some z) (w : World) : (zeroValue t).run P w = .ok z w := by
  simp only [zero, Option.bind_eq_some_iff] at h
  obtain ⟨i, hi, hz⟩ := h
  simp [zeroValue, Sem.run_bind, run_info hi, Result.andThen, hz, Sem.run, pure]
theorem zeroC_eq {t : TypeId} {z : Value} (h : zeroC P t = some z) : zero P t = some z ∧ closed z = true := by
  unfold zeroC at h
  split at h
  · rename_i z' hz
    cases hc : closed z' <;> simp [hc] at h
    subst h; exact ⟨hz, hc⟩
  · cases h
theorem run_agg {t : TypeId} {r : Option Nat} (h : aggN P t = some r) (w : World) :
    (isAgg t).run P w = .ok r.isSome w ∧ (∀ n, r = some n → szOf P t = some n) := by
  unfold aggN at h
  split at h
  · rename_i fs hd
    simp only [Option.bind_eq_some_iff, Option.some.injEq] at h
    obtain ⟨n, hn, rfl⟩ := h
    exact ⟨by simp [isAgg, Sem.run_bind, run_und hd, Result.andThen, Sem.run, pure], fun m hm => by simp at hm; rw [← hm]; exact hn⟩
  · rename_i k e hd
    simp only [Option.bind_eq_some_iff, Option.some.injEq] at h
    obtain ⟨n, hn, rfl⟩ := h
    exact ⟨by simp [isAgg, Sem.run_bind, run_und hd, Result.andThen, Sem.run, pure], fun m hm => by simp at hm; rw [← hm]; exact hn⟩
  · rename_i d h1 h2 hd
    simp at h; subst h
    refine ⟨?_, fun n hn => by cases hn⟩
    simp only [isAgg, Sem.run_bind, run_und hd, Result.andThen]
    cases d <;> first | rfl | exact absurd rfl (h1 _) | exact absurd rfl (h2 _ _)
  · cases h

theorem VR.ptr_inv {μ : Ren} {v v' : Value} {a : Addr} (hp : Ev.ptr v = some a) (h : VR μ v v') : ∃ l, μ a.block = some l ∧ a.spot = none ∧ v' = .pointer (some ⟨l.blk, l.sh + a.off, none⟩) := by
  unfold Ev.ptr at hp
  split at hp
  · simp at hp; subst hp
    cases h with
    | atom h => simp [Ev.atom] at h
    | ptr h => exact ⟨_, h, rfl, rfl⟩
  · cases hp

theorem cellsOf_eq {s : St} {b : Nat} {vs : List Value} (h : cellsOf s b = some vs) : ∃ e fz gr mk, s.hp.get b = some (.cells vs e fz gr mk) := by
  unfold cellsOf at h
  split at h
  · rename_i heq; simp at h; subst h; exact ⟨_, _, _, _, heq⟩
  · cases h

theorem load_cells {μ : Ren} {s : St} {w : World} (h : Sim μ s w) {b o n : Nat} {l : Loc} {vs : List Value} (hl : μ b = some l) (hv : loadN s ⟨b, o, none⟩ n = some vs) :
    ∃ vs', vs'.length = n ∧ (∀ j v, vs'[j]? = some v → w.cell? ⟨l.blk, l.sh + o + j, none⟩ = some v) ∧ VRs μ vs vs' := by
  simp only [loadN, Option.bind_eq_some_iff] at hv
  obtain ⟨cs, hcs, htk⟩ := hv
  obtain ⟨e, fz, gr, mk, hb⟩ := cellsOf_eq hcs
  obtain ⟨c, lo, hi, h1, h2, h3, h4, h5, h6⟩ := h.blk hb hl
  obtain ⟨hlen, hle⟩ := takeAt_len htk
  obtain ⟨rfl, _, _⟩ := takeAt_eq _ _ _ _ htk
  refine ⟨(c.toList.drop (l.sh + o)).take n, ?_, fun j v hj => ?_, VRs.of_get ?_ fun i v hi => ?_⟩
  · simp; omega
  · rw [cell_of h1]
    rw [List.getElem?_take] at hj
    split at hj
    · simpa [Nat.add_assoc] using hj
    · cases hj
  · simp; omega
  · rw [List.getElem?_take] at hi
    split at hi
    · rename_i hin
      rw [List.getElem?_drop] at hi
      obtain ⟨v', h7, h8⟩ := h5 _ _ hi
      refine ⟨v', ?_, h8⟩
      rw [List.getElem?_take, if_pos hin, List.getElem?_drop]
      simpa [Nat.add_assoc] using h7
    · cases hi

theorem load_sound {μ : Ren} {s : St} {w : World} (h : Sim μ s w) {t : TypeId} {b o : Nat} {l : Loc} {v : Value} (hl : μ b = some l) (hv : loadV P s t ⟨b, o, none⟩ = some v) :
    ∃ v', (loadVar t ⟨l.blk, l.sh + o, none⟩).run P w = .ok v' w ∧ VR μ v v' := by
  unfold loadV at hv
  split at hv
  · rename_i n hn
    simp only [Option.bind_eq_some_iff, Option.some.injEq] at hv
    obtain ⟨vs, hvs, rfl⟩ := hv
    obtain ⟨vs', hlen, hcell, hr⟩ := load_cells h hl hvs
    obtain ⟨ha, hs⟩ := run_agg hn w
    refine ⟨.agg ⟨vs'⟩, ?_, .agg hr⟩
    subst hlen
    simp only [loadVar, Sem.run_bind, ha, Result.andThen, Option.isSome_some, if_true, run_size (hs _ rfl) w, run_loadCells hcell, pure, Sem.run]
  · rename_i hn
    simp only [Option.bind_eq_some_iff] at hv
    obtain ⟨cs, hcs, hnth⟩ := hv
    obtain ⟨e, fz, gr, mk, hb⟩ := cellsOf_eq hcs
    obtain ⟨c, lo, hi, h1, h2, h3, h4, h5, h6⟩ := h.blk hb hl
    rw [nth_eq] at hnth
    obtain ⟨v', h7, h8⟩ := h5 _ _ hnth
    obtain ⟨ha, _⟩ := run_agg hn w
    refine ⟨v', ?_, h8⟩
    simp only [loadVar, Sem.run_bind, ha, Result.andThen, Option.isSome_none, Bool.false_eq_true, if_false]
    exact run_load (by rw [cell_of h1]; exact h7)
  · cases hv

theorem store_cells {μ : Ren} {s s' : St} {w : World} (h : Sim μ s w) {b o : Nat} {l : Loc} {xs xs' : List Value} (hl : μ b = some l) (hs : storeN s ⟨b, o, none⟩ xs = some s') (hx : VRs μ xs xs') :
    ∃ v, (Go.storeCells ⟨l.blk, l.sh + o, none⟩ xs').run P w = .ok () v ∧ Stp μ s w μ s' v := by
  unfold storeN at hs
  split at hs
  · rename_i vs e fz gr mk hb
    cases hcond : (Nat.ble fz (Addr.mk b o none).off && xs.all scalar) <;> simp only [hcond, cond_true, cond_false] at hs
    · cases hs
    simp only [Option.bind_eq_some_iff, Option.some.injEq] at hs
    obtain ⟨vs', hov, rfl⟩ := hs
    simp only [Bool.and_eq_true, ble_dec, decide_eq_true_eq] at hcond
    obtain ⟨hfz, hsc⟩ := hcond
    obtain ⟨c, lo, hi, h1, h2, h3, h4, h5, h6⟩ := h.blk hb hl
    obtain ⟨hle, rfl⟩ := overAt_eq _ _ _ _ hov
    have hlen := hx.length
    obtain ⟨v, hv, hu⟩ := run_storeCells (P := P) e lo hi l.blk xs' 0 (l.sh + o) c w h1 (by rw [hx.scalars]; exact hsc) (by omega) (fun j hj1 hj2 => by
      rcases h6 with h6 | h6 | ⟨_, h6⟩ <;> omega)
    refine ⟨v, hv, Stp.upd h hb hl hu ?_⟩
    refine ⟨_, lo, hi, rfl, by rw [overC_size]; exact h2, fun hg => ?_, ?_, fun i u hi' => ?_, h6⟩
    · obtain ⟨a1, a2⟩ := h3 hg
      exact ⟨a1, by simp; omega⟩
    · simp; omega
    · rw [overC_get _ _ _ _ (by omega)]
      by_cases hin : l.sh + o + 0 ≤ l.sh + i ∧ l.sh + i < l.sh + o + 0 + xs'.length
      · rw [if_pos hin]
        have : xs[i - o]? = some u := by
          rw [List.append_assoc, List.getElem?_append_right (by simp; omega), List.getElem?_append_left (by simp; omega)] at hi'
          simpa [Nat.min_eq_left (show o ≤ vs.length by omega)] using hi'
        obtain ⟨u', h7, h8⟩ := hx.get _ _ this
        exact ⟨u', by rw [show l.sh + i - (l.sh + o + 0) = i - o by omega]; exact h7, h8⟩
      · rw [if_neg hin]
        have : vs[i]? = some u := by
          by_cases hio : i < o
          · rw [List.append_assoc, List.getElem?_append_left (by simp; omega), List.getElem?_take, if_pos hio] at hi'
            exact hi'
          · rw [List.getElem?_append_right (by simp; omega)] at hi'
            rw [List.getElem?_drop] at hi'
            rw [← hi']; congr 1
            simp; omega
        exact h5 _ _ this
  · cases hs

theorem store_sound {μ : Ren} {s s' : St} {w : World} (h : Sim μ s w) {t : TypeId} {b o : Nat} {l : Loc} {x x' : Value} (hl : μ b = some l) (hs : storeV P s t ⟨b, o, none⟩ x = some s') (hx : VR μ x x') :
    ∃ v, (storeVar t ⟨l.blk, l.sh + o, none⟩ x').run P w = .ok () v ∧ Stp μ s w μ s' v := by
  simp only [storeV, Option.bind_eq_some_iff] at hs
  obtain ⟨n, hn, hs⟩ := hs
  have hc := hx.cells
  cases hb : Nat.beq x.cells.toList.length n <;> simp only [hb, cond_true, cond_false] at hs
  · cases hs
  simp only [beq_dec, decide_eq_true_eq] at hb
  obtain ⟨v, hv, hst⟩ := store_cells (P := P) h hl hs hc
  refine ⟨v, ?_, hst⟩
  have hsz : x'.cells.size = n := by rw [← hb, ← hc.length]; simp
  simp only [storeVar, Sem.run_bind, run_size hn w, Result.andThen, hsz, ne_eq, not_true, if_false]
  simpa [pure, Sem.run] using hv
end Go.Ev

namespace Go.Ev
variable {P : Program}

/-! ### What a frame holds -/
inductive DfR (μ : Ren) : Deferred → Deferred → Prop
  | fn {f : FuncId} {cap cap' args args' : List Value} (hc : VRs μ cap cap') (ha : VRs μ args args') : DfR μ ⟨.fn (.func f) ⟨cap⟩, ⟨args⟩⟩ ⟨.fn (.func f) ⟨cap'⟩, ⟨args'⟩⟩
  | coll {r : Nat} {l : Loc} (h : μ r = some l) : DfR μ ⟨.collected r, ⟨[]⟩⟩ ⟨.collected l.blk, ⟨[]⟩⟩
theorem DfR.mono {μ ν : Ren} (hle : μ.le ν) {d d' : Deferred} : DfR μ d d' → DfR ν d d'
  | .fn hc ha => .fn (hc.mono hle) (ha.mono hle)
  | .coll h => .coll (hle _ _ h)
inductive DfsR (μ : Ren) : List Deferred → List Deferred → Prop
  | nil : DfsR μ [] []
  | cons {d d' : Deferred} {l l' : List Deferred} (h : DfR μ d d') (t : DfsR μ l l') : DfsR μ (d :: l) (d' :: l')
theorem DfsR.mono {μ ν : Ren} (hle : μ.le ν) : ∀ {l l' : List Deferred}, DfsR μ l l' → DfsR ν l l'
  | _, _, .nil => .nil
  | _, _, .cons h t => .cons (h.mono hle) (t.mono hle)

structure ActR (μ : Ren) (nt : Nat) (a : AAct) (a' : Act) : Prop where
  tm : TmR μ nt a.tm a'.tmps
  df : DfsR μ a.df a'.defers
theorem ActR.mono {μ ν : Ren} (hle : μ.le ν) {nt : Nat} {a : AAct} {a' : Act} (h : ActR μ nt a a') : ActR ν nt a a' := ⟨h.tm.mono hle, h.df.mono hle⟩

theorem opd_sound {μ : Ren} {s : St} {w : World} (h : Sim μ s w) {nt : Nat} {a : AAct} {a' : Act} (ha : ActR μ nt a a') {x : Operand} (hx : okOpd nt x = true) : VR μ (opd a x) (a'.eval x) := by
  cases x with
  | tmp t => exact ha.tm.at_ t (by simpa [okOpd] using hx)
  | const v => exact VR.closed μ hx
  | global g =>
    obtain ⟨l, h1, h2, h3⟩ := h.glob g (by simpa [okOpd] using hx)
    have := VR.ptr (o := 0) h1
    simpa [opd, Act.eval, h2, h3] using this
  | func f => exact .func .nil .nil

theorem putA_sound {μ : Ren} {nt : Nat} {a : AAct} {a' : Act} (ha : ActR μ nt a a') {d : Option Tmp} (hd : (match d with | some d => Nat.blt d nt | none => true) = true) {v v' : Value} (hv : VR μ v v') :
    ActR μ nt (putA a d v) (a'.put d v') := by
  cases d with
  | none => exact ha
  | some d =>
    simp only [blt_dec, decide_eq_true_eq] at hd
    refine ⟨⟨by simpa [Act.put] using ha.tm.size, fun t ht => ?_⟩, ha.df⟩
    simp only [putA, Tr.get_set, Act.put]
    by_cases h : t = d
    · subst h
      have : t < a'.tmps.size := Nat.lt_of_lt_of_le ht ha.tm.size
      simpa [Array.getD, this] using hv
    · have h1 := ha.tm.at_ t ht
      simp only [h, if_false, Array.getD_eq_getD_getElem?, Array.getElem?_setIfInBounds_ne (Ne.symm h)] at h1 ⊢
      exact h1

theorem opds_sound {μ : Ren} {s : St} {w : World} (h : Sim μ s w) {nt : Nat} {a : AAct} {a' : Act} (ha : ActR μ nt a a') : ∀ {xs : List Operand}, xs.all (okOpd nt) = true → VRs μ (xs.map (opd a)) (xs.map a'.eval)
  | [], _ => .nil
  | x :: xs, hx => by
    simp only [List.all_cons, Bool.and_eq_true] at hx
    exact .cons (opd_sound h ha hx.1) (opds_sound h ha hx.2)

theorem fallback_sound {μ : Ren} {s : St} {w : World} (h : Sim μ s w) {nt : Nat} {a : AAct} {a' : Act} (ha : ActR μ nt a a') {o : Oper} (ho : o.op.operands.toList.all (okOpd nt) = true)
    (hs : ∀ cs b, o.op ≠ .select cs b) {v : Value} (hv : fallback P (opd a) o = some v) :
    ∃ v', (execOp a'.eval o).run P w = .ok (.value v') w ∧ VR μ v v' := by
  unfold fallback at hv
  cases hc : o.op.operands.toList.all (fun x => closed (opd a x)) <;> simp only [hc, cond_true, cond_false] at hv
  · cases hv
  split at hv
  · rename_i u hu
    cases hcl : closed u <;> simp only [hcl, cond_true, cond_false] at hv
    · cases hv
    simp only [Option.some.injEq] at hv; subst hv
    refine ⟨u, ?_, VR.closed μ hcl⟩
    rw [← execOp_congr (ρ := opd a) (ρ' := a'.eval) o hs fun x hx => ?_]
    · exact pureRun_sound _ _ hu w
    · have h1 := List.all_eq_true.1 hc x (by simpa using hx)
      have h2 := List.all_eq_true.1 ho x (by simpa using hx)
      exact (VR.of_closed h1 (opd_sound h ha h2)).symm
  · cases hv

theorem part_sound {μ : Ren} {w : World} {t : TypeId} {cs cs' : List Value} {off : Nat} {v : Value} (hv : partV P t cs off = some v) (h : VRs μ cs cs') :
    ∃ v', (part t ⟨cs'⟩ off).run P w = .ok v' w ∧ VR μ v v' := by
  unfold partV at hv
  split at hv
  · rename_i n hn
    simp only [Option.bind_eq_some_iff, Option.some.injEq] at hv
    obtain ⟨l, hl, rfl⟩ := hv
    obtain ⟨ha, hs⟩ := run_agg hn w
    obtain ⟨rfl, _, _⟩ := takeAt_eq _ _ _ _ hl
    refine ⟨_, ?_, .agg ((h.drop off).take n)⟩
    have e : (Array.mk cs').extract off (off + n) = ⟨(cs'.drop off).take n⟩ := by
      apply Array.toList_inj.1; simp [List.extract_eq_take_drop]
    simp only [part, Sem.run_bind, ha, Result.andThen, Option.isSome_some, if_true, run_size (hs _ rfl) w, pure, Sem.run, e]
  · rename_i hn
    obtain ⟨ha, _⟩ := run_agg hn w
    rw [nth_eq] at hv
    obtain ⟨v', h1, h2⟩ := h.get _ _ hv
    refine ⟨v', ?_, h2⟩
    simp only [part, Sem.run_bind, ha, Result.andThen, Option.isSome_none, Bool.false_eq_true, if_false]
    simp [h1, pure, Sem.run]
  · cases hv

/-! ### Literals -/
theorem pureRun_bind {α β : Type} (f : α → Sem β) : ∀ (t : Sem α) (b : β), pureRun P (t >>= f) = some b ↔ ∃ a, pureRun P t = some a ∧ pureRun P (f a) = some b := by
  intro t
  induction t with
  | pure a => intro b; show pureRun P (f a) = some b ↔ _; simp [pureRun]
  | program k ih => intro b; show pureRun P (k P >>= f) = some b ↔ _; rw [ih]; simp [pureRun]
  | mark m k ih => intro b; show pureRun P (k >>= f) = some b ↔ _; rw [ih]; simp [pureRun]
  | _ => intro b; constructor <;> intro h <;> first | (change (none : Option β) = some b at h; cases h) | (obtain ⟨a, h, _⟩ := h; simp [pureRun] at h)

inductive PartsR (μ : Ren) : List (Nat × Value) → List (Nat × Value) → Prop
  | nil : PartsR μ [] []
  | cons {i : Nat} {v v' : Value} {l l' : List (Nat × Value)} (h : VR μ v v') (t : PartsR μ l l') : PartsR μ ((i, v) :: l) ((i, v') :: l')

theorem fold_rel {μ : Ren} (off : Nat) : ∀ {l l' : List Value} (k : Nat) {cs cs' : Array Value}, VRs μ l l' → VRs μ cs.toList cs'.toList →
    VRs μ ((l.zipIdx k).foldl (fun cs (p : Value × Nat) => cs.setIfInBounds (off + p.2) p.1) cs).toList ((l'.zipIdx k).foldl (fun cs (p : Value × Nat) => cs.setIfInBounds (off + p.2) p.1) cs').toList
  | _, _, _, _, _, .nil, hc => hc
  | _, _, k, cs, cs', .cons hv t, hc => by
    simp only [List.zipIdx_cons, List.foldl_cons]
    refine fold_rel off (k + 1) t (VRs.of_get (by have := hc.length; simp at this ⊢; omega) fun i u hu => ?_)
    simp only [Array.getElem?_toList, Array.getElem?_setIfInBounds] at hu ⊢
    have hsz : cs'.size = cs.size := by have := hc.length; simpa using this
    by_cases hi : off + k = i
    · rw [if_pos hi] at hu ⊢
      rw [hsz]
      split at hu
      · rename_i h1; simp only [h1, if_true]; simp at hu; subst hu; exact ⟨_, rfl, hv⟩
      · cases hu
    · rw [if_neg hi] at hu ⊢
      simpa using hc.get i u (by simpa using hu)

theorem fill_rel {μ : Ren} (place : Nat → Option (Nat × Nat)) : ∀ {l l' : List (Nat × Value)} {cs cs' r : Array Value}, PartsR μ l l' → VRs μ cs.toList cs'.toList → Instr.fill place cs l = some r →
    ∃ r', Instr.fill place cs' l' = some r' ∧ VRs μ r.toList r'.toList
  | _, _, _, _, _, .nil, hc, h => by simp [Instr.fill] at h; subst h; exact ⟨_, rfl, hc⟩
  | _, _, cs, cs', r, .cons (i := i) (v := v) (v' := v') hv t, hc, h => by
    simp only [Instr.fill] at h ⊢
    cases hp : place i with
    | none => simp [hp] at h
    | some p =>
      obtain ⟨off, size⟩ := p
      simp only [hp] at h ⊢
      have hvl := hv.cells.length
      have hcl := hc.length
      simp only [Array.length_toList] at hvl hcl
      split at h
      · cases h
      · rename_i hn
        rw [if_neg (by rw [hvl, hcl]; exact hn)]
        refine fill_rel place t ?_ h
        have e : ∀ (v : Value) (cs : Array Value), Array.foldl (fun cs (x : Value × Nat) => cs.setIfInBounds (off + x.2) x.1) cs v.cells.zipIdx = List.foldl (fun cs (x : Value × Nat) => cs.setIfInBounds (off + x.2) x.1) cs v.cells.toList.zipIdx := by
          intro v cs; rw [← Array.foldl_toList]; simp
        have := fold_rel off 0 hv.cells hc
        rw [← e, ← e] at this
        exact this

theorem build_sound {μ : Ren} {w : World} {t : TypeId} {ps ps' : Array (Nat × Value)} {v z : Value} (hz : zeroC P t = some z) (h : pureRun P (Instr.build t ps) = some v) (hp : PartsR μ ps.toList ps'.toList) :
    ∃ v', (Instr.build t ps').run P w = .ok v' w ∧ VR μ v v' := by
  obtain ⟨hz, hcl⟩ := zeroC_eq hz
  have hz' : pureRun P (zeroValue t) = some z := by
    simp only [zero, Option.bind_eq_some_iff] at hz
    obtain ⟨i, hi, hz⟩ := hz
    simp only [zeroValue, pureRun_bind, typeInfo, program, pureRun]
    exact ⟨i, ⟨P, rfl, by simp [hi, pure, pureRun]⟩, by simp [hz, pure, pureRun]⟩
  have hzr := (VR.closed μ hcl).cells
  suffices ∃ v', pureRun P (Instr.build t ps') = some v' ∧ VR μ v v' by
    obtain ⟨v', h1, h2⟩ := this
    exact ⟨v', pureRun_sound _ _ h1 w, h2⟩
  unfold Instr.build at h ⊢
  simp only [pureRun_bind] at h ⊢
  obtain ⟨z1, hz1, d, hd, h⟩ := h
  rw [hz'] at hz1
  obtain rfl := Option.some.inj hz1
  cases d with
  | struct fields =>
    simp only [pureRun_bind] at h
    obtain ⟨places, hpl, h⟩ := h
    cases hf : Instr.fill (fun x => places[x]?) z.cells ps.toList with
    | none => simp [hf, stuck, pureRun] at h
    | some r =>
      obtain ⟨r', h1, h2⟩ := fill_rel _ hp hzr hf
      simp [hf, pure, pureRun] at h
      subst h
      exact ⟨.agg r', ⟨z, hz', _, hd, by simp only [pureRun_bind]; exact ⟨places, hpl, by simp [h1, pure, pureRun]⟩⟩, .agg h2⟩
  | array n e =>
    simp only [pureRun_bind] at h
    obtain ⟨size, hpl, h⟩ := h
    cases hf : Instr.fill (fun i => some (i * size, size)) z.cells ps.toList with
    | none => simp [hf, stuck, pureRun] at h
    | some r =>
      obtain ⟨r', h1, h2⟩ := fill_rel _ hp hzr hf
      simp [hf, pure, pureRun] at h
      subst h
      exact ⟨.agg r', ⟨z, hz', _, hd, by simp only [pureRun_bind]; exact ⟨size, hpl, by simp [h1, pure, pureRun]⟩⟩, .agg h2⟩
  | _ => simp [stuck, pureRun] at h
end Go.Ev

namespace Go.Ev
variable {P : Program}

theorem nat_inv {μ : Ren} {v v' : Value} {n : Nat} (hp : Ev.nat v = some n) (h : VR μ v v') : ∃ k, v' = .int k n := by
  unfold Ev.nat at hp
  split at hp
  · rename_i k m
    simp at hp; subst hp
    cases h with
    | atom h => exact ⟨k, rfl⟩
  · cases hp

theorem run_asIntOf {v' : Value} {n : Nat} {k : IntKind} (h : v' = .int k n) (w : World) : (asIntOf v').run P w = .ok (k, (n : Int)) w := by
  subst h; rfl

theorem VR.pointer_inv {μ : Ren} {b o : Nat} {v' : Value} (h : VR μ (.pointer (some ⟨b, o, none⟩)) v') : ∃ l, μ b = some l ∧ v' = .pointer (some ⟨l.blk, l.sh + o, none⟩) := by
  cases h with
  | atom h => simp [Ev.atom] at h
  | ptr h => exact ⟨_, h, rfl⟩
theorem VR.pointer_some {μ : Ren} {a : Addr} {v' : Value} (h : VR μ (.pointer (some a)) v') : ∃ a', v' = .pointer (some a') := by
  cases h with
  | atom h => simp [Ev.atom] at h
  | ptr h => exact ⟨_, rfl⟩

theorem run_value (s : Sem Value) {v : Value} {w w' : World} (h : s.run P w = .ok v w') : (do let x ← s; pure (Next.value x) : Sem Next).run P w = .ok (.value v) w' := by
  simp [Sem.run_bind, h, Result.andThen, Sem.run, pure]

theorem VR.slice_inv {μ : Ren} {b o n c : Nat} {v' : Value} (h : VR μ (.slice (some ⟨b, o, none⟩) n c) v') : ∃ l, μ b = some l ∧
    ((n ≤ c ∧ c < unk ∧ v' = .slice (some ⟨l.blk, l.sh + o, none⟩) n c) ∨
     (∃ es c' a, c = unk + es ∧ n ≤ c' ∧ (c' ≠ 0 → a = ⟨l.blk, l.sh + o, none⟩) ∧ l.sh + o + c' * es ≤ l.csz ∧ v' = .slice (some a) n c')) := by
  generalize hv : (Value.slice (some ⟨b, o, none⟩) n c) = v at h
  cases h with
  | atom h => subst hv; simp [Ev.atom] at h
  | slice h hn hc => injection hv with h1 h2 h3; injection h1 with h1; injection h1 with h4 h5; subst h4 h5 h2 h3; exact ⟨_, h, .inl ⟨hn, hc, rfl⟩⟩
  | sliceU h hn ha hb => injection hv with h1 h2 h3; injection h1 with h1; injection h1 with h4 h5; subst h4 h5 h2 h3; exact ⟨_, h, .inr ⟨_, _, _, rfl, hn, ha, hb, rfl⟩⟩
  | _ => cases hv

def OptR (μ : Ren) (v v' : Option Value) : Prop := (v = none ∧ v' = none) ∨ ∃ x x', v = some x ∧ v' = some x' ∧ VR μ x x'
theorem OptR.map {μ : Ren} {s : St} {w : World} (h : Sim μ s w) {nt : Nat} {a : AAct} {a' : Act} (ha : ActR μ nt a a') {x : Option Operand} (hx : ∀ y, x = some y → okOpd nt y = true) : OptR μ (x.map (opd a)) (x.map a'.eval) := by
  cases x with
  | none => exact .inl ⟨rfl, rfl⟩
  | some y => exact .inr ⟨_, _, rfl, rfl, opd_sound h ha (hx y rfl)⟩

theorem bound_run {μ : Ren} {v v' : Option Value} {n d : Nat} (hb : bound v d = some n) (hr : OptR μ v v') (y : Nat) (code : BoundsCode) (hy : v ≠ none → n ≤ y) (w : World) :
    (v' = none ∧ n = d) ∨ ∃ x', v' = some x' ∧ (Instr.sliceBound x' y code).run P w = .ok n w := by
  rcases hr with ⟨rfl, rfl⟩ | ⟨x, x', rfl, rfl, hx⟩
  · simp [bound] at hb; exact .inl ⟨rfl, hb.symm⟩
  · obtain ⟨k, rfl⟩ := nat_inv (by simpa [bound] using hb) hx
    refine .inr ⟨_, rfl, ?_⟩
    simp only [Instr.sliceBound, Sem.run_bind, run_asIntOf rfl, Result.andThen]
    rw [if_pos (by have := hy (by simp); omega)]
    simp [pure, Sem.run]

/-- The three bounds of a slice of a slice, the capacity 'cap' (of the machine's). -/
theorem run_bounds {μ : Ren} {lo hi mx lo' hi' mx' : Option Value} {l h m len cap : Nat} (rl : OptR μ lo lo') (rh : OptR μ hi hi') (rm : OptR μ mx mx')
    (bl : bound lo 0 = some l) (bh : bound hi len = some h) (bm : bound mx cap = some m) (h1 : l ≤ h) (h2 : h ≤ m) (h3 : m ≤ cap) (hmh : mx ≠ none → hi ≠ none) (w : World) :
    (Instr.sliceBounds true len cap lo' hi' mx').run P w = .ok (l, h, m) w := by
  have bm' := bound_run (P := P) bm rm cap .slice3Acap (fun _ => h3) w
  have bh1 := bound_run (P := P) bh rh m .slice3B (fun _ => h2) w
  have bh2 := bound_run (P := P) bh rh cap .sliceAcap (fun _ => by omega) w
  have bl1 := bound_run (P := P) bl rl h .slice3C (fun _ => h1) w
  have bl2 := bound_run (P := P) bl rl h .sliceB (fun _ => h1) w
  have hmn : mx' ≠ none → hi' ≠ none := by
    intro hm
    rcases rm with ⟨_, rfl⟩ | ⟨x, x', rfl, rfl, _⟩
    · exact absurd rfl hm
    · have := hmh (by simp)
      rcases rh with ⟨rfl, _⟩ | ⟨_, _, _, rfl, _⟩
      · exact absurd rfl this
      · simp
  unfold Instr.sliceBounds
  rcases bm' with ⟨rfl, rfl⟩ | ⟨m', rfl, hm'⟩
  · rcases bh2 with ⟨rfl, rfl⟩ | ⟨h', rfl, hh'⟩ <;> rcases bl2 with ⟨rfl, rfl⟩ | ⟨l', rfl, hl'⟩ <;>
      simp [Sem.run_bind, Result.andThen, pure, Sem.run, *]
  · rcases bh1 with ⟨rfl, _⟩ | ⟨h', rfl, hh'⟩
    · exact absurd rfl (hmn (by simp))
    · rcases bl1 with ⟨rfl, rfl⟩ | ⟨l', rfl, hl'⟩ <;> simp [Sem.run_bind, Result.andThen, pure, Sem.run, *]

theorem adv_eq (b o n : Nat) : adv ⟨b, o, none⟩ n = ⟨b, o + n, none⟩ := rfl

theorem unk_lt {c : Nat} {es : Nat} : ¬ unk + es < unk := by omega

theorem slice_sound {μ : Ren} {w : World} {t : TypeId} {x x' v : Value} {lo hi mx lo' hi' mx' : Option Value} (hx : VR μ x x') (rl : OptR μ lo lo') (rh : OptR μ hi hi') (rm : OptR μ mx mx')
    (hmh : mx ≠ none → hi ≠ none) (hv : sliceV P t x lo hi mx = some v) : ∃ v', (Instr.sliceAt t x' lo' hi' mx').run P w = .ok v' w ∧ VR μ v v' := by
  unfold sliceV at hv
  split at hv
  · rename_i e b o len cap hd
    simp only [Option.bind_eq_some_iff] at hv
    obtain ⟨size, hsz, l, bl, h, bh, hv⟩ := hv
    have hsl : ∀ y, (Instr.sliceAt t y lo' hi' mx').run P w = (Instr.slice t y lo' hi' mx').run P w := fun y => by
      simp [Instr.sliceAt, Sem.run_bind, run_und hd, Result.andThen]
    rw [hsl]
    obtain ⟨l0, hb, hcase⟩ := hx.slice_inv
    cases hu : Nat.blt cap unk <;> simp only [hu, cond_true, cond_false] at hv
    · simp only [blt_dec, decide_eq_false_iff_not] at hu
      cases hc : Nat.beq cap (Nat.add unk size) <;> simp only [hc, cond_true, cond_false] at hv
      · cases hv
      simp only [beq_dec, decide_eq_true_eq] at hc
      change cap = unk + size at hc
      subst hc
      rcases hcase with ⟨_, h1, _⟩ | ⟨es, c', a, hes, hn, hadr, hbd, rfl⟩
      · omega
      obtain rfl : size = es := by omega
      split at hv
      · -- no maximum
        cases hle : (Nat.ble l h && Nat.ble h len) <;> simp only [hle, cond_true, cond_false] at hv
        · cases hv
        simp only [Bool.and_eq_true, ble_dec, decide_eq_true_eq] at hle
        simp only [Option.some.injEq] at hv; subst hv
        have hm : mx' = none := by rcases rm with ⟨_, h⟩ | ⟨_, _, h, _⟩ <;> first | exact h | cases h
        subst hm
        have hb' := run_bounds (P := P) (cap := c') (m := c') rl rh (.inl ⟨rfl, rfl⟩) bl bh rfl hle.1 (by omega) (Nat.le_refl _) (fun h => absurd rfl h) w
        refine ⟨.slice (some (if c' = l then a else a.add (l * size))) (h - l) (c' - l), ?_, ?_⟩
        · simp only [Instr.slice, Sem.run_bind, run_und hd, Result.andThen, hb', run_size hsz, pure, Sem.run, Option.map_some]
          by_cases h2 : c' = l <;> simp [h2]
        · refine VR.sliceU (l := l0) hb (show h - l ≤ c' - l by omega) (fun hne => ?_) ?_
          · have h1 : c' ≠ 0 := by omega
            have h2 : c' ≠ l := by omega
            rw [if_neg h2, hadr h1, add_none]
            simp [Nat.add_assoc]
          · have h2 : c' * size = (c' - l) * size + l * size := by rw [← Nat.add_mul]; congr 1; omega
            show l0.sh + (o + l * size) + (c' - l) * size ≤ l0.csz
            omega
      · rename_i m
        simp only [Option.bind_eq_some_iff] at hv
        obtain ⟨m', hm, hv⟩ := hv
        cases hle : (Nat.ble l h && Nat.ble h m' && Nat.ble m' len && Nat.blt 0 m' && Nat.blt m' unk) <;> simp only [hle, cond_true, cond_false] at hv
        · cases hv
        simp only [Bool.and_eq_true, ble_dec, blt_dec, decide_eq_true_eq] at hle
        simp only [Option.some.injEq] at hv; subst hv
        have hb' := run_bounds (P := P) (cap := c') (m := m') rl rh rm bl bh (by simpa [bound] using hm) hle.1.1.1.1 hle.1.1.1.2 (by omega) hmh w
        have ha := hadr (by omega)
        subst ha
        refine ⟨_, by simp only [Instr.slice, Sem.run_bind, run_und hd, Result.andThen, hb', run_size hsz, pure, Sem.run, Option.map_some]; rfl, ?_⟩
        have := fun o => VR.slice (μ := μ) (o := o) (n := h - l) (c := m' - l) hb (by omega) (by omega)
        by_cases h2 : m' = l
        · simpa [h2] using this o
        · simpa [h2, add_none, adv_eq, Nat.add_assoc] using this (o + l * size)
    · simp only [blt_dec, decide_eq_true_eq] at hu
      simp only [Option.bind_eq_some_iff] at hv
      obtain ⟨m, hm, hv⟩ := hv
      cases hle : (Nat.ble l h && Nat.ble h m && Nat.ble m cap) <;> simp only [hle, cond_true, cond_false] at hv
      · cases hv
      simp only [Bool.and_eq_true, ble_dec, decide_eq_true_eq] at hle
      simp only [Option.some.injEq] at hv; subst hv
      rcases hcase with ⟨_, _, rfl⟩ | ⟨es, c', a, hes, _⟩
      · have hb' := run_bounds (P := P) (cap := cap) (m := m) rl rh rm bl bh hm hle.1.1 hle.1.2 hle.2 hmh w
        refine ⟨_, by simp only [Instr.slice, Sem.run_bind, run_und hd, Result.andThen, hb', run_size hsz, pure, Sem.run, Option.map_some]; rfl, ?_⟩
        have := fun o => VR.slice (μ := μ) (o := o) (n := h - l) (c := m - l) hb (by omega) (by omega)
        by_cases h2 : m = l
        · simpa [h2] using this o
        · simpa [h2, add_none, adv_eq, Nat.add_assoc] using this (o + l * size)
      · omega
  · rename_i e len cap hd
    simp only [Option.bind_eq_some_iff] at hv
    obtain ⟨size, hsz, l, bl, h, bh, m, hm, hv⟩ := hv
    cases hle : (Nat.ble l h && Nat.ble h m && Nat.ble m cap) <;> simp only [hle, cond_true, cond_false] at hv
    · cases hv
    simp only [Bool.and_eq_true, ble_dec, decide_eq_true_eq] at hle
    simp only [Option.some.injEq] at hv; subst hv
    have hsl : ∀ y, (Instr.sliceAt t y lo' hi' mx').run P w = (Instr.slice t y lo' hi' mx').run P w := fun y => by
      simp [Instr.sliceAt, Sem.run_bind, run_und hd, Result.andThen]
    rw [hsl]
    obtain rfl := hx.of_atom rfl
    have hb' := run_bounds (P := P) (cap := cap) (m := m) rl rh rm bl bh hm hle.1.1 hle.1.2 hle.2 hmh w
    refine ⟨.slice none (h - l) (m - l), by simp only [Instr.slice, Sem.run_bind, run_und hd, Result.andThen, hb', run_size hsz, pure, Sem.run, Option.map_none, ite_self], .atom rfl⟩
  · cases hv
end Go.Ev
