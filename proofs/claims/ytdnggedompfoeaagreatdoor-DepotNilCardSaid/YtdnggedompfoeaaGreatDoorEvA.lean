/- Words and lemmas: an evaluator of the program's text over memory whose blocks bear numbers of its own, and what its values and memory stand for in the model. -/
import GoSem.Claims
import Derived.OrdersIn
import Derived.RangeFuncRecord
import Derived.Laws.CopyRow
set_option linter.unusedVariables false
set_option linter.unusedSimpArgs false
namespace Go.AE

/-- A map from numbers: a tree by the numbers' digits. -/
inductive T (α : Type) where
  | e
  | n (v : Option α) (a b c d : T α)

noncomputable def four {β : Type} (k : Nat) (a b c d : β) : β :=
  Nat.rec a (fun k _ => Nat.rec b (fun k _ => Nat.rec c (fun _ _ => d) k) k) (Nat.mod k 4)

noncomputable def getN {α : Type} (v : Option α) (_ _ _ _ : T α) (a b c d : Nat → Option α) (i : Nat) : Option α :=
  Nat.rec v (fun k _ => four k a b c d (Nat.div k 4)) i

noncomputable def T.get {α : Type} (t : T α) : Nat → Option α := T.rec (fun _ => none) getN t

noncomputable def setN {α β : Type} (x : Option α) (ih : T α → Nat → (T α → β) → β) (v : Option α) (a b c d : T α) (i : Nat) (k : T α → β) : β :=
  Nat.rec (k (.n x a b c d)) (fun j _ => four j (ih a (Nat.div j 4) fun a => k (.n v a b c d)) (ih b (Nat.div j 4) fun b => k (.n v a b c d))
    (ih c (Nat.div j 4) fun c => k (.n v a b c d)) (ih d (Nat.div j 4) fun d => k (.n v a b c d))) i

noncomputable def setS {α β : Type} (x : Option α) (_ : Nat) (ih : T α → Nat → (T α → β) → β) (t : T α) : Nat → (T α → β) → β :=
  T.rec (setN x ih none .e .e .e .e) (fun v a b c d _ _ _ _ => setN x ih v a b c d) t

noncomputable def T.set {α β : Type} (z : β) (x : Option α) : T α → Nat → (T α → β) → β :=
  Nat.rec (fun _ _ _ => z) (setS x) 16

inductive V where
  | int (k : IntKind) (n : Int)
  | bool (b : Bool)
  | ptr (i o : Nat)
  | sl (i o len : Nat) (cap : Option Nat)
  | str (s : ByteArray)
  | nilp
  | nilsl
  | emp
  | fn (f : FuncId) (first captured : List V)
  | yld (l : Nat)
  | nilfn
  | iface (t : TypeId) (v : V)
  | nilif
  | agg (cs : List V)
  | tup (vs : List V)
  | map (r : Nat)
  | nilmap
  | unk

inductive Ob where
  | cells (c : T V) (n : Nat) (t : TypeId) (sz : Nat)
  | map (es : List (V × V))
  | miter (m : Nat) (since seen : Nat)
  | loop (st : LoopState) (pend : Option Code) (fn : FuncId) (σ : T V) (ps : List Tmp) (asg body : Code) (dfr : Nat)
  | dfr (taken : Bool)

inductive D where
  | call (f : FuncId) (args : List V)
  | coll (r : Nat)

/-- what a frame and the memory hold: the short-lived temporaries, the others, the deferred calls, the memory, the next block's number -/
structure St where
  loc : List (Nat × V)
  σ : T V
  d : List D
  t : T Ob
  n : Nat

inductive Res where
  | fail
  | nrm (s : St)
  | ret (s : St)
  | ex (i : Nat) (s : St)
  | go (l : Nat) (s : St)

abbrev KV := V → Res
abbrev KS := St → Res

/-- a number, written out -/
noncomputable def natK {β : Type} (n : Nat) (k : Nat → β) : β := Nat.rec (k 0) (fun m _ => k (Nat.succ m)) n

noncomputable def test (b : Bool) (r : Res) : Res := Bool.rec .fail r b

/-- a part of an option, or nothing -/
noncomputable def may {α : Type} (o : Option α) (k : α → Res) : Res := Option.rec .fail k o

noncomputable def vInt (v : V) : (IntKind → Int → Res) → Res := match v with | .int k n => fun c => c k n | _ => fun _ => .fail
noncomputable def vNat (v : V) : (Nat → Res) → Res := match v with | .int _ (.ofNat n) => fun c => c n | _ => fun _ => .fail
noncomputable def vPtr (v : V) : (Nat → Nat → Res) → Res := match v with | .ptr i o => fun c => c i o | _ => fun _ => .fail
noncomputable def vAgg (v : V) : (List V → Res) → Res := match v with | .agg l => fun c => c l | _ => fun _ => .fail
noncomputable def vTup (v : V) : (List V → Res) → Res := match v with | .tup l => fun c => c l | _ => fun _ => .fail

noncomputable def wrapU (w : Nat) (k : IntKind) (n : Int) (c : KV) : Res :=
  Int.rec (fun m => natK (Nat.mod m w) fun m => c (.int k (.ofNat m))) (fun m => natK (Nat.sub (Nat.sub w 1) (Nat.mod m w)) fun m => c (.int k (.ofNat m))) n

noncomputable def intK (k : IntKind) (n : Int) (c : KV) : Res :=
  Int.rec (fun m => natK m fun m => c (.int k (.ofNat m))) (fun m => natK m fun m => c (.int k (.negSucc m))) n

noncomputable def wrapS (h : Nat) (k : IntKind) (n : Int) (c : KV) : Res :=
  Int.rec (fun m => Bool.rec (intK k (k.wrap n) c) (natK m fun m => c (.int k (.ofNat m))) (Nat.blt m h))
    (fun m => Bool.rec (intK k (k.wrap n) c) (natK m fun m => c (.int k (.negSucc m))) (Nat.blt m h)) n

/-- a number made fit for its kind -/
noncomputable def wrapK (k : IntKind) : Int → KV → Res :=
  IntKind.rec (wrapS 128 .i8) (wrapS 32768 .i16) (wrapS 2147483648 .i32) (wrapS 9223372036854775808 .i64) (wrapU 256 .u8) (wrapU 65536 .u16) (wrapU 4294967296 .u32) (wrapU 18446744073709551616 .u64) k

noncomputable def boolK (b : Bool) (c : KV) : Res := Bool.rec (c (.bool false)) (c (.bool true)) b

mutual
def ofV : Value → Option V
  | .bool b => some (.bool b)
  | .int k n => some (.int k n)
  | .string s => some (.str s)
  | .pointer none => some .nilp
  | .slice none 0 0 => some .nilsl
  | .map none => some .nilmap
  | .nilFunc => some .nilfn
  | .nilIface => some .nilif
  | .agg ⟨l⟩ => match ofVs l with | some l => some (.agg l) | none => none
  | .tuple ⟨l⟩ => match ofVs l with | some l => some (.tup l) | none => none
  | _ => none
def ofVs : List Value → Option (List V)
  | [] => some []
  | v :: l => match ofV v, ofVs l with | some x, some xs => some (x :: xs) | _, _ => none
end

mutual
def toV : V → Option Value
  | .bool b => some (.bool b)
  | .int k n => some (.int k n)
  | .str s => some (.string s)
  | .nilp => some (.pointer none)
  | .nilsl => some (.slice none 0 0)
  | .nilmap => some (.map none)
  | .nilfn => some .nilFunc
  | .nilif => some .nilIface
  | .agg l => match toVs l with | some l => some (.agg ⟨l⟩) | none => none
  | .tup l => match toVs l with | some l => some (.tuple ⟨l⟩) | none => none
  | .iface t v => match toV v with | some v => some (.iface t v) | none => none
  | _ => none
def toVs : List V → Option (List Value)
  | [] => some []
  | v :: l => match toV v, toVs l with | some x, some xs => some (x :: xs) | _, _ => none
end

def und : V := .tup []

/-- What a piece of the model's text comes to that asks nothing of memory. -/
def pureOf {α : Type} (P : Program) : Sem α → Option α
  | .pure a => some a
  | .program k => pureOf P (k P)
  | _ => none

/-- a plain value's own form, its numbers written out -/
noncomputable def outK (v : Value) (c : KV) : Res :=
  match v with
  | .int k n => intK k n c
  | .bool b => boolK b c
  | v => may (ofV v) c

/-- operands: a short-lived temporary, another, a constant -/
inductive Opd where
  | l (t : Nat)
  | t (t : Nat)
  | c (v : V)
  | no

noncomputable def find (t : Nat) (l : List (Nat × V)) (k : KV) : Res :=
  List.rec .fail (fun p _ ih => Prod.rec (fun u v => Bool.rec ih (k v) (Nat.beq u t)) p) l

noncomputable def oL (t : Nat) (s : St) (k : KV) : Res := find t s.loc k
noncomputable def oT (t : Nat) (s : St) (k : KV) : Res := may (s.σ.get t) k
noncomputable def oC (v : V) (_ : St) (k : KV) : Res := k v
noncomputable def oN (_ : St) (_ : KV) : Res := .fail
noncomputable def opd (x : Opd) : St → KV → Res := Opd.rec oL oT oC oN x

noncomputable def opds (l : List Opd) : St → (List V → Res) → Res :=
  List.rec (fun _ k => k []) (fun x _ ih s k => opd x s fun v => ih s fun vs => k (v :: vs)) l

/-- `M`: which temporaries are short-lived; `g`: how many package-level variables there are -/
def opdOf (M g : Nat) : Operand → Opd
  | .tmp t => cond (Nat.testBit M t) (.l t) (.t t)
  | .const v => match ofV v with | some v => .c v | none => .no
  | .global i => cond (Nat.blt i g) (.c (.ptr i 0)) .no
  | .func f => .c (.fn f [] [])

inductive Dst where
  | no
  | l (t : Nat)
  | t (t : Nat)
  | bad

def dstOf (M N : Nat) : Option Tmp → Dst
  | none => .no
  | some t => cond (Nat.blt t N) (cond (Nat.testBit M t) (.l t) (.t t)) .bad

noncomputable def pN (_ : V) (s : St) (k : KS) : Res := k s
noncomputable def pL (t : Nat) (v : V) (s : St) (k : KS) : Res := St.rec (fun l σ d t' n => k ⟨(t, v) :: l, σ, d, t', n⟩) s
noncomputable def pT (t : Nat) (v : V) (s : St) (k : KS) : Res := St.rec (fun l σ d t' n => T.set .fail (some v) σ t fun σ => k ⟨l, σ, d, t', n⟩) s
noncomputable def pB (_ : V) (_ : St) (_ : KS) : Res := .fail
noncomputable def put (d : Dst) : V → St → KS → Res := Dst.rec pN pL pT pB d

end Go.AE

namespace Go.AE

abbrev KVS := V → St → Res
/-- a call: what is called (a function, or a loop's body), with what, in which memory -/
abbrev Cal := Sum FuncId Nat → List V → T Ob → Nat → (V → T Ob → Nat → Res) → Res
abbrev IOp := Cal → Option Nat → St → KVS → Res

noncomputable def newOb (fr : Option Nat) (ob : Ob) (s : St) (k : Nat → St → Res) : Res :=
  St.rec (fun l σ d t n => Option.rec (T.set .fail (some ob) t n fun t => natK (Nat.succ n) fun m => k n ⟨l, σ, d, t, m⟩)
    (fun j => T.set .fail (some ob) t j fun t => k j ⟨l, σ, d, t, n⟩) fr) s

noncomputable def setOb (i : Nat) (ob : Option Ob) (s : St) (k : St → Res) : Res :=
  St.rec (fun l σ d t n => T.set .fail ob t i fun t => k ⟨l, σ, d, t, n⟩) s

noncomputable def rowOb (o : Ob) : (T V → Nat → TypeId → Nat → Res) → Res := match o with | .cells c n t sz => fun k => k c n t sz | _ => fun _ => .fail
noncomputable def rowK (i : Nat) (s : St) (k : T V → Nat → TypeId → Nat → Res) : Res := may (s.t.get i) fun o => rowOb o k

noncomputable def getK (c : T V) (n : Nat) : Nat → (List V → Res) → Res :=
  Nat.rec (fun _ k => k []) (fun _ ih o k => may (c.get o) fun v => natK (Nat.succ o) fun o => ih o fun l => k (v :: l)) n

noncomputable def setK (l : List V) : T V → Nat → (T V → Res) → Res :=
  List.rec (fun c _ k => k c) (fun v _ ih c o k => T.set .fail (some v) c o fun c => natK (Nat.succ o) fun o => ih c o k) l

def isCell : V → Bool
  | .agg _ | .tup _ => false
  | _ => true

def cellsV : V → List V
  | .agg l => l
  | v => [v]

def allCells : List V → Bool
  | [] => true
  | v :: l => cond (isCell v) (allCells l) false

def len' : List V → Nat
  | [] => 0
  | _ :: l => Nat.succ (len' l)

/-- a new row of cells -/
noncomputable def rowNew (fr : Option Nat) (t sz : Nat) (l : List V) (s : St) (k : Nat → St → Res) : Res :=
  test (allCells l) (setK l .e 0 fun c => natK (len' l) fun n => newOb fr (.cells c n t sz) s k)

def isAggT (P : Program) (t : TypeId) : Option Bool :=
  match P.underlying t with
  | some (.struct _) | some (.array _ _) => some true
  | some _ => some false
  | none => none

def sizeT (P : Program) (t : TypeId) : Option Nat := match P.info? t with | some i => some i.size | none => none
def zeroT (P : Program) (t : TypeId) : Option (List V) := match P.info? t with | some i => (match i.zero with | some z => (match ofV z with | some z => cond (Nat.beq (len' (cellsV z)) i.size) (some (cellsV z)) none | none => none) | none => none) | none => none

def zeroV (P : Program) (t : TypeId) : Option V := match P.info? t with | some i => (match i.zero with | some z => ofV z | none => none) | none => none

noncomputable def no : IOp := fun _ _ _ _ => .fail

noncomputable def iMv (x : Opd) : IOp := fun _ _ s k => opd x s fun v => k v s
noncomputable def vIf (v : V) : Res → Res → Res := match v with | .bool b => fun x y => Bool.rec y x b | _ => fun _ _ => .fail
noncomputable def iPick (c a b : Opd) : IOp := fun _ _ s k => opd c s fun c => vIf c (opd a s fun v => k v s) (opd b s fun v => k v s)
noncomputable def iNew (t sz : Nat) (l : List V) : IOp := fun _ fr s k => rowNew fr t sz l s fun i s => k (.ptr i 0) s
noncomputable def iBox (t sz : Nat) (x : Opd) : IOp := fun _ fr s k => opd x s fun v => rowNew fr t sz (cellsV v) s fun i s => k (.ptr i 0) s

/-- parts put into their places: (offset, size, part) -/
def fillV : List V → List (Nat × Nat) → List V → Option (List V)
  | cs, [], [] => some cs
  | cs, (o, n) :: ps, v :: vs =>
    let l := cellsV v
    cond (Nat.beq (len' l) n) (cond (Nat.ble (o + n) (len' cs)) (fillV (cs.take o ++ (l ++ cs.drop (o + n))) ps vs) none) none
  | _, _, _ => none
noncomputable def iBld (z : List V) (ps : List (Nat × Nat)) (xs : List Opd) : IOp := fun _ _ s k => opds xs s fun vs => may (fillV z ps vs) fun l => k (.agg l) s
noncomputable def iBsl (el sz len : Nat) (z : List V) (ps : List (Nat × Nat)) (xs : List Opd) : IOp := fun _ fr s k =>
  opds xs s fun vs => may (fillV z ps vs) fun l => rowNew fr el sz l s fun i s => k (.sl i 0 len (some len)) s

noncomputable def iLdc (a : Opd) : IOp := fun _ _ s k => opd a s fun a => vPtr a fun i o => rowK i s fun c _ _ _ => may (c.get o) fun v => k v s
noncomputable def iLda (n : Nat) (a : Opd) : IOp := fun _ _ s k => opd a s fun a => vPtr a fun i o => rowK i s fun c _ _ _ => getK c n o fun l => k (.agg l) s
noncomputable def wr (g i o : Nat) (l : List V) (s : St) (k : St → Res) : Res :=
  test (Nat.ble g i) (rowK i s fun c n t sz => test (Nat.ble (Nat.add o (len' l)) n) (setK l c o fun c => setOb i (some (.cells c n t sz)) s k))
noncomputable def iSt (g n : Nat) (a x : Opd) : IOp := fun _ _ s k => opd a s fun a => opd x s fun v => vPtr a fun i o =>
  test (Nat.beq (len' (cellsV v)) n) (test (allCells (cellsV v)) (wr g i o (cellsV v) s fun s => k und s))
noncomputable def vThere (v : V) : Res → Res := match v with | .ptr _ _ | .fn _ _ _ => fun r => r | _ => fun _ => .fail
noncomputable def iNil (x : Opd) : IOp := fun _ _ s k => opd x s fun v => vThere v (k v s)
noncomputable def iBin (f : V → V → KV → Res) (x y : Opd) : IOp := fun _ _ s k => opd x s fun a => opd y s fun b => f a b fun v => k v s
noncomputable def iUn (f : V → KV → Res) (x : Opd) : IOp := fun _ _ s k => opd x s fun a => f a fun v => k v s

noncomputable def addF (a b : V) (k : KV) : Res := vInt a fun p x => vInt b fun q y => test (decide (p = q)) (wrapK p (Int.add x y) k)
noncomputable def subF (a b : V) (k : KV) : Res := vInt a fun p x => vInt b fun q y => test (decide (p = q)) (wrapK p (Int.sub x y) k)
noncomputable def mulF (a b : V) (k : KV) : Res := vInt a fun p x => vInt b fun q y => test (decide (p = q)) (wrapK p (Int.mul x y) k)
/-- numbers below it are a kind's own -/
noncomputable def lim (p : IntKind) : Nat := IntKind.rec 128 32768 2147483648 9223372036854775808 256 65536 4294967296 18446744073709551616 p
/-- bits of two numbers from 0 on that a kind holds -/
noncomputable def bitF (op : BinOp) (f : Nat → Nat → Nat) (a b : V) (k : KV) : Res :=
  vInt a fun p x => vInt b fun q y => test (decide (p = q)) (Int.rec (fun m => Int.rec (fun n => Bool.rec (may (pureOf default (Op.intBits op p x y)) fun v => outK v k) (natK (f m n) fun r => k (.int p (.ofNat r))) (and (Nat.blt m (lim p)) (Nat.blt n (lim p))))
    (fun _ => may (pureOf default (Op.intBits op p x y)) fun v => outK v k) y) (fun _ => may (pureOf default (Op.intBits op p x y)) fun v => outK v k) x)
noncomputable def slowF (P : Program) (f : Value → Value → Sem Value) (a b : V) (k : KV) : Res :=
  may (toV a) fun u => may (toV b) fun w => may (pureOf P (f u w)) fun v => outK v k
noncomputable def cmpF (f : Nat → Nat → Bool) (g : Value → Value → Sem Value) (P : Program) (a b : V) (k : KV) : Res :=
  match a, b with
  | .int p (.ofNat x), .int q (.ofNat y) => test (decide (p = q)) (boolK (f x y) k)
  | a, b => slowF P g a b k
def nilS : V → Option Bool
  | .nilsl => some true
  | .sl .. | .emp => some false
  | _ => none
def nilP : V → Option Bool
  | .nilp => some true
  | .ptr .. => some false
  | _ => none
def nilM : V → Option Bool
  | .nilmap => some true
  | .map _ => some false
  | _ => none
def nilFn : V → Option Bool
  | .nilfn => some true
  | .fn .. | .yld _ => some false
  | _ => none
/-- are two equal of which one is nil? -/
noncomputable def nilF (f : V → Option Bool) (n : Bool) (a b : V) (k : KV) : Res :=
  may (f a) fun p => may (f b) fun q => test (or p q) (boolK (xor n (and p q)) k)

noncomputable def shF (left : Bool) (a b : V) (k : KV) : Res :=
  vInt a fun p x => vNat b fun n => Bool.rec
    (Int.rec (fun m => natK (Nat.shiftRight m (Nat.min n p.bits)) fun r => k (.int p (.ofNat r))) (fun _ => intK p (x.fdiv (2 ^ (Nat.min n p.bits))) k) x)
    (Int.rec (fun m => wrapK p (.ofNat (Nat.shiftLeft m (Nat.min n p.bits))) k) (fun _ => wrapK p (x * 2 ^ (Nat.min n p.bits)) k) x) left

noncomputable def cvI (q : IntKind) (a : V) (k : KV) : Res := vInt a fun _ x => wrapK q x k
noncomputable def cvS (a : V) (k : KV) : Res := match a with | .str s => k (.str s) | _ => .fail
noncomputable def unF (P : Program) (f : Value → Sem Value) (a : V) (k : KV) : Res := may (toV a) fun u => may (pureOf P (f u)) fun v => outK v k

def bytesOf : List V → Option (List UInt8)
  | [] => some []
  | .int .u8 (.ofNat n) :: l => match bytesOf l with | some r => cond (Nat.blt n 256) (some (UInt8.ofNat n :: r)) none | none => none
  | _ => none
noncomputable def vStrOf (v : V) : St → (ByteArray → Res) → Res := match v with
  | .sl i o len _ => fun s k => rowK i s fun c _ _ _ => getK c len o fun l => may (bytesOf l) fun bs => k ⟨⟨bs⟩⟩
  | .nilsl => fun _ k => k ⟨#[]⟩
  | _ => fun _ _ => .fail
noncomputable def iStr (x : Opd) : IOp := fun _ _ s k => opd x s fun v => vStrOf v s fun b => k (.str b) s

noncomputable def iFad (off : Nat) (x : Opd) : IOp := fun _ _ s k => opd x s fun v => vPtr v fun i o => natK (Nat.add o off) fun o => k (.ptr i o) s
noncomputable def iIaA (len n : Nat) (x ix : Opd) : IOp := fun _ _ s k => opd x s fun v => opd ix s fun w => vPtr v fun i o => vNat w fun j =>
  test (Nat.blt j len) (natK (Nat.add o (Nat.mul j n)) fun o => k (.ptr i o) s)
noncomputable def vSl (v : V) : (Nat → Nat → Nat → Option Nat → Res) → Res := match v with | .sl i o l c => fun k => k i o l c | _ => fun _ => .fail
noncomputable def iIaS (n : Nat) (x ix : Opd) : IOp := fun _ _ s k => opd x s fun v => opd ix s fun w => vSl v fun i o len _ => vNat w fun j =>
  test (Nat.blt j len) (natK (Nat.add o (Nat.mul j n)) fun o => k (.ptr i o) s)
noncomputable def part (agg : Bool) (n : Nat) (cs : List V) (o : Nat) (k : KV) : Res :=
  Bool.rec (may cs[o]? k) (test (Nat.ble (Nat.add o n) (len' cs)) (k (.agg ((cs.drop o).take n)))) agg
noncomputable def iFld (agg : Bool) (n off : Nat) (x : Opd) : IOp := fun _ _ s k => opd x s fun v => vAgg v fun cs => part agg n cs off fun v => k v s
noncomputable def iIxA (agg : Bool) (n len : Nat) (x ix : Opd) : IOp := fun _ _ s k => opd x s fun v => opd ix s fun w => vAgg v fun cs => vNat w fun j =>
  test (Nat.blt j len) (natK (Nat.mul j n) fun o => part agg n cs o fun v => k v s)
noncomputable def vStr (v : V) : (ByteArray → Res) → Res := match v with | .str b => fun k => k b | _ => fun _ => .fail
noncomputable def iIxS (x ix : Opd) : IOp := fun _ _ s k => opd x s fun v => opd ix s fun w => vStr v fun b => vNat w fun j =>
  may b.data.toList[j]? fun u => natK u.toNat fun n => k (.int .u8 (.ofNat n)) s
noncomputable def iExt (i : Nat) (x : Opd) : IOp := fun _ _ s k => opd x s fun v => vTup v fun l => may l[i]? fun v => k v s
noncomputable def iFace (t : TypeId) (x : Opd) : IOp := fun _ _ s k => opd x s fun v => k (.iface t v) s
noncomputable def iMkF (f : FuncId) (xs ys : List Opd) : IOp := fun _ _ s k => opds xs s fun a => opds ys s fun b => k (.fn f a b) s
noncomputable def iMkM : IOp := fun _ fr s k => newOb fr (.map []) s fun i s => k (.map i) s

def rep (z : List V) : Nat → List V
  | 0 => []
  | n + 1 => z ++ rep z n
noncomputable def iMkS (el sz : Nat) (z : List V) (x y : Opd) : IOp := fun _ fr s k => opd x s fun a => opd y s fun b => vNat a fun l => vNat b fun c =>
  test (Nat.ble l c) (test (Nat.ble c 65536) (rowNew fr el sz (rep z c) s fun i s => k (.sl i 0 l (some c)) s))

noncomputable def bnd (v : V) (y : Nat) (k : Nat → Res) : Res := vNat v fun n => test (Nat.ble n y) (k n)
/-- a bound that may be left out -/
noncomputable def bndO (x : Option Opd) (s : St) (y z : Nat) (k : Nat → Res) : Res := Option.rec (k z) (fun x => opd x s fun v => bnd v y k) x

noncomputable def adv (m l o sz : Nat) (k : Nat → Res) : Res := Bool.rec (natK (Nat.add o (Nat.mul l sz)) k) (k o) (Nat.beq m l)

/-- the piece of a slice: known room m -/
noncomputable def cut (sz i o l h m : Nat) (k : KV) : Res :=
  adv m l o sz fun o => natK (Nat.sub h l) fun n => natK (Nat.sub m l) fun c => k (.sl i o n (some c))

noncomputable def sliSl (sz : Nat) (lo hi mx : Option Opd) (s : St) (i o len : Nat) (cap : Option Nat) (k : KV) : Res :=
  Option.rec
    (Option.rec
      (rowK i s fun _ _ _ z => test (Nat.beq z sz) (bndO hi s len len fun h => bndO lo s h 0 fun l => Bool.rec (k .emp) (natK (Nat.add o (Nat.mul l sz)) fun o => natK (Nat.sub h l) fun n => k (.sl i o n none)) (or (Nat.beq l 0) (Nat.blt l len))))
      (fun c => bndO hi s c len fun h => bndO lo s h 0 fun l => cut sz i o l h c k) cap)
    (fun x => opd x s fun v => bnd v (Option.rec len (fun c => c) cap) fun m => Option.rec .fail (fun y => opd y s fun v => bnd v m fun h => bndO lo s h 0 fun l => cut sz i o l h m k) hi) mx

noncomputable def sliF (sz : Nat) (lo hi mx : Option Opd) (s : St) (v : V) : KV → Res := match v with
  | .sl i o len cap => fun k => sliSl sz lo hi mx s i o len cap k
  | .nilsl => fun k => bndO mx s 0 0 fun _ => bndO hi s 0 0 fun _ => bndO lo s 0 0 fun _ => k .nilsl
  | _ => fun _ => .fail
noncomputable def iSli (sz : Nat) (x : Opd) (lo hi mx : Option Opd) : IOp := fun _ _ s k => opd x s fun v => sliF sz lo hi mx s v fun v => k v s
noncomputable def iSliA (n sz : Nat) (x : Opd) (lo hi : Option Opd) : IOp := fun _ _ s k => opd x s fun v => vPtr v fun i o => bndO hi s n n fun h => bndO lo s h 0 fun l => cut sz i o l h n fun v => k v s
noncomputable def iSliS (x : Opd) (lo hi : Option Opd) : IOp := fun _ _ s k => opd x s fun v => vStr v fun b => bndO hi s b.size b.size fun h => bndO lo s h 0 fun l => k (.str (b.extract l h)) s

noncomputable def iLenA (n : Nat) (x : Opd) : IOp := fun _ _ s k => opd x s fun _ => k (.int .i64 (.ofNat n)) s
noncomputable def lenV (v : V) : (Nat → Res) → Res := match v with
  | .sl _ _ n _ => fun k => k n
  | .nilsl | .emp => fun k => k 0
  | .str b => fun k => natK b.size k
  | _ => fun _ => .fail
noncomputable def lenSl (v : V) : (Nat → Res) → Res := match v with
  | .sl _ _ n _ => fun k => k n
  | .nilsl | .emp => fun k => k 0
  | _ => fun _ => .fail
noncomputable def iLen (x : Opd) : IOp := fun _ _ s k => opd x s fun v => lenSl v fun n => k (.int .i64 (.ofNat n)) s
noncomputable def iLenS (x : Opd) : IOp := fun _ _ s k => opd x s fun v => vStr v fun b => natK b.size fun n => k (.int .i64 (.ofNat n)) s
noncomputable def mapOb (o : Ob) : (List (V × V) → Res) → Res := match o with | .map es => fun k => k es | _ => fun _ => .fail
noncomputable def mapV (v : V) : St → (List (V × V) → Res) → Res := match v with
  | .map i => fun s k => may (s.t.get i) fun o => mapOb o k
  | .nilmap => fun _ k => k []
  | _ => fun _ _ => .fail
noncomputable def iLenM (x : Opd) : IOp := fun _ _ s k => opd x s fun v => mapV v s fun es => natK es.length fun n => k (.int .i64 (.ofNat n)) s

def bytesV (n : Nat) (b : ByteArray) : List V := (b.data.toList.take n).map fun u => .int .u8 (.ofNat u.toNat)
/-- the cells of a slice's (a text's) first n elements -/
noncomputable def firstV (s : St) (sz n : Nat) (v : V) : (List V → Res) → Res := match v with
  | .sl i o _ _ => fun k => rowK i s fun c _ _ _ => getK c (Nat.mul n sz) o k
  | .nilsl | .emp => fun k => k []
  | .str b => fun k => test (Nat.beq sz 1) (k (bytesV n b))
  | _ => fun _ => .fail

/-- what is appended: so many elements, and their cells -/
noncomputable def newL (sz : Nat) (x : Opd) (s : St) (k : Nat → List V → Res) : Res := opd x s fun v => lenV v fun n => firstV s sz n v fun l => k n l
noncomputable def newZ (z : List V) (x : Opd) (s : St) (k : Nat → List V → Res) : Res := opd x s fun v => vNat v fun n => test (Nat.ble n 65536) (k n (rep z n))

noncomputable def appGrow (el sz : Nat) (fr : Option Nat) (m : Nat) (l : List V) (s : St) (k : KVS) : Res :=
  test (Nat.ble m 65536) (rowNew fr el sz l s fun i s => k (.sl i 0 m none) s)
noncomputable def appSl (g el sz : Nat) (fr : Option Nat) (s : St) (v : V) (i o len : Nat) (cap : Option Nat) (n : Nat) (new : List V) (k : KVS) : Res :=
  Option.rec
    (firstV s sz len v fun old => test (Nat.ble g i) (rowK i s fun _ _ _ z => test (Nat.beq z sz) (setOb i none s fun s => natK (Nat.add len n) fun m => appGrow el sz fr m (old ++ new) s k)))
    (fun c => natK (Nat.add len n) fun m => Bool.rec (test (Nat.ble len c) (firstV s sz len v fun old => appGrow el sz fr m (old ++ new) s k)) (wr g i (Nat.add o (Nat.mul len sz)) new s fun s => k (.sl i o m (some c)) s) (Nat.ble m c)) cap
noncomputable def appV (g el sz : Nat) (fr : Option Nat) (s : St) (n : Nat) (new : List V) (v : V) : KVS → Res := match v with
  | .sl i o len cap => fun k => appSl g el sz fr s (.sl i o len cap) i o len cap n new k
  | .nilsl => fun k => Bool.rec (appGrow el sz fr n new s k) (k .nilsl s) (Nat.beq n 0)
  | _ => fun _ => .fail
noncomputable def iApp (g el sz : Nat) (new : St → (Nat → List V → Res) → Res) (x : Opd) : IOp := fun _ fr s k => opd x s fun v => new s fun n l => test (allCells l) (appV g el sz fr s n l v k)

noncomputable def cpV (g : Nat) (l : List V) (v : V) : St → (St → Res) → Res := match v with
  | .sl i o _ _ => fun s k => wr g i o l s k
  | .nilsl | .emp => fun s k => k s
  | _ => fun _ _ => .fail
noncomputable def iCpy (g sz : Nat) (x y : Opd) : IOp := fun _ _ s k => opd x s fun d => opd y s fun v => lenV v fun n => lenV d fun m => natK (Nat.min n m) fun q =>
  firstV s sz q v fun l => test (allCells l) (cpV g l d s fun s => k (.int .i64 (.ofNat q)) s)

/-- the next call's temporaries are its own: what the call leaves is the memory -/
noncomputable def iCal (f : FuncId) (xs : List Opd) : IOp := fun cal _ s k => opds xs s fun vs => cal (.inl f) vs s.t s.n fun v t n => St.rec (fun l σ d _ _ => k v ⟨l, σ, d, t, n⟩) s
noncomputable def clV (v : V) : (Sum FuncId Nat → List V → List V → Res) → Res := match v with
  | .fn f a b => fun k => k (.inl f) a b
  | .yld l => fun k => k (.inr l) [] []
  | _ => fun _ => .fail
noncomputable def iCls (mz : FuncId) (f : Opd) (xs : List Opd) : IOp := fun cal _ s k => opd f s fun f => clV f fun f a b => opds xs s fun vs =>
  test (Sum.rec (fun f => !(Nat.beq f mz)) (fun _ => true) f) (cal f (a ++ (vs ++ b)) s.t s.n fun v t n => St.rec (fun l σ d _ _ => k v ⟨l, σ, d, t, n⟩) s)
noncomputable def iMz (el : Nat) (xs : List Opd) : IOp := fun _ fr s k => opds xs s fun vs => match vs with
  | [.int .i64 (.ofNat n)] => test (Nat.ble n 65536) (rowNew fr el 1 (rep [.unk] n) s fun i s => k (.sl i 0 n none) s)
  | _ => .fail
noncomputable def iDfr (f : Opd) (xs : List Opd) : IOp := fun _ _ s k => opd f s fun f => clV f fun f a b => opds xs s fun vs =>
  Sum.rec (fun f => St.rec (fun l σ d t n => k und ⟨l, σ, .call f (a ++ (vs ++ b)) :: d, t, n⟩) s) (fun _ => .fail) f
noncomputable def iRec : IOp := fun _ _ s k => k .nilif s

def eqB (a b : ByteArray) : Bool := a.data.toList == b.data.toList
def findV (q : ByteArray) : List (V × V) → Option (Option V)
  | [] => some none
  | (.str b, v) :: l => cond (eqB q b) (some (some v)) (findV q l)
  | _ => none
def putV (q : ByteArray) (v : V) : List (V × V) → Option (List (V × V))
  | [] => some [(.str q, v)]
  | (.str b, u) :: l => cond (eqB q b) (some ((.str q, v) :: l)) (match putV q v l with | some r => some ((.str b, u) :: r) | none => none)
  | _ => none
noncomputable def iLook (zz : V) (ok : Bool) (x y : Opd) : IOp := fun _ _ s k => opd x s fun m => opd y s fun q => mapV m s fun es => vStr q fun q => may (findV q es) fun r =>
  Option.rec (k (cond ok (.tup [zz, .bool false]) zz) s) (fun v => k (cond ok (.tup [v, .bool true]) v) s) r
noncomputable def vMap (v : V) : (Nat → Res) → Res := match v with | .map i => fun k => k i | _ => fun _ => .fail
noncomputable def iUpd (g : Nat) (x y z : Opd) : IOp := fun _ _ s k => opd x s fun m => opd y s fun q => opd z s fun v => vMap m fun i => test (Nat.ble g i) <| vStr q fun q => may (s.t.get i) fun o => mapOb o fun es => may (putV q v es) fun es =>
  setOb i (some (.map es)) s fun s => k und s
noncomputable def iRng (x : Opd) : IOp := fun _ fr s k => opd x s fun m => vMap m fun i => may (s.t.get i) fun o => mapOb o fun es => natK es.length fun n => newOb fr (.miter i n 0) s fun j s => k (.ptr j 0) s
noncomputable def itOb (o : Ob) : (Nat → Nat → Nat → Res) → Res := match o with | .miter a b c => fun k => k a b c | _ => fun _ => .fail
noncomputable def iNxt (g : Nat) (x : Opd) : IOp := fun _ _ s k => opd x s fun v => vPtr v fun r o => test (Nat.ble g r) <| test (Nat.beq o 0) (may (s.t.get r) fun ob => itOb ob fun m since seen => may (s.t.get m) fun ob => mapOb ob fun es =>
  match es, since, seen with
  | [(q, v)], 1, 0 => setOb r (some (.miter m 1 1)) s fun s => k (.tup [.bool true, q, v]) s
  | [_], 1, 1 => k (.tup [.bool false]) s
  | _, _, _ => .fail)
noncomputable def iEnt (x : Opd) : IOp := fun _ _ s k => opd x s fun v => vPtr v fun r o => test (Nat.beq o 0) (may (s.t.get r) fun ob => itOb ob fun m since seen => may (s.t.get m) fun ob => mapOb ob fun es =>
  match es, since, seen with
  | [(q, v)], 1, 1 => k (.tup [q, v]) s
  | _, _, _ => .fail)
noncomputable def iFn1 (P : Program) (f : List Value → Sem Value) (xs : List Opd) : IOp := fun _ _ s k => opds xs s fun vs => may (toVs vs) fun l => may (pureOf P (f l)) fun v => outK v fun v => k v s

structure Box where
  run : IOp

noncomputable def jno : Box := ⟨no⟩
noncomputable def jMv (x : Opd) : Box := ⟨iMv x⟩
noncomputable def jPick (c a b : Opd) : Box := ⟨iPick c a b⟩
noncomputable def jNew (t sz : Nat) (l : List V) : Box := ⟨iNew t sz l⟩
noncomputable def jBox (t sz : Nat) (x : Opd) : Box := ⟨iBox t sz x⟩
noncomputable def jLdc (a : Opd) : Box := ⟨iLdc a⟩
noncomputable def jLda (n : Nat) (a : Opd) : Box := ⟨iLda n a⟩
noncomputable def jSt (g n : Nat) (a x : Opd) : Box := ⟨iSt g n a x⟩
noncomputable def jNil (x : Opd) : Box := ⟨iNil x⟩
noncomputable def jBin (f : V → V → KV → Res) (x y : Opd) : Box := ⟨iBin f x y⟩
noncomputable def jUn (f : V → KV → Res) (x : Opd) : Box := ⟨iUn f x⟩
noncomputable def jStr (x : Opd) : Box := ⟨iStr x⟩
noncomputable def jFad (off : Nat) (x : Opd) : Box := ⟨iFad off x⟩
noncomputable def jIaA (len n : Nat) (x ix : Opd) : Box := ⟨iIaA len n x ix⟩
noncomputable def jIaS (n : Nat) (x ix : Opd) : Box := ⟨iIaS n x ix⟩
noncomputable def jFld (agg : Bool) (n off : Nat) (x : Opd) : Box := ⟨iFld agg n off x⟩
noncomputable def jIxA (agg : Bool) (n len : Nat) (x ix : Opd) : Box := ⟨iIxA agg n len x ix⟩
noncomputable def jIxS (x ix : Opd) : Box := ⟨iIxS x ix⟩
noncomputable def jExt (i : Nat) (x : Opd) : Box := ⟨iExt i x⟩
noncomputable def jFace (t : TypeId) (x : Opd) : Box := ⟨iFace t x⟩
noncomputable def jMkF (f : FuncId) (xs ys : List Opd) : Box := ⟨iMkF f xs ys⟩
noncomputable def jMkM : Box := ⟨iMkM⟩
noncomputable def jMkS (el sz : Nat) (z : List V) (x y : Opd) : Box := ⟨iMkS el sz z x y⟩
noncomputable def jSli (sz : Nat) (x : Opd) (lo hi mx : Option Opd) : Box := ⟨iSli sz x lo hi mx⟩
noncomputable def jSliA (n sz : Nat) (x : Opd) (lo hi : Option Opd) : Box := ⟨iSliA n sz x lo hi⟩
noncomputable def jSliS (x : Opd) (lo hi : Option Opd) : Box := ⟨iSliS x lo hi⟩
noncomputable def jLenA (n : Nat) (x : Opd) : Box := ⟨iLenA n x⟩
noncomputable def jLen (x : Opd) : Box := ⟨iLen x⟩
noncomputable def jLenS (x : Opd) : Box := ⟨iLenS x⟩
noncomputable def jLenM (x : Opd) : Box := ⟨iLenM x⟩
noncomputable def jCpy (g sz : Nat) (x y : Opd) : Box := ⟨iCpy g sz x y⟩
noncomputable def jCal (f : FuncId) (xs : List Opd) : Box := ⟨iCal f xs⟩
noncomputable def jCls (mz : FuncId) (f : Opd) (xs : List Opd) : Box := ⟨iCls mz f xs⟩
noncomputable def jMz (el : Nat) (xs : List Opd) : Box := ⟨iMz el xs⟩
noncomputable def jDfr (f : Opd) (xs : List Opd) : Box := ⟨iDfr f xs⟩
noncomputable def jRec : Box := ⟨iRec⟩
noncomputable def jLook (zz : V) (ok : Bool) (x y : Opd) : Box := ⟨iLook zz ok x y⟩
noncomputable def jUpd (g : Nat) (x y z : Opd) : Box := ⟨iUpd g x y z⟩
noncomputable def jRng (x : Opd) : Box := ⟨iRng x⟩
noncomputable def jNxt (g : Nat) (x : Opd) : Box := ⟨iNxt g x⟩
noncomputable def jEnt (x : Opd) : Box := ⟨iEnt x⟩
noncomputable def jFn1 (P : Program) (f : List Value → Sem Value) (xs : List Opd) : Box := ⟨iFn1 P f xs⟩

noncomputable def jBld (z : List V) (ps : List (Nat × Nat)) (xs : List Opd) : Box := ⟨iBld z ps xs⟩
noncomputable def jBsl (el sz len : Nat) (z : List V) (ps : List (Nat × Nat)) (xs : List Opd) : Box := ⟨iBsl el sz len z ps xs⟩
noncomputable def jApp (g el sz : Nat) (new : St → (Nat → List V → Res) → Res) (x : Opd) : Box := ⟨iApp g el sz new x⟩

/-- what an operation's text asks: the program, how many package-level variables, the library's maker of bytes, the short-lived temporaries, how many temporaries -/
structure Cx where
  P : Program
  g : Nat
  mz : FuncId
  M : Nat
  N : Nat
  rd : Option Nat

/-- where a struct's fields lie: (offset, size) -/
def places (P : Program) (fs : List Field) : Option (List (Nat × Nat)) := fs.mapM fun f => (P.info? f.type).map fun i => (f.offset, i.size)
def picks (q : List (Nat × Nat)) : List (Nat × Operand) → Option (List (Nat × Nat))
  | [] => some []
  | (i, _) :: l => match q[i]?, picks q l with | some x, some r => some (x :: r) | _, _ => none
def placesS (P : Program) (fs : Array Field) (l : List (Nat × Operand)) : Option (List (Nat × Nat)) := match places P fs.toList with | some q => picks q l | none => none
def placesA (n : Nat) (l : List (Nat × Operand)) : List (Nat × Nat) := l.map fun p => (p.1 * n, n)

noncomputable def slowB (op : BinOp) (t : TypeId) (x y : Operand) (u w : Value) : Sem Value := do eqGuard op t x y u w; binOp op t u w

noncomputable def binOf (X : Cx) (op : BinOp) (t : TypeId) (x y : Operand)   : Box :=
  let a := opdOf X.M X.g x
  let b := opdOf X.M X.g y
  match op with
  | .add => (match X.P.underlying t with | some (.int _) => jBin addF a b | _ => jBin (slowF X.P (slowB .add t x y)) a b)
  | .sub => (match X.P.underlying t with | some (.int _) => jBin subF a b | _ => jno)
  | .mul => (match X.P.underlying t with | some (.int _) => jBin mulF a b | _ => jno)
  | .and => jBin (bitF .and Nat.land) a b
  | .or => jBin (bitF .or Nat.lor) a b
  | .xor => jBin (bitF .xor Nat.xor) a b
  | .shl => jBin (shF true) a b
  | .shr => jBin (shF false) a b
  | .eql => (match X.P.underlying t with
    | some (.int _) => jBin (cmpF Nat.beq (slowB .eql t x y) X.P) a b
    | some (.slice _) => jBin (nilF nilS false) a b
    | some (.pointer _) => jBin (nilF nilP false) a b
    | some (.map ..) => jBin (nilF nilM false) a b
    | some (.func ..) => jBin (nilF nilFn false) a b
    | _ => jBin (slowF X.P (slowB .eql t x y)) a b)
  | .neq => (match X.P.underlying t with
    | some (.int _) => jBin (cmpF (fun x y => not (Nat.beq x y)) (slowB .neq t x y) X.P) a b
    | some (.slice _) => jBin (nilF nilS true) a b
    | some (.pointer _) => jBin (nilF nilP true) a b
    | some (.map ..) => jBin (nilF nilM true) a b
    | some (.func ..) => jBin (nilF nilFn true) a b
    | _ => jBin (slowF X.P (slowB .neq t x y)) a b)
  | .lss => jBin (cmpF Nat.blt (slowB .lss t x y) X.P) a b
  | .leq => jBin (cmpF Nat.ble (slowB .leq t x y) X.P) a b
  | .gtr => jBin (cmpF (fun x y => Nat.blt y x) (slowB .gtr t x y) X.P) a b
  | .geq => jBin (cmpF (fun x y => Nat.ble y x) (slowB .geq t x y) X.P) a b
  | op => jBin (slowF X.P (slowB op t x y)) a b

noncomputable def optOf (M g : Nat) (x : Option Operand) : Option Opd := match x with | some x => some (opdOf M g x) | none => none

noncomputable def callOf (X : Cx) (c : Call) (type : TypeId)   : Box :=
  let xs := c.args.toList.map (opdOf X.M X.g)
  match c.callee with
  | .value (.func f) => (match Nat.beq f X.mz with
    | true => (match X.P.underlying type with | some (.slice el) => (match sizeT X.P el with | some 1 => jMz el xs | _ => jno) | _ => jno)
    | false => jCal f xs)
  | .value f => jCls X.mz (opdOf X.M X.g f) xs
  | .builtin .len => (match c.argTypes[0]?, xs with
    | some t, [x] => (match X.P.underlying t with
      | some .string => jLenS x
      | some (.slice _) => jLen x
      | some (.array n _) => jLenA n x
      | some (.map ..) => jLenM x
      | _ => jno)
    | _, _ => jno)
  | .builtin .append => (match c.argTypes.toList, xs with
    | [st, xt], [s, x] => (match X.P.underlying st with
      | some (.slice el) => (match sizeT X.P el, X.P.info? el with
        | some sz, some i => (match Nat.ble i.bytes 65536, X.P.underlying xt with
          | true, some (.int _) => (match Nat.blt 0 sz, zeroT X.P el with | true, some z => jApp X.g el sz (newZ z x) s | _, _ => jno)
          | true, some (.slice _) => (match zeroT X.P el with | some _ => jApp X.g el sz (newL sz x) s | none => jno)
          | true, some .string => (match zeroT X.P el with | some _ => jApp X.g el sz (newL sz x) s | none => jno)
          | _, _ => jno)
        | _, _ => jno)
      | _ => jno)
    | _, _ => jno)
  | .builtin .copy => (match c.argTypes[0]?, xs with
    | some t, [d, s] => (match X.P.underlying t with | some (.slice el) => (match sizeT X.P el with | some sz => jCpy X.g sz d s | none => jno) | _ => jno)
    | _, _ => jno)
  | .builtin .min => jFn1 X.P (fun l => Builtin.min_ c.argTypes type ⟨l⟩) xs
  | .builtin .max => jFn1 X.P (fun l => Builtin.max_ c.argTypes type ⟨l⟩) xs
  | _ => jno

noncomputable def opOf (X : Cx) (o : Oper)   : Box :=
  let e := opdOf X.M X.g
  match o.op with
  | .move x | .assign x => jMv (e x)
  | .pick c a b => jPick (e c) (e a) (e b)
  | .alloc t => (match sizeT X.P t, zeroT X.P t with | some n, some z => jNew t n z | _, _ => jno)
  | .box t x => (match sizeT X.P t with | some n => jBox t n (e x) | none => jno)
  | .build t ps => (match X.P.underlying t, zeroT X.P t with
    | some (.struct fs), some z => (match placesS X.P fs ps.toList with | some q => jBld z q (ps.toList.map fun p => e p.2) | none => jno)
    | some (.array _ el), some z => (match sizeT X.P el with | some n => jBld z (placesA n ps.toList) (ps.toList.map fun p => e p.2) | none => jno)
    | _, _ => jno)
  | .buildSlice t len ps => (match X.P.underlying t with
    | some (.slice el) => (match sizeT X.P el, zeroT X.P el with
      | some n, some z => (match Nat.ble (len * n) 65536 with | true => jBsl el n len (rep z len) (placesA n ps.toList) (ps.toList.map fun p => e p.2) | false => jno)
      | _, _ => jno)
    | _ => jno)
  | .load t a => (match isAggT X.P t, sizeT X.P t with | some true, some n => jLda n (e a) | some false, some _ => jLdc (e a) | _, _ => jno)
  | .store t a x => (match sizeT X.P t with | some n => jSt X.g n (e a) (e x) | none => jno)
  | .nilCheck x => jNil (e x)
  | .binOp op t x y _ => binOf X op t x y
  | .unOp op _ x => jUn (unF X.P (Op.unary op)) (e x)
  | .convert src dst x => (match X.P.underlying src, X.P.underlying dst with
    | some _, some (.int k) => jUn (cvI k) (e x)
    | some .string, some .string => jUn cvS (e x)
    | some (.slice b), some .string => (match X.P.underlying b with | some (.int .u8) => jStr (e x) | _ => jno)
    | _, _ => jno)
  | .makeInterface t x => (match X.P.underlying t with | some (.interface _) => jno | some _ => jFace t (e x) | none => jno)
  | .makeFunc (.func f) a b => jMkF f (a.toList.map e) (b.toList.map e)
  | .makeMap _ none => jMkM
  | .makeSlice t l c => (match X.P.underlying t with
    | some (.slice el) => (match sizeT X.P el, zeroT X.P el, X.P.info? el with
      | some n, some z, some i => (match Nat.ble i.bytes 65536 with | true => jMkS el n z (e l) (e c) | false => jno)
      | _, _, _ => jno)
    | _ => jno)
  | .slice t x lo hi mx => (match X.P.underlying t with
    | some .string => (match mx with | none => jSliS (e x) (optOf X.M X.g lo) (optOf X.M X.g hi) | some _ => jno)
    | some (.slice el) => (match sizeT X.P el, mx, hi with | some _, some _, none => jno | some n, mx, hi => jSli n (e x) (optOf X.M X.g lo) (optOf X.M X.g hi) (optOf X.M X.g mx) | none, _, _ => jno)
    | some (.array n el) => (match mx, sizeT X.P el with | none, some m => jSliA n m (e x) (optOf X.M X.g lo) (optOf X.M X.g hi) | _, _ => jno)
    | _ => jno)
  | .fieldAddr t x f => (match X.P.underlying t with
    | some (.struct fs) => (match fs[f]? with | some f => (match sizeT X.P f.type with | some (_ + 1) => jFad f.offset (e x) | _ => jno) | none => jno)
    | _ => jno)
  | .field t x f => (match X.P.underlying t with
    | some (.struct fs) => (match fs[f]? with | some f => (match isAggT X.P f.type, sizeT X.P f.type with | some b, some n => jFld b n f.offset (e x) | _, _ => jno) | none => jno)
    | _ => jno)
  | .indexAddr t x ix => (match X.P.underlying t with
    | some (.array len el) => (match sizeT X.P el with | some n => jIaA len n (e x) (e ix) | none => jno)
    | some (.slice el) => (match sizeT X.P el with | some n => jIaS n (e x) (e ix) | none => jno)
    | _ => jno)
  | .index t x ix => (match X.P.underlying t with
    | some (.array len el) => (match isAggT X.P el, sizeT X.P el with | some b, some n => jIxA b n len (e x) (e ix) | _, _ => jno)
    | some .string => jIxS (e x) (e ix)
    | _ => jno)
  | .lookup t x k ok => (match X.P.underlying t with
    | some (.map kt el) => (match X.P.underlying kt, zeroV X.P el with | some .string, some z => jLook z ok (e x) (e k) | _, _ => jno)
    | _ => jno)
  | .mapUpdate t m k x => (match X.P.underlying t with
    | some (.map kt _) => (match X.P.underlying kt with | some .string => jUpd X.g (e m) (e k) (e x) | _ => jno)
    | _ => jno)
  | .range t x => (match X.P.underlying t with | some (.map ..) => jRng (e x) | _ => jno)
  | .next it false => jNxt X.g (e it)
  | .entry it => jEnt (e it)
  | .extract t i => jExt i (e t)
  | .call c => callOf X c o.type
  | .defer c => (match c.callee, X.rd with | .value f, none => jDfr (e f) (c.args.toList.map e) | _, _ => jno)
  | _ => jno

end Go.AE

namespace Go.AE

mutual
def eqV : V → V → Bool
  | .bool a, .bool b => Bool.casesOn a (!b) b
  | .int j a, .int k b => decide (j = k) && decide (a = b)
  | .str a, .str b => a.data.toList == b.data.toList
  | .nilp, .nilp => true
  | .ptr i o, .ptr j p => Nat.beq i j && Nat.beq o p
  | .nilsl, .nilsl => true
  | .sl i o l c, .sl j p m d => Nat.beq i j && Nat.beq o p && Nat.beq l m && (match c, d with | none, none => true | some c, some d => Nat.beq c d | _, _ => false)
  | .fn f a b, .fn g c d => Nat.beq f g && eqVs a c && eqVs b d
  | .nilfn, .nilfn => true
  | .iface t a, .iface u b => Nat.beq t u && eqV a b
  | .nilif, .nilif => true
  | .agg a, .agg b => eqVs a b
  | .tup a, .tup b => eqVs a b
  | .nilmap, .nilmap => true
  | .map a, .map b => Nat.beq a b
  | _, _ => false
def eqVs : List V → List V → Bool
  | [], [] => true
  | a :: l, b :: m => eqV a b && eqVs l m
  | _, _ => false
end

/-- is an operation carried out? -/
noncomputable def wants (X : Cx) (ops : Array Oper) (o : Oper) (s : St) (y n : Res) : Res :=
  match o.guard with
  | none => y
  | some (j, w) => match (ops[j]?).bind (·.dst) with
    | none => .fail
    | some t => opd (opdOf X.M X.g (.tmp t)) s fun v => match v with | .bool b => Bool.rec n y (Bool.rec (not w) w b) | .tup _ => n | _ => .fail

noncomputable def runB (b : Box) : IOp := Box.rec (fun f => f) b

/-- one operation in its place -/
noncomputable def one (X : Cx) (ops : Array Oper) (o : Oper) (cal : Cal) (fr : Option Nat) (s : St) (k : KS) : Res :=
  wants X ops o s (runB (opOf X o) cal fr s fun v s => put (dstOf X.M X.N o.dst) v s k) (put (dstOf X.M X.N o.dst) und s k)

noncomputable def seqOps (X : Cx) (ops : Array Oper) (cal : Cal) (l : List Oper) : St → KS → Res :=
  List.rec (fun s k => k s) (fun o _ ih s k => one X ops o cal none s fun s => ih s k) l

def litC : Callee → Bool
  | .builtin .len => true
  | .builtin .min => true
  | .builtin .max => true
  | _ => false

/-- operations that leave the memory -/
def isLight (o : Oper) : Bool :=
  match o.op with
  | .move _ | .assign _ | .pick .. | .build .. | .load .. | .nilCheck _ | .binOp .. | .unOp .. | .convert .. | .makeInterface .. | .makeFunc .. | .slice .. | .fieldAddr .. | .field .. | .indexAddr .. | .index .. | .lookup .. | .entry _ | .extract .. => true
  | .call c => litC c.callee
  | _ => false

/-- operations that lay memory, and ask nothing of it -/
def isAlloc (o : Oper) : Bool :=
  match o.op with
  | .alloc _ | .box .. | .buildSlice .. | .makeSlice .. | .makeMap .. => true
  | _ => false

/-- light: 0; lays memory: 1; heavy: 2 -/
def kindOf (o : Oper) : Nat := cond (isLight o) 0 (cond (isAlloc o) 1 2)

structure Pl where
  i : Nat
  kind : Nat
  lo : Nat

def planGo (n : Nat) (ks bs : List Nat) (lo : Nat → Nat) : List Nat → (listed : Nat) → List Pl
  | [], listed => (List.range n).filterMap fun i => cond (Nat.testBit listed i) none (some ⟨i, ks.getD i 0, lo i⟩)
  | h :: l, listed =>
    let anc := bs.getD h 0
    ((List.range n).filterMap fun i => cond (!(Nat.beq i h) && Nat.testBit anc i && !(Nat.testBit listed i)) (some ⟨i, ks.getD i 0, lo i⟩) none) ++ ⟨h, 2, 0⟩ :: planGo n ks bs lo l (Nat.lor (Nat.lor listed anc) (2 ^ h))

/-- the temporaries that an operation names -/
def tmpsOf (o : Oper) : List Tmp := o.op.operands.toList.filterMap fun | .tmp t => some t | _ => none

/-- what comes before an operation in every order -/
def mask (acc : List Nat) (o : Oper) : Nat := o.after.toList.foldl (fun s e => cond (Region.binds .any e) (Nat.lor (Nat.lor s (2 ^ e.on)) (acc.getD e.on 0)) s) 0
def befGo : List Oper → List Nat → List Nat
  | [], acc => acc
  | o :: l, acc => befGo l (acc ++ [mask acc o])

def anc (bs : List Nat) (i j : Nat) : Bool := Nat.testBit (bs.getD i 0) j

/-- the plan, with the operations and how many heavy ones come before -/
structure Pq where
  x : Pl
  o : Oper
  p : Nat

def prof (ops : Array Oper) : List Pl → Nat → List Pq
  | [], _ => []
  | x :: l, p => match ops[x.i]? with
    | none => []
    | some o => ⟨x, o, p⟩ :: prof ops l (cond (Nat.beq (kindOf o) 2) (p + 1) p)

def memB (t : Nat) : List Nat → Bool
  | [] => false
  | u :: l => cond (Nat.beq u t) true (memB t l)

/-- the temporaries that an operation looks at -/
def looksOf (ops : Array Oper) (o : Oper) : List Tmp := tmpsOf o ++ (match o.guard with | none => [] | some (j, _) => match (ops[j]?).bind (·.dst) with | none => [] | some t => [t])

/-- two operations, the first ahead of the second -/
def cmpB (ops : Array Oper) (bs : List Nat) (r r' : Pq) : Bool :=
  not (Nat.beq r.x.i r'.x.i) && not (anc bs r.x.i r'.x.i) && (cond (Nat.beq (kindOf r'.o) 2) (anc bs r'.x.i r.x.i) true) &&
  (match r'.o.dst with | none => true | some t => (cond (memB t (looksOf ops r.o)) (anc bs r'.x.i r.x.i) true) && (match r.o.dst with | none => true | some u => not (Nat.beq t u))) &&
  (match r.o.dst with | none => true | some t => cond (memB t (looksOf ops r'.o)) (anc bs r'.x.i r.x.i) true)

def pw (f : Pq → Pq → Bool) : List Pq → Bool
  | [] => true
  | r :: l => l.all (f r) && pw f l

def loB (bs : List Nat) (q : List Pq) (r : Pq) : Bool := Nat.beq r.x.lo 0 || q.any fun h => Nat.beq (kindOf h.o) 2 && anc bs r.x.i h.x.i && Nat.beq r.x.lo (h.p + 1)

def depB : List Pq → List Nat → Bool
  | [], _ => true
  | r :: l, seen => (r.o.after.toList.all fun e => cond (Region.binds .any e) (memB e.on seen) true) && depB l (r.x.i :: seen)

def chk (ops : Array Oper) (bs : List Nat) (pl : List Pl) : Bool :=
  let q := prof ops pl 0
  (List.range ops.size).all (fun i => q.any fun r => Nat.beq r.x.i i) && pw (cmpB ops bs) q && q.all (loB bs q) && depB q []

def plan (ops : Array Oper) : Option (List Pl) :=
  let ks := ops.toList.map kindOf
  let bs := befGo ops.toList []
  let hs := (List.range ops.size).filter fun i => Nat.beq (ks.getD i 0) 2
  let pl := planGo ops.size ks bs (fun i => (hs.filter fun h => Nat.testBit (bs.getD i 0) h).length) hs 0
  cond (chk ops bs pl) (some pl) none

noncomputable def noCal : Cal := fun _ _ _ _ _ => .fail

/-- they, out of a frame -/
noncomputable def gather (M g : Nat) (l : List Tmp) : St → (List (Nat × V) → Res) → Res :=
  List.rec (fun _ k => k []) (fun t _ ih s k => opd (opdOf M g (.tmp t)) s fun v => ih s fun r => k ((t, v) :: r)) l

/-- a frame that holds them alone -/
def mini (X : Cx) : Cx := ⟨X.P, X.g, X.mz, 2 ^ X.N - 1, X.N, X.rd⟩

/-- the same in the memories of earlier places -/
noncomputable def sameAt (X : Cx) (o : Oper) (v : V) (loc : List (Nat × V)) (s : St) (k : Res) : Nat → List (T Ob) → Res :=
  fun n => Nat.rec (fun _ => k) (fun _ ih l => match l with
    | [] => .fail
    | t :: l => runB (opOf (mini X) o) noCal none ⟨loc, .e, [], t, s.n⟩ fun u _ => test (eqV u v) (ih l)) n

/-- a light operation's value: in this memory, and in those of earlier places -/
noncomputable def lightOp (X : Cx) (o : Oper) (p lo : Nat) (snaps : List (T Ob)) (s : St) (k : V → Res) : Res :=
  gather X.M X.g (tmpsOf o) s fun loc => match snaps with
     | [] => .fail
     | t :: ts => runB (opOf (mini X) o) noCal none ⟨loc, .e, [], t, s.n⟩ fun v _ => sameAt X o v loc s (k v) (Nat.sub p lo) ts

/-- an operation that lays memory -/
noncomputable def allocOp (X : Cx) (o : Oper) (id : Nat) (s : St) (k : V → T Ob → Res) : Res :=
  gather X.M X.g (tmpsOf o) s fun loc => runB (opOf (mini X) o) noCal (some id) ⟨loc, .e, [], .e, s.n⟩ fun v s1 =>
    may (s1.t.get id) fun ob => T.set .fail (some ob) s.t id fun t => k v t

noncomputable def heavyOp (X : Cx) (o : Oper) (cal : Cal) (id : Nat) (s : St) (k : V → St → Res) : Res :=
  gather X.M X.g (tmpsOf o) s fun loc => runB (opOf (mini X) o) cal (some id) ⟨loc, .e, s.d, s.t, s.n⟩ fun v s1 => test (Nat.ble s.n s1.n) (k v ⟨s.loc, s.σ, s1.d, s1.t, s1.n⟩)

noncomputable def stp (X : Cx) (ops : Array Oper) (cal : Cal) (base : Nat) (x : Pl) (ih : Nat → List (T Ob) → St → KS → Res) (p : Nat) (snaps : List (T Ob)) (s : St) (k : KS) : Res :=
  match ops[x.i]? with
  | none => .fail
  | some o => match kindOf o with
    | 0 => wants X ops o s (lightOp X o p x.lo snaps s fun v => put (dstOf X.M X.N o.dst) v s fun s => ih p snaps s k)
        (put (dstOf X.M X.N o.dst) und s fun s => ih p snaps s k)
    | 1 => wants X ops o s (allocOp X o (base + x.i) s fun v t => put (dstOf X.M X.N o.dst) v ⟨s.loc, s.σ, s.d, t, s.n⟩ fun s => ih p snaps s k)
        (put (dstOf X.M X.N o.dst) und s fun s => ih p snaps s k)
    | _ => wants X ops o s (heavyOp X o cal (base + x.i) s fun v s1 => put (dstOf X.M X.N o.dst) v s1 fun s => ih (Nat.succ p) (s.t :: snaps) s k)
        (put (dstOf X.M X.N o.dst) und s fun s => ih (Nat.succ p) (s.t :: snaps) s k)

noncomputable def drawOps (X : Cx) (ops : Array Oper) (cal : Cal) (base : Nat) (l : List Pl) : Nat → List (T Ob) → St → KS → Res :=
  List.rec (fun _ _ s k => k s) (fun x _ ih p snaps s k => stp X ops cal base x ih p snaps s k) l

structure Fx extends Cx where
  f : FuncId

abbrev IH := Code → Cal → St → Res

noncomputable def dropL (s : St) (k : St → Res) : Res := St.rec (fun _ σ d t n => k ⟨[], σ, d, t, n⟩) s
noncomputable def bumpN (m : Nat) (s : St) (k : St → Res) : Res := St.rec (fun l σ d t n => natK (Nat.add n m) fun n => k ⟨l, σ, d, t, n⟩) s
noncomputable def thenN (r : Res) (k : St → Res) : Res := Res.rec .fail k .ret .ex .go r

noncomputable def cSkip (X : Fx) (_ : IH) (_ : Cal) (s : St) : Res := .nrm s
noncomputable def cReg (id : Nat) (ops : Array Oper) (draw : Bool) (X : Fx) (ih : IH) (cal : Cal) (s : St) : Res :=
  dropL s fun s => Bool.rec (seqOps X.toCx ops cal ops.toList s .nrm)
    (may (plan ops) fun pl => bumpN ops.size s fun s' => drawOps X.toCx ops cal s.n pl 0 [s.t] s' .nrm) draw
noncomputable def cSeq (a b : Code) (_ _ : Fx → IH → Cal → St → Res) (X : Fx) (ih : IH) (cal : Cal) (s : St) : Res := thenN (ih a cal s) fun s => ih b cal s
noncomputable def cCond (c : Operand) (a b : Code) (_ _ : Fx → IH → Cal → St → Res) (X : Fx) (ih : IH) (cal : Cal) (s : St) : Res := opd (opdOf X.M X.g c) s fun v => vIf v (ih a cal s) (ih b cal s)
noncomputable def cBlock (id : Nat) (c : Code) (_ : Fx → IH → Cal → St → Res) (X : Fx) (ih : IH) (cal : Cal) (s : St) : Res :=
  Res.rec .fail .nrm .ret (fun j s => Bool.rec (.ex j s) (.nrm s) (Nat.beq j id)) .go (ih c cal s)
noncomputable def cLoop (c : Code) (_ : Fx → IH → Cal → St → Res) (X : Fx) (ih : IH) (cal : Cal) (s : St) : Res :=
  thenN (ih c cal s) fun s => ih (.loop c) cal s
noncomputable def loopOb (o : Ob) : (LoopState → Option Code → FuncId → T V → List Tmp → Code → Code → Nat → Res) → Res := match o with
  | .loop a b c d e f g h => fun k => k a b c d e f g h
  | _ => fun _ => .fail
noncomputable def jmp (j : Option Code) (s : St) : Res := match j with
  | none => .nrm s
  | some .ret => .ret s
  | some (.exit i) => .ex i s
  | some (.goto l) => .go l s
  | _ => .fail
noncomputable def mkLoop (X : Fx) (s : St) (k : Nat → St → Res) : Res := match X.rd with
  | none => newOb none (.dfr false) s fun r s => St.rec (fun l σ d t n => k r ⟨l, σ, .coll r :: d, t, n⟩) s
  | some l => may (s.t.get l) fun o => loopOb o fun _ _ _ _ _ _ _ d => k d s
noncomputable def cRf (f : Operand) (ps : Array Tmp) (a b : Code) (_ _ : Fx → IH → Cal → St → Res) (X : Fx) (ih : IH) (cal : Cal) (s : St) : Res :=
  opd (opdOf X.M X.g f) s fun f => clV f fun f x y => dropL s fun s => mkLoop X s fun d s => newOb none (.loop .ready none X.f s.σ ps.toList a b d) s fun l s =>
  test (Sum.rec (fun _ => true) (fun _ => false) f) <|
  cal f (x ++ (.yld l :: y)) s.t s.n fun _ t n => may (t.get l) fun o => loopOb o fun st pend q w e r u v =>
    match st with
    | .busy => .fail
    | _ => setOb l (some (.loop .exhausted pend q w e r u v)) ⟨[], s.σ, s.d, t, n⟩ fun s => jmp pend s
noncomputable def cExit (id : Nat) (X : Fx) (ih : IH) (cal : Cal) (s : St) : Res := .ex id s
noncomputable def scp (c : Code) (ih : IH) (cal : Cal) : Nat → Res → Res :=
  fun n => Nat.rec (fun r => .fail) (fun _ again r => Res.rec .fail .nrm .ret .ex (fun l s => match findLabel c l with | some d => again (ih d cal s) | none => .go l s) r) n
noncomputable def cScope (c : Code) (_ : Fx → IH → Cal → St → Res) (X : Fx) (ih : IH) (cal : Cal) (s : St) : Res := scp c ih cal 100000 (ih c cal s)
noncomputable def cLabel (l : Nat) (X : Fx) (ih : IH) (cal : Cal) (s : St) : Res := .nrm s
noncomputable def cGoto (l : Nat) (X : Fx) (ih : IH) (cal : Cal) (s : St) : Res := .go l s
noncomputable def cRet (X : Fx) (ih : IH) (cal : Cal) (s : St) : Res := .ret s
noncomputable def cRef (w : String) (X : Fx) (ih : IH) (cal : Cal) (s : St) : Res := .fail

noncomputable def code1 (c : Code) : Fx → IH → Cal → St → Res :=
  Code.rec (motive := fun _ => Fx → IH → Cal → St → Res) cSkip cReg cSeq cCond cBlock cLoop cRf cExit cScope cLabel cGoto cRet cRef c

noncomputable def code (X : Fx) (n : Nat) : IH := Nat.rec (fun _ _ _ => .fail) (fun _ ih c => code1 c X ih) n

noncomputable def argsT (l : List V) : Nat → T V → (T V → Res) → Res :=
  List.rec (fun _ σ k => k σ) (fun v _ ih i σ k => T.set .fail (some v) σ i fun σ => natK (Nat.succ i) fun i => ih i σ k) l

/-- what a function's text asks when it is called; or what is known of it -/
inductive Fn where
  | none
  | some (X : Fx) (c : Code) (rs : List ResultVar)
  | sum (k : List V → T Ob → Nat → (V → T Ob → Nat → Res) → Res)

noncomputable def resT (X : Cx) (l : List ResultVar) : St → (List V → Res) → Res :=
  List.rec (fun _ k => k []) (fun x _ ih s k => ResultVar.rec (fun t => opd (opdOf X.M X.g (.tmp t)) s fun v => ih s fun vs => k (v :: vs))
    (fun a t => match isAggT X.P t, sizeT X.P t with
      | .some .true, .some n => iLda n (opdOf X.M X.g (.tmp a)) noCal .none s fun v _ => ih s fun vs => k (v :: vs)
      | .some .false, .some _ => iLdc (opdOf X.M X.g (.tmp a)) noCal .none s fun v _ => ih s fun vs => k (v :: vs)
      | _, _ => .fail) x) l

noncomputable def tupV (l : List V) : V := match l with | [v] => v | l => .tup l

noncomputable def defs (g : Nat) (DS : FuncId → Bool) (l : List D) : T Ob → Nat → (T Ob → Nat → Res) → Res :=
  List.rec (fun t n k => k t n) (fun d _ ih t n k => D.rec (fun f _ => test (DS f) (ih t n k))
    (fun r => test (Nat.ble g r) <| may (t.get r) fun o => match o with | .dfr false => T.set .fail (some (.dfr true)) t r fun t => ih t n k | _ => .fail) d) l

noncomputable def endF (X : Cx) (DS : FuncId → Bool) (rs : List ResultVar) (k : V → T Ob → Nat → Res) (s : St) : Res :=
  St.rec (fun l σ d t n => defs X.g DS d t n fun t n => resT X rs ⟨[], σ, [], t, n⟩ fun vs => k (tupV vs) t n) s

/-- the whole's constants: the program, its package-level variables, the maker of bytes, each function's short-lived temporaries, the deferred functions that do nothing where nothing panics, what is known of functions -/
structure Kon where
  P : Program
  g : Nat
  mz : FuncId
  M : FuncId → Nat
  DS : FuncId → Bool
  S : FuncId → Option (List V → T Ob → Nat → (V → T Ob → Nat → Res) → Res)

noncomputable def fxOf (K : Kon) (f : FuncId) (fn : Func) (rd : Option Nat) : Fx := ⟨⟨K.P, K.g, K.mz, K.M f, fn.ntmps, rd⟩, f⟩

noncomputable def fnOf (K : Kon) (f : FuncId) : Fn :=
  match K.S f with
  | .some k => .sum k
  | .none => match K.P.funcs[f]? with
    | .none => .none
    | .some fn => match fn.body with | .none => .none | .some c => .some (fxOf K f fn .none) c fn.results.toList

noncomputable def callF (DS : FuncId → Bool) (ih : Cal) (f : Fn) : List V → T Ob → Nat → (V → T Ob → Nat → Res) → Res :=
  Fn.rec (fun _ _ _ _ => .fail)
    (fun X c rs vs t n k => test (Nat.ble (len' vs) X.N) (argsT vs 0 .e fun σ => Res.rec .fail (endF X.toCx DS rs k) (endF X.toCx DS rs k) (fun _ _ => .fail) (fun _ _ => .fail) (code X 100000 c ih ⟨[], σ, [], t, n⟩)))
    (fun g => g) f

noncomputable def setPs (N : Nat) (ps : List Tmp) : T V → List V → (T V → Res) → Res :=
  List.rec (fun σ vs k => match vs with | [] => k σ | _ => .fail) (fun p _ ih σ vs k => match vs with | [] => .fail | v :: vs => test (Nat.blt p N) (T.set .fail (some v) σ p fun σ => ih σ vs k)) ps

noncomputable def onlyN (r : Res) (k : St → Res) : Res := Res.rec .fail k (fun _ => .fail) (fun _ _ => .fail) (fun _ _ => .fail) r

noncomputable def endR (l : Nat) (k : V → T Ob → Nat → Res) (j : Option Code) (s : St) : Res :=
  may (s.t.get l) fun o => loopOb o fun _ _ f σ ps a b d =>
  setOb l (some (.loop (match j with | none => .ready | some _ => .done) j f σ ps a b d)) s fun s => k (.bool (match j with | none => true | some _ => false)) s.t s.n

noncomputable def busyR (l : Nat) (s : St) (k : St → Res) : Res :=
  may (s.t.get l) fun o => loopOb o fun st pend f σ ps a b d =>
  match st with
  | .ready => setOb l (some (.loop .busy pend f σ ps a b d)) s k
  | _ => .fail

noncomputable def roundF (K : Kon) (ih : Cal) (l : Nat) (vs : List V) (t : T Ob) (n : Nat) (k : V → T Ob → Nat → Res) : Res :=
  test (Nat.ble K.g l) <| may (t.get l) fun o => loopOb o fun _ _ f σ ps a b _ => may K.P.funcs[f]? fun fn =>
    setPs fn.ntmps ps σ vs fun σ' =>
    onlyN (code (fxOf K f fn (some l)) 100000 a ih ⟨[], σ', [], t, n⟩) fun s => busyR l s fun s =>
      Res.rec .fail (endR l k none) (endR l k (some .ret)) (fun i => endR l k (some (.exit i))) (fun i => endR l k (some (.goto i)))
        (code (fxOf K f fn (some l)) 100000 b ih s)

noncomputable def lvl (K : Kon) (n : Nat) : Cal :=
  Nat.rec (fun _ _ _ _ _ => .fail) (fun _ ih x => Sum.rec (fun f => callF K.DS ih (fnOf K f)) (fun l => roundF K ih l) x) n

end Go.AE

namespace Go.AE

theorem four_eq {β : Type} (k : Nat) (a b c d : β) : four k a b c d = if k % 4 = 0 then a else if k % 4 = 1 then b else if k % 4 = 2 then c else d := by
  have h : k % 4 < 4 := Nat.mod_lt _ (by decide)
  have e : ∀ m, m = k % 4 → four k a b c d = Nat.rec (motive := fun _ => β) a (fun k _ => Nat.rec (motive := fun _ => β) b (fun k _ => Nat.rec (motive := fun _ => β) c (fun _ _ => d) k) k) m := fun m hm => by rw [hm]; rfl
  have h4 : k % 4 = 0 ∨ k % 4 = 1 ∨ k % 4 = 2 ∨ k % 4 = 3 := by omega
  rcases h4 with h | h | h | h <;> rw [e _ h.symm, h] <;> rfl

theorem get_e {α : Type} (i : Nat) : (T.e : T α).get i = none := rfl
theorem get_n0 {α : Type} (v : Option α) (a b c d : T α) : (T.n v a b c d).get 0 = v := rfl
theorem get_ns {α : Type} (v : Option α) (a b c d : T α) (k : Nat) : (T.n v a b c d).get (k + 1) =
    if k % 4 = 0 then a.get (k / 4) else if k % 4 = 1 then b.get (k / 4) else if k % 4 = 2 then c.get (k / 4) else d.get (k / 4) := by
  show four k a.get b.get c.get d.get (k / 4) = _
  rw [four_eq]
  split
  · rfl
  · split
    · rfl
    · split <;> rfl

noncomputable def setF {α β : Type} (z : β) (x : Option α) (f : Nat) : T α → Nat → (T α → β) → β := Nat.rec (fun _ _ _ => z) (setS x) f

theorem setN_spec {α β : Type} {x : Option α} {z : β} {ih : T α → Nat → (T α → β) → β}
    (hi : ∀ t i k, ih t i k = z ∨ ∃ t', ih t i k = k t' ∧ ∀ j, t'.get j = if j = i then x else t.get j) (v : Option α) (a b c d : T α) (i : Nat) (k : T α → β) :
    setN x ih v a b c d i k = z ∨ ∃ t', setN x ih v a b c d i k = k t' ∧ ∀ j, t'.get j = if j = i then x else (T.n v a b c d).get j := by
  unfold setN
  cases i with
  | zero =>
    refine .inr ⟨.n x a b c d, rfl, fun j => ?_⟩
    cases j with
    | zero => rfl
    | succ j => rw [get_ns, get_ns, if_neg (Nat.succ_ne_zero j)]
  | succ p =>
    show four p _ _ _ _ = z ∨ ∃ t', four p _ _ _ _ = k t' ∧ _
    have e4 : Nat.div p 4 = p / 4 := rfl
    simp only [four_eq, e4]
    have fin : ∀ (r : Nat) (t t' : T α), p % 4 = r → (∀ j, t'.get j = if j = p / 4 then x else t.get j) → ∀ q, q % 4 = r → t'.get (q / 4) = if q + 1 = p + 1 then x else t.get (q / 4) := fun r t t' hr hg q hq => by
      rw [hg]
      by_cases e : q = p
      · subst e; simp
      · rw [if_neg (by omega), if_neg (by omega)]
    have off : ∀ (q : Nat) (u : Option α), q % 4 ≠ p % 4 → u = if q + 1 = p + 1 then x else u := fun q u h => by rw [if_neg (by omega)]
    have h4 : p % 4 = 0 ∨ p % 4 = 1 ∨ p % 4 = 2 ∨ p % 4 = 3 := by omega
    rcases h4 with h | h | h | h
    · simp only [h, if_true]
      rcases hi a (p / 4) (fun a => k (.n v a b c d)) with hh | ⟨t', hh, hg⟩
      · exact .inl hh
      · refine .inr ⟨_, hh, fun j => ?_⟩
        cases j with
        | zero => simp [get_n0]
        | succ q =>
          rw [get_ns, get_ns]
          by_cases h0 : q % 4 = 0
          · simp only [h0, if_true]; exact fin 0 a t' h hg q h0
          · exact off q _ (by omega) |>.trans (by simp only [h0, if_false])
    · simp only [h, if_true, if_false, Nat.one_ne_zero]
      rcases hi b (p / 4) (fun b => k (.n v a b c d)) with hh | ⟨t', hh, hg⟩
      · exact .inl hh
      · refine .inr ⟨_, hh, fun j => ?_⟩
        cases j with
        | zero => simp [get_n0]
        | succ q =>
          rw [get_ns, get_ns]
          by_cases h0 : q % 4 = 1
          · simp only [h0, if_true, if_false, Nat.one_ne_zero]; exact fin 1 b t' h hg q h0
          · exact off q _ (by omega) |>.trans (by simp only [h0, if_false])
    · simp only [h, if_true, if_false, show ¬ (2 = 0) by omega, show ¬ (2 = 1) by omega]
      rcases hi c (p / 4) (fun c => k (.n v a b c d)) with hh | ⟨t', hh, hg⟩
      · exact .inl hh
      · refine .inr ⟨_, hh, fun j => ?_⟩
        cases j with
        | zero => simp [get_n0]
        | succ q =>
          rw [get_ns, get_ns]
          by_cases h0 : q % 4 = 2
          · simp only [h0, if_true, if_false, show ¬ (2 = 0) by omega, show ¬ (2 = 1) by omega]; exact fin 2 c t' h hg q h0
          · exact off q _ (by omega) |>.trans (by simp only [h0, if_false])
    · simp only [h, if_false, show ¬ (3 = 0) by omega, show ¬ (3 = 1) by omega, show ¬ (3 = 2) by omega]
      rcases hi d (p / 4) (fun d => k (.n v a b c d)) with hh | ⟨t', hh, hg⟩
      · exact .inl hh
      · refine .inr ⟨_, hh, fun j => ?_⟩
        cases j with
        | zero => simp [get_n0]
        | succ q =>
          rw [get_ns, get_ns]
          by_cases h0 : q % 4 = 3
          · simp only [h0, if_false, show ¬ (3 = 0) by omega, show ¬ (3 = 1) by omega, show ¬ (3 = 2) by omega]; exact fin 3 d t' h hg q h0
          · refine (off q _ (by omega)).trans ?_
            have : q % 4 = 0 ∨ q % 4 = 1 ∨ q % 4 = 2 := by omega
            rcases this with h' | h' | h' <;> simp [h']

theorem setF_spec {α β : Type} {x : Option α} {z : β} : ∀ (f : Nat) (t : T α) (i : Nat) (k : T α → β),
    setF z x f t i k = z ∨ ∃ t', setF z x f t i k = k t' ∧ ∀ j, t'.get j = if j = i then x else t.get j := by
  intro f
  induction f with
  | zero => exact fun _ _ _ => .inl rfl
  | succ f ih =>
    intro t i k
    show setS x f (setF z x f) t i k = z ∨ ∃ t', setS x f (setF z x f) t i k = k t' ∧ _
    cases t with
    | e =>
      have := setN_spec (x := x) (z := z) ih none .e .e .e .e i k
      have e : ∀ j, (T.n none .e .e .e .e : T α).get j = (T.e : T α).get j := fun j => by
        cases j with
        | zero => rfl
        | succ j => rw [get_ns]; simp [get_e]
      simpa only [setS, e] using this
    | n v a b c d => exact setN_spec ih v a b c d i k

/-- what a tree holds when one place of it has been turned -/
theorem set_spec {α β : Type} {x : Option α} {z : β} {t : T α} {i : Nat} {k : T α → β} (h : T.set z x t i k ≠ z) :
    ∃ t', T.set z x t i k = k t' ∧ ∀ j, t'.get j = if j = i then x else t.get j := by
  rcases setF_spec (x := x) (z := z) 16 t i k with h' | h'
  · exact absurd h' h
  · exact h'

theorem natK_eq {β : Type} (n : Nat) (k : Nat → β) : natK n k = k n := by cases n <;> rfl
theorem test_ne {b : Bool} {r : Res} (h : test b r ≠ .fail) : b = true ∧ test b r = r := by
  cases b with
  | false => exact absurd rfl h
  | true => exact ⟨rfl, rfl⟩
theorem may_ne {α : Type} {o : Option α} {k : α → Res} (h : may o k ≠ .fail) : ∃ a, o = some a ∧ may o k = k a := by
  cases o with
  | none => exact absurd rfl h
  | some a => exact ⟨a, rfl, rfl⟩
theorem intK_eq (k : IntKind) (n : Int) (c : KV) : intK k n c = c (.int k n) := by
  cases n <;> (unfold intK; exact natK_eq _ _)

theorem boolK_eq (b : Bool) (c : KV) : boolK b c = c (.bool b) := by cases b <;> rfl

end Go.AE

namespace Go.AE

/-- where a block of the evaluator's lies: the machine's block, the place of its first cell, how many cells are its own, an element's size -/
structure Gh where
  b : Nat
  o : Nat
  ext : Nat
  sz : Nat

abbrev G := Nat → Option Gh

mutual
/-- The evaluator's value stands for the machine's. -/
def VR (g : G) : V → Value → Prop
  | .int k n, x => x = .int k n
  | .bool b, x => x = .bool b
  | .ptr i o, x => ∃ e, g i = some e ∧ x = .pointer (some ⟨e.b, e.o + o, none⟩)
  | .sl i o len cap, x => ∃ e c, g i = some e ∧ x = .slice (some ⟨e.b, e.o + o, none⟩) len c ∧ (match cap with | some c' => c = c' | none => len ≤ c ∧ o + c * e.sz ≤ e.ext)
  | .str s, x => x = .string s
  | .nilp, x => x = .pointer none
  | .nilsl, x => x = .slice none 0 0
  | .emp, x => ∃ a c, x = .slice (some a) 0 c
  | .fn f a b, x => ∃ xs ys, x = .func (.func f) ⟨xs⟩ ⟨ys⟩ ∧ VRs g a xs ∧ VRs g b ys
  | .yld l, x => ∃ e, g l = some e ∧ x = .func (.yield e.b) #[] #[]
  | .nilfn, x => x = .nilFunc
  | .iface t v, x => ∃ y, x = .iface t y ∧ VR g v y
  | .nilif, x => x = .nilIface
  | .agg cs, x => ∃ xs, x = .agg ⟨xs⟩ ∧ VRs g cs xs
  | .tup vs, x => ∃ xs, x = .tuple ⟨xs⟩ ∧ VRs g vs xs
  | .map r, x => ∃ e, g r = some e ∧ x = .map (some e.b)
  | .nilmap, x => x = .map none
  | .unk, x => ∃ k n, x = .int k n
def VRs (g : G) : List V → List Value → Prop
  | [], l => l = []
  | v :: vs, l => ∃ x xs, l = x :: xs ∧ VR g v x ∧ VRs g vs xs
end

/-- more is known -/
def G.le (g g' : G) : Prop := ∀ i e, g i = some e → g' i = some e

theorem G.le.refl (g : G) : g.le g := fun _ _ h => h
theorem G.le.trans {a b c : G} (h : a.le b) (k : b.le c) : a.le c := fun i e x => k i e (h i e x)

mutual
theorem VR.mono {g g' : G} (h : g.le g') : ∀ {v : V} {x : Value}, VR g v x → VR g' v x
  | .int .., _, r => r
  | .bool _, _, r => r
  | .ptr .., _, ⟨e, h1, h2⟩ => ⟨e, h _ _ h1, h2⟩
  | .sl .., _, ⟨e, c, h1, h2⟩ => ⟨e, c, h _ _ h1, h2⟩
  | .str _, _, r => r
  | .nilp, _, r => r
  | .nilsl, _, r => r
  | .emp, _, r => r
  | .fn .., _, ⟨xs, ys, e, a, b⟩ => ⟨xs, ys, e, VRs.mono h a, VRs.mono h b⟩
  | .yld _, _, ⟨e, h1, h2⟩ => ⟨e, h _ _ h1, h2⟩
  | .nilfn, _, r => r
  | .iface .., _, ⟨y, e, a⟩ => ⟨y, e, VR.mono h a⟩
  | .nilif, _, r => r
  | .agg _, _, ⟨xs, e, a⟩ => ⟨xs, e, VRs.mono h a⟩
  | .tup _, _, ⟨xs, e, a⟩ => ⟨xs, e, VRs.mono h a⟩
  | .map _, _, ⟨e, h1, h2⟩ => ⟨e, h _ _ h1, h2⟩
  | .nilmap, _, r => r
  | .unk, _, r => r
theorem VRs.mono {g g' : G} (h : g.le g') : ∀ {v : List V} {x : List Value}, VRs g v x → VRs g' v x
  | [], _, r => r
  | _ :: _, _, ⟨x, xs, e, a, b⟩ => ⟨x, xs, e, VR.mono h a, VRs.mono h b⟩
end

theorem VRs.length {g : G} : ∀ {vs : List V} {xs : List Value}, VRs g vs xs → xs.length = vs.length
  | [], _, h => by cases h; rfl
  | _ :: _, _, ⟨_, _, e, _, b⟩ => by subst e; simp [VRs.length b]

theorem len'_eq (l : List V) : len' l = l.length := by
  induction l with
  | nil => rfl
  | cons a l ih => simp [len', ih]

theorem VRs.get {g : G} : ∀ {vs : List V} {xs : List Value}, VRs g vs xs → ∀ {i : Nat} {v : V}, vs[i]? = some v → ∃ x, xs[i]? = some x ∧ VR g v x
  | [], _, _, i, v, h => by simp at h
  | _ :: _, _, ⟨x, xs, e, a, b⟩, 0, v, h => by
    subst e; simp at h; subst h; exact ⟨x, rfl, a⟩
  | _ :: _, _, ⟨x, xs, e, a, b⟩, i + 1, v, h => by
    subst e; simp at h; simpa using b.get h

theorem VRs.append {g : G} : ∀ {a : List V} {xs : List Value}, VRs g a xs → ∀ {b : List V} {ys : List Value}, VRs g b ys → VRs g (a ++ b) (xs ++ ys)
  | [], _, h, _, _, k => by cases h; exact k
  | _ :: _, _, ⟨x, xs, e, a, b⟩, _, _, k => by subst e; exact ⟨x, _, rfl, a, b.append k⟩

theorem VRs.take {g : G} : ∀ {a : List V} {xs : List Value}, VRs g a xs → ∀ n, VRs g (a.take n) (xs.take n)
  | [], _, h, n => by cases h; simp [VRs]
  | _ :: _, _, ⟨x, xs, e, a, b⟩, 0 => by simp [VRs]
  | _ :: _, _, ⟨x, xs, e, a, b⟩, n + 1 => by subst e; exact ⟨x, _, rfl, a, b.take n⟩

theorem VRs.drop {g : G} : ∀ {a : List V} {xs : List Value}, VRs g a xs → ∀ n, VRs g (a.drop n) (xs.drop n)
  | [], _, h, n => by cases h; simp [VRs]
  | _ :: _, _, ⟨x, xs, e, a, b⟩, 0 => ⟨x, xs, e, a, b⟩
  | _ :: _, _, ⟨x, xs, e, a, b⟩, n + 1 => by subst e; exact b.drop n

mutual
theorem VR.ofV {g : G} : ∀ {x : Value} {v : V}, ofV x = some v → VR g v x
  | .bool _, _, h => by simp [AE.ofV] at h; subst h; rfl
  | .int .., _, h => by simp [AE.ofV] at h; subst h; rfl
  | .float .., _, h => by simp [AE.ofV] at h
  | .complex .., _, h => by simp [AE.ofV] at h
  | .string _, _, h => by simp [AE.ofV] at h; subst h; rfl
  | .pointer none, _, h => by simp [AE.ofV] at h; subst h; rfl
  | .pointer (some _), _, h => by simp [AE.ofV] at h
  | .slice none 0 0, _, h => by simp [AE.ofV] at h; subst h; rfl
  | .slice none 0 (_ + 1), _, h => by simp [AE.ofV] at h
  | .slice none (_ + 1) _, _, h => by simp [AE.ofV] at h
  | .slice (some _) _ _, _, h => by simp [AE.ofV] at h
  | .map none, _, h => by simp [AE.ofV] at h; subst h; rfl
  | .map (some _), _, h => by simp [AE.ofV] at h
  | .chan _, _, h => by simp [AE.ofV] at h
  | .func .., _, h => by simp [AE.ofV] at h
  | .nilFunc, _, h => by simp [AE.ofV] at h; subst h; rfl
  | .iface .., _, h => by simp [AE.ofV] at h
  | .nilIface, _, h => by simp [AE.ofV] at h; subst h; rfl
  | .agg ⟨l⟩, v, h => by
    unfold AE.ofV at h
    split at h
    · rename_i l' hl; cases h; exact ⟨l, rfl, VRs.ofVs hl⟩
    · cases h
  | .tuple ⟨l⟩, v, h => by
    unfold AE.ofV at h
    split at h
    · rename_i l' hl; cases h; exact ⟨l, rfl, VRs.ofVs hl⟩
    · cases h
theorem VRs.ofVs {g : G} : ∀ {x : List Value} {v : List V}, ofVs x = some v → VRs g v x
  | [], _, h => by simp [AE.ofVs] at h; subst h; rfl
  | x :: l, v, h => by
    unfold AE.ofVs at h
    split at h
    · rename_i y ys h1 h2; cases h; exact ⟨x, l, rfl, VR.ofV h1, VRs.ofVs h2⟩
    · cases h
end

mutual
theorem VR.toV {g : G} : ∀ {v : V} {x y : Value}, VR g v x → toV v = some y → x = y
  | .bool _, _, _, r, h => by simp [AE.toV] at h; subst h; exact r
  | .int .., _, _, r, h => by simp [AE.toV] at h; subst h; exact r
  | .str _, _, _, r, h => by simp [AE.toV] at h; subst h; exact r
  | .nilp, _, _, r, h => by simp [AE.toV] at h; subst h; exact r
  | .nilsl, _, _, r, h => by simp [AE.toV] at h; subst h; exact r
  | .nilmap, _, _, r, h => by simp [AE.toV] at h; subst h; exact r
  | .nilfn, _, _, r, h => by simp [AE.toV] at h; subst h; exact r
  | .nilif, _, _, r, h => by simp [AE.toV] at h; subst h; exact r
  | .agg l, _, _, ⟨xs, e, r⟩, h => by
    unfold AE.toV at h
    split at h
    · rename_i l' hl; cases h; rw [e, VRs.toVs r hl]
    · cases h
  | .tup l, _, _, ⟨xs, e, r⟩, h => by
    unfold AE.toV at h
    split at h
    · rename_i l' hl; cases h; rw [e, VRs.toVs r hl]
    · cases h
  | .iface t v, _, _, ⟨y, e, r⟩, h => by
    unfold AE.toV at h
    split at h
    · rename_i l' hl; cases h; rw [e, VR.toV r hl]
    · cases h
  | .ptr .., _, _, _, h | .sl .., _, _, _, h | .emp, _, _, _, h | .fn .., _, _, _, h | .yld _, _, _, _, h | .map _, _, _, _, h | .unk, _, _, _, h => by simp [AE.toV] at h
theorem VRs.toVs {g : G} : ∀ {v : List V} {x y : List Value}, VRs g v x → toVs v = some y → x = y
  | [], _, _, r, h => by simp [AE.toVs] at h; subst h; exact r
  | _ :: _, _, _, ⟨x, xs, e, a, b⟩, h => by
    unfold AE.toVs at h
    split at h
    · rename_i y ys h1 h2; cases h; rw [e, VR.toV a h1, VRs.toVs b h2]
    · cases h
end

/-- a value of one cell -/
def Cell (x : Value) : Prop := match x with | .agg _ | .tuple _ => False | _ => True

theorem VR.cell {g : G} {v : V} {x : Value} (h : VR g v x) (hc : isCell v = true) : Cell x ∧ x.cells = #[x] := by
  cases v <;> simp [isCell] at hc <;> simp only [VR] at h
  case int => subst h; exact ⟨trivial, rfl⟩
  case bool => subst h; exact ⟨trivial, rfl⟩
  case ptr => obtain ⟨_, _, rfl⟩ := h; exact ⟨trivial, rfl⟩
  case sl => obtain ⟨_, _, _, rfl, _⟩ := h; exact ⟨trivial, rfl⟩
  case str => subst h; exact ⟨trivial, rfl⟩
  case nilp => subst h; exact ⟨trivial, rfl⟩
  case nilsl => subst h; exact ⟨trivial, rfl⟩
  case emp => obtain ⟨_, _, rfl⟩ := h; exact ⟨trivial, rfl⟩
  case fn => obtain ⟨_, _, rfl, _⟩ := h; exact ⟨trivial, rfl⟩
  case yld => obtain ⟨_, _, rfl⟩ := h; exact ⟨trivial, rfl⟩
  case nilfn => subst h; exact ⟨trivial, rfl⟩
  case iface => obtain ⟨_, rfl, _⟩ := h; exact ⟨trivial, rfl⟩
  case nilif => subst h; exact ⟨trivial, rfl⟩
  case map => obtain ⟨_, _, rfl⟩ := h; exact ⟨trivial, rfl⟩
  case nilmap => subst h; exact ⟨trivial, rfl⟩
  case unk => obtain ⟨_, _, rfl⟩ := h; exact ⟨trivial, rfl⟩

/-- the cells of a value -/
theorem VR.cells {g : G} {v : V} {x : Value} (h : VR g v x) (hc : allCells (cellsV v) = true) : VRs g (cellsV v) x.cells.toList := by
  cases v with
  | agg l => obtain ⟨xs, rfl, r⟩ := h; exact r
  | tup l => simp [cellsV, allCells, isCell] at hc
  | _ =>
    have := VR.cell h rfl
    rw [this.2]
    exact ⟨x, [], rfl, h, rfl⟩

theorem VR.len {g : G} {v : V} {x : Value} (h : VR g v x) : x.cells.size = (cellsV v).length := by
  cases v with
  | agg l => obtain ⟨xs, rfl, r⟩ := h; simpa [Value.cells, cellsV] using r.length
  | tup l => obtain ⟨xs, rfl, r⟩ := h; rfl
  | _ => rw [(VR.cell h rfl).2]; rfl

end Go.AE

namespace Go.AE

/-- the entries of a map, the i-th laid at time i -/
def MR (g : G) : Nat → List (V × V) → List MapEntry → Prop
  | _, [], l => l = []
  | i, (k, v) :: es, l => ∃ e r, l = e :: r ∧ VR g k e.key ∧ VR g v e.val ∧ e.born = i ∧ MR g (i + 1) es r

theorem MR.mono {g g' : G} (h : g.le g') : ∀ {es : List (V × V)} {i : Nat} {l : List MapEntry}, MR g i es l → MR g' i es l
  | [], _, _, r => r
  | (_, _) :: _, _, _, ⟨e, r, q, a, b, c, d⟩ => ⟨e, r, q, a.mono h, b.mono h, c, d.mono h⟩

theorem MR.length {g : G} : ∀ {es : List (V × V)} {i : Nat} {l : List MapEntry}, MR g i es l → l.length = es.length
  | [], _, _, r => by cases r; rfl
  | (_, _) :: _, _, _, ⟨e, r, q, _, _, _, d⟩ => by subst q; simp [MR.length d]

/-- the temporaries: what a tree holds of them -/
def TM (M : Nat) (g : G) (σ : T V) (tmps : Array Value) : Prop :=
  ∀ t v, Nat.testBit M t = false → σ.get t = some v → ∃ x, tmps[t]? = some x ∧ VR g v x

theorem TM.mono {M : Nat} {g g' : G} {σ : T V} {tmps : Array Value} (h : g.le g') (r : TM M g σ tmps) : TM M g' σ tmps :=
  fun t v a b => let ⟨x, c, d⟩ := r t v a b; ⟨x, c, d.mono h⟩

/-- a block of the evaluator's in the machine's memory -/
def ObR (K : Kon) (g : G) (w : World) (e : Gh) : Ob → Prop
  | .cells c n _ sz => ∃ cs ty, w.heap[e.b]? = some (.cells cs ty (0, 0)) ∧ e.sz = sz ∧ n ≤ e.ext ∧ e.o + e.ext ≤ cs.size ∧ ∀ j v, c.get j = some v → ∃ x, cs[e.o + j]? = some x ∧ VR g v x
  | .map es => ∃ entries, w.heap[e.b]? = some (.map entries es.length) ∧ MR g 0 es entries.toList
  | .miter m since seen => ∃ em, g m = some em ∧ w.heap[e.b]? = some (.mapIter (some em.b) since (if seen = 0 then #[] else #[0]) since) ∧ e.o = 0
  | .loop st pend f σ ps a b d => ∃ r ed, w.heap[e.b]? = some (.loop r) ∧ r.state = st ∧ r.pending = pend ∧ r.params.toList = ps ∧ r.assign = a ∧ r.body = b ∧ g d = some ed ∧ r.defers = ed.b ∧
      (∀ fn, K.P.funcs[f]? = some fn → fn.ntmps ≤ r.tmps.size) ∧ TM (K.M f) g σ r.tmps
  | .dfr taken => w.heap[e.b]? = some (.deferred (cond taken none (some [])))

theorem ObR.lt {K : Kon} {g : G} {w : World} {e : Gh} {ob : Ob} (h : ObR K g w e ob) : e.b < w.heap.size := by
  cases ob <;> simp only [ObR] at h
  case cells => obtain ⟨_, _, h, _⟩ := h; exact (Array.getElem?_eq_some_iff.1 h).1
  case map => obtain ⟨_, h, _⟩ := h; exact (Array.getElem?_eq_some_iff.1 h).1
  case miter => obtain ⟨_, _, h, _⟩ := h; exact (Array.getElem?_eq_some_iff.1 h).1
  case loop => obtain ⟨_, _, h, _⟩ := h; exact (Array.getElem?_eq_some_iff.1 h).1
  case dfr => exact (Array.getElem?_eq_some_iff.1 h).1

/-- a block that lies as it lay -/
theorem ObR.same {K : Kon} {g g' : G} {w w' : World} {e : Gh} {ob : Ob} (hg : g.le g') (hw : w'.heap[e.b]? = w.heap[e.b]?) (h : ObR K g w e ob) : ObR K g' w' e ob := by
  cases ob <;> simp only [ObR] at h ⊢
  case cells =>
    obtain ⟨cs, ty, h1, h2, h3, h4, h5⟩ := h
    exact ⟨cs, ty, hw ▸ h1, h2, h3, h4, fun j v hv => let ⟨x, a, b⟩ := h5 j v hv; ⟨x, a, b.mono hg⟩⟩
  case map => obtain ⟨es, h1, h2⟩ := h; exact ⟨es, hw ▸ h1, h2.mono hg⟩
  case miter => obtain ⟨em, h1, h2, h3⟩ := h; exact ⟨em, hg _ _ h1, hw ▸ h2, h3⟩
  case loop =>
    obtain ⟨r, ed, h1, h2, h3, h4, h5, h6, h7, h8, h9, h10⟩ := h
    exact ⟨r, ed, hw ▸ h1, h2, h3, h4, h5, h6, hg _ _ h7, h8, h9, h10.mono hg⟩
  case dfr => exact hw ▸ h

/-- the memory -/
structure Rep (K : Kon) (g : G) (t : T Ob) (w : World) : Prop where
  ob : ∀ i ob, t.get i = some ob → ∃ e, g i = some e ∧ ObR K g w e ob
  inj : ∀ i j a b e f, t.get i = some a → t.get j = some b → g i = some e → g j = some f → i ≠ j → e.b ≠ f.b
  glob : ∀ i, i < K.g → ∃ e, g i = some e ∧ e.b = i ∧ e.o = 0 ∧ i < w.heap.size

/-- a block that may be turned -/
def Own (K : Kon) (g : G) (t : T Ob) (b : Nat) : Prop := ∃ i ob e, K.g ≤ i ∧ t.get i = some ob ∧ g i = some e ∧ e.b = b

/-- what a piece of code does to the memory -/
structure Stp (K : Kon) (g : G) (t : T Ob) (w : World) (g' : G) (t' : T Ob) (w' : World) : Prop where
  le : g.le g'
  size : w.heap.size ≤ w'.heap.size
  keep : ∀ b, b < w.heap.size → ¬ Own K g t b → w'.heap[b]? = w.heap[b]?
  own : ∀ b, Own K g' t' b → Own K g t b ∨ w.heap.size ≤ b
  os : w'.os = w.os
  out : w'.output = w.output
  tape : w'.tape = w.tape

theorem Stp.refl {K : Kon} (g : G) (t : T Ob) (w : World) : Stp K g t w g t w :=
  ⟨.refl g, Nat.le_refl _, fun _ _ _ => rfl, fun _ h => .inl h, rfl, rfl, rfl⟩

theorem Stp.trans {K : Kon} {g g' g'' : G} {t t' t'' : T Ob} {w w' w'' : World} (h : Stp K g t w g' t' w') (k : Stp K g' t' w' g'' t'' w'') : Stp K g t w g'' t'' w'' where
  le := h.le.trans k.le
  size := Nat.le_trans h.size k.size
  keep b hb hn := by
    rw [k.keep b (Nat.lt_of_lt_of_le hb h.size) (fun ho => ?_), h.keep b hb hn]
    rcases h.own b ho with h' | h'
    · exact hn h'
    · omega
  own b hb := by
    rcases k.own b hb with h' | h'
    · exact h.own b h'
    · exact .inr (Nat.le_trans h.size h')
  os := k.os.trans h.os
  out := k.out.trans h.out
  tape := k.tape.trans h.tape

/-- ghosts below a bound -/
def NB (g : G) (n : Nat) : Prop := ∀ i e, g i = some e → i < n

/-- one ghost more -/
def G.put (g : G) (i : Nat) (e : Gh) : G := fun j => if j = i then some e else g j

theorem G.le_put {g : G} {i : Nat} {e : Gh} (h : g i = none) : g.le (g.put i e) := fun j f hj => by
  unfold G.put
  split
  · rename_i hji; subst hji; rw [h] at hj; cases hj
  · exact hj

theorem NB.put {g : G} {n i : Nat} {e : Gh} (h : NB g n) (hi : i < n) : NB (g.put i e) n := fun j f hj => by
  unfold G.put at hj
  split at hj
  · omega
  · exact h j f hj

theorem NB.mono {g : G} {n m : Nat} (h : NB g n) (hm : n ≤ m) : NB g m := fun j f hj => Nat.lt_of_lt_of_le (h j f hj) hm

/-- A NEW BLOCK. -/
theorem Rep.alloc {K : Kon} {g : G} {t t' : T Ob} {w : World} {i : Nat} {e : Gh} {ob : Ob} {o : Obj} (h : Rep K g t w) (hi : g i = none) (hK : K.g ≤ i)
    (ht : ∀ j, t'.get j = if j = i then some ob else t.get j) (he : e.b = w.heap.size)
    (ho : ObR K (g.put i e) (w.alloc o) e ob) : Rep K (g.put i e) t' (w.alloc o) ∧ Stp K g t w (g.put i e) t' (w.alloc o) := by
  have hle := G.le_put (e := e) hi
  have hheap : ∀ b, b < w.heap.size → (w.alloc o).heap[b]? = w.heap[b]? := fun b hb => by
    show (w.heap.push o)[b]? = _
    rw [Array.getElem?_push_lt hb]
    simp [Array.getElem?_eq_getElem hb]
  have hti : t.get i = none := by
    cases hh : t.get i with
    | none => rfl
    | some ob' => obtain ⟨e', h1, _⟩ := h.ob i ob' hh; rw [hi] at h1; cases h1
  refine ⟨⟨fun j ob' hj => ?_, fun j k a b e1 e2 hj hk g1 g2 hne => ?_, fun j hj => ?_⟩, ⟨hle, ?_, fun b hb _ => hheap b hb, fun b hb => ?_, rfl, rfl, rfl⟩⟩
  · rw [ht] at hj
    split at hj
    · rename_i hji; subst hji; cases hj; exact ⟨e, by simp [G.put], ho⟩
    · obtain ⟨e', h1, h2⟩ := h.ob j ob' hj
      exact ⟨e', hle _ _ h1, h2.same hle (hheap _ h2.lt)⟩
  · rw [ht] at hj hk
    have low : ∀ q c f, q ≠ i → t.get q = some c → (g.put i e) q = some f → f.b < w.heap.size := fun q c f hq hc hf => by
      obtain ⟨e', h1, h2⟩ := h.ob q c hc
      unfold G.put at hf
      rw [if_neg hq, h1] at hf
      cases hf; exact h2.lt
    by_cases e1' : j = i
    · by_cases e2' : k = i
      · omega
      · rw [if_neg e2'] at hk
        have := low k b e2 e2' hk g2
        subst e1'
        simp [G.put] at g1
        subst g1
        omega
    · rw [if_neg e1'] at hj
      by_cases e2' : k = i
      · have := low j a e1 e1' hj g1
        subst e2'
        simp [G.put] at g2
        subst g2
        omega
      · rw [if_neg e2'] at hk
        simp only [G.put, e1', e2', if_false] at g1 g2
        exact h.inj j k a b e1 e2 hj hk g1 g2 hne
  · obtain ⟨e', h1, h2⟩ := h.glob j hj
    exact ⟨e', hle _ _ h1, h2.1, h2.2.1, Nat.lt_of_lt_of_le h2.2.2 (by rw [World.size_alloc]; omega)⟩
  · show w.heap.size ≤ (w.heap.push o).size
    simp
  · obtain ⟨j, ob', e', h0, h1, h2, h3⟩ := hb
    rw [ht] at h1
    by_cases hji : j = i
    · subst hji
      simp [G.put] at h2
      subst h2
      exact .inr (by omega)
    · rw [if_neg hji] at h1
      simp only [G.put, hji, if_false] at h2
      exact .inl ⟨j, ob', e', h0, h1, h2, h3⟩

/-- A BLOCK TURNED IN ITS PLACE: only the machine's block of it is another. -/
theorem Rep.turn {K : Kon} {g : G} {t t' : T Ob} {w w' : World} {i : Nat} {e : Gh} {ob ob' : Ob} (h : Rep K g t w) (hi : t.get i = some ob) (hg : g i = some e) (hK : K.g ≤ i)
    (ht : ∀ j, t'.get j = if j = i then some ob' else t.get j) (hs : w'.heap.size = w.heap.size) (hw : ∀ b, b ≠ e.b → w'.heap[b]? = w.heap[b]?)
    (hr : w'.os = w.os ∧ w'.output = w.output ∧ w'.tape = w.tape) (ho : ObR K g w' e ob') : Rep K g t' w' ∧ Stp K g t w g t' w' := by
  have own : Own K g t e.b := ⟨i, ob, e, hK, hi, hg, rfl⟩
  refine ⟨⟨fun j o hj => ?_, fun j k a b e1 e2 hj hk g1 g2 hne => ?_, fun j hj => let ⟨e, q1, q2, q3, q4⟩ := h.glob j hj; ⟨e, q1, q2, q3, hs ▸ q4⟩⟩, ⟨.refl g, by omega, fun b _ hb => hw b fun he => hb (he ▸ own), fun b hb => ?_, hr.1, hr.2.1, hr.2.2⟩⟩
  · rw [ht] at hj
    split at hj
    · rename_i hji; subst hji; cases hj; exact ⟨e, hg, ho⟩
    · rename_i hji
      obtain ⟨e', h1, h2⟩ := h.ob j o hj
      exact ⟨e', h1, h2.same (.refl g) (hw _ (h.inj j i o ob e' e hj hi h1 hg hji))⟩
  · have l : ∀ q c, t'.get q = some c → ∃ c', t.get q = some c' := fun q c hq => by
      rw [ht] at hq
      split at hq
      · rename_i hqi; exact ⟨ob, hqi ▸ hi⟩
      · exact ⟨c, hq⟩
    obtain ⟨a', ha⟩ := l j a hj
    obtain ⟨b', hb⟩ := l k b hk
    exact h.inj j k a' b' e1 e2 ha hb g1 g2 hne
  · obtain ⟨j, o, e', h0, h1, h2, h3⟩ := hb
    rw [ht] at h1
    split at h1
    · rename_i hji; subst hji
      rw [hg] at h2; cases h2; exact .inl (h3 ▸ own)
    · exact .inl ⟨j, o, e', h0, h1, h2, h3⟩

/-- fewer blocks are known -/
theorem Rep.sub {K : Kon} {g : G} {t t' : T Ob} {w : World} (h : Rep K g t w) (ht : ∀ j o, t'.get j = some o → t.get j = some o) : Rep K g t' w ∧ Stp K g t w g t' w :=
  ⟨⟨fun j o hj => h.ob j o (ht j o hj), fun j k a b e f hj hk => h.inj j k a b e f (ht j a hj) (ht k b hk), h.glob⟩,
   ⟨.refl g, Nat.le_refl _, fun _ _ _ => rfl, fun b ⟨j, o, e, h0, h1, h2, h3⟩ => .inl ⟨j, o, e, h0, ht j o h1, h2, h3⟩, rfl, rfl, rfl⟩⟩

end Go.AE

namespace Go.AE

def findL (t : Nat) : List (Nat × V) → Option V
  | [] => none
  | p :: l => cond (Nat.beq p.1 t) (some p.2) (findL t l)

theorem find_spec {t : Nat} {k : KV} : ∀ {l : List (Nat × V)}, find t l k ≠ .fail → ∃ v, findL t l = some v ∧ find t l k = k v
  | [], h => absurd rfl h
  | (u, v) :: l, h => by
    have e : find t ((u, v) :: l) k = Bool.rec (find t l k) (k v) (Nat.beq u t) := rfl
    rw [e] at h ⊢
    unfold findL
    cases hb : Nat.beq u t with
    | true => exact ⟨v, rfl, rfl⟩
    | false => rw [hb] at h; exact find_spec h

/-- deferred calls -/
def DR (g : G) : List D → List Deferred → Prop
  | [], ds => ds = []
  | .call f vs :: l, ds => ∃ args cap r, ds = { target := .fn (.func f) ⟨cap⟩, args := ⟨args⟩ } :: r ∧ VRs g vs (args ++ cap) ∧ DR g l r
  | .coll i :: l, ds => ∃ e r, ds = { target := .collected e.b, args := #[] } :: r ∧ g i = some e ∧ DR g l r

theorem DR.mono {g g' : G} (h : g.le g') : ∀ {l : List D} {ds : List Deferred}, DR g l ds → DR g' l ds
  | [], _, r => r
  | .call _ _ :: _, _, ⟨a, c, r, e, x, y⟩ => ⟨a, c, r, e, x.mono h, y.mono h⟩
  | .coll _ :: _, _, ⟨e, r, q, x, y⟩ => ⟨e, r, q, h _ _ x, y.mono h⟩

/-- A frame and the memory stand for the machine's. -/
structure SR (K : Kon) (M N : Nat) (g : G) (s : St) (a : Act) (w : World) : Prop where
  size : N ≤ a.tmps.size
  tm : TM M g s.σ a.tmps
  loc : ∀ t v, Nat.testBit M t = true → findL t s.loc = some v → ∃ x, a.tmps[t]? = some x ∧ VR g v x
  dfs : DR g s.d a.defers
  rep : Rep K g s.t w
  nb : NB g s.n

theorem SR.low {K : Kon} {M N : Nat} {g : G} {s : St} {a : Act} {w : World} (h : SR K M N g s a w) : K.g ≤ s.n := by
  rcases Nat.lt_or_ge s.n K.g with h' | h'
  · obtain ⟨e, he, _⟩ := h.rep.glob _ h'
    exact absurd (h.nb _ _ he) (Nat.lt_irrefl _)
  · exact h'

/-- the same frame over a memory of which more is known -/
theorem SR.step {K : Kon} {M N : Nat} {g g' : G} {s s' : St} {a : Act} {w w' : World} (h : SR K M N g s a w) (hs : Stp K g s.t w g' s'.t w') (hr : Rep K g' s'.t w') (hn : NB g' s'.n)
    (h1 : s'.σ = s.σ) (h2 : s'.loc = s.loc) (h3 : s'.d = s.d) : SR K M N g' s' a w' where
  size := h.size
  tm := h1 ▸ h.tm.mono hs.le
  loc t v hm hf := let ⟨x, e, r⟩ := h.loc t v hm (h2 ▸ hf); ⟨x, e, r.mono hs.le⟩
  dfs := h3 ▸ h.dfs.mono hs.le
  rep := hr
  nb := hn

theorem getD_of_getElem? {l : Array Value} {t : Nat} {x d : Value} (h : l[t]? = some x) : l.getD t d = x := by
  simp [Array.getD_eq_getD_getElem?, h]

/-- OPERANDS. -/
theorem opd_spec {M gn : Nat} {x : Operand} {s : St} {k : KV} (h : opd (opdOf M gn x) s k ≠ .fail) :
    ∃ v, opd (opdOf M gn x) s k = k v ∧ ∀ (K : Kon) N g a w, K.g = gn → SR K M N g s a w → VR g v (a.eval x) := by
  cases x with
  | tmp t =>
    cases hm : Nat.testBit M t with
    | true =>
      have e0 : opdOf M gn (.tmp t) = .l t := by simp [opdOf, hm]
      rw [e0] at h ⊢
      obtain ⟨v, h1, h2⟩ := find_spec (t := t) (k := k) (l := s.loc) h
      refine ⟨v, h2, fun K N g a w _ hS => ?_⟩
      obtain ⟨x, e, r⟩ := hS.loc t v hm h1
      show VR g v (a.tmps.getD t undef)
      rw [getD_of_getElem? e]; exact r
    | false =>
      have e0 : opdOf M gn (.tmp t) = .t t := by simp [opdOf, hm]
      rw [e0] at h ⊢
      obtain ⟨v, h1, h2⟩ := may_ne (o := s.σ.get t) (k := k) h
      refine ⟨v, h2, fun K N g a w _ hS => ?_⟩
      obtain ⟨x, e, r⟩ := hS.tm t v hm h1
      show VR g v (a.tmps.getD t undef)
      rw [getD_of_getElem? e]; exact r
  | const c =>
    cases hc : ofV c with
    | none =>
      have e0 : opdOf M gn (.const c) = .no := by simp [opdOf, hc]
      rw [e0] at h; exact absurd rfl h
    | some v =>
      have e0 : opdOf M gn (.const c) = .c v := by simp [opdOf, hc]
      rw [e0]
      exact ⟨v, rfl, fun K N g a w _ _ => VR.ofV hc⟩
  | global i =>
    cases hb : Nat.blt i gn with
    | false =>
      have e0 : opdOf M gn (.global i) = .no := by simp [opdOf, hb]
      rw [e0] at h; exact absurd rfl h
    | true =>
      have e0 : opdOf M gn (.global i) = .c (.ptr i 0) := by simp [opdOf, hb]
      rw [e0]
      refine ⟨.ptr i 0, rfl, fun K N g a w hK hS => ?_⟩
      have hlt : i < gn := by simpa [Nat.blt_eq] using hb
      obtain ⟨e, h1, h2, h3, _⟩ := hS.rep.glob i (hK ▸ hlt)
      exact ⟨e, h1, by rw [h2, h3]; rfl⟩
  | func f => exact ⟨.fn f [] [], rfl, fun K N g a w _ _ => ⟨[], [], rfl, rfl, rfl⟩⟩

theorem opds_spec {M gn : Nat} {s : St} : ∀ {xs : List Operand} {k : List V → Res}, opds (xs.map (opdOf M gn)) s k ≠ .fail →
    ∃ vs, opds (xs.map (opdOf M gn)) s k = k vs ∧ ∀ (K : Kon) N g a w, K.g = gn → SR K M N g s a w → VRs g vs (xs.map a.eval)
  | [], k, _ => ⟨[], rfl, fun _ _ _ _ _ _ _ => rfl⟩
  | x :: xs, k, h => by
    have e : opds ((x :: xs).map (opdOf M gn)) s k = opd (opdOf M gn x) s fun v => opds (xs.map (opdOf M gn)) s fun vs => k (v :: vs) := rfl
    rw [e] at h ⊢
    obtain ⟨v, h1, h2⟩ := opd_spec h
    rw [h1] at h ⊢
    obtain ⟨vs, h3, h4⟩ := opds_spec h
    exact ⟨v :: vs, h3, fun K N g a w hK hS => ⟨_, _, rfl, h2 K N g a w hK hS, h4 K N g a w hK hS⟩⟩

/-- A VALUE PUT WHERE IT GOES. -/
theorem put_spec {M N : Nat} {dst : Option Tmp} {v : V} {s : St} {k : KS} (h : put (dstOf M N dst) v s k ≠ .fail) :
    ∃ s', put (dstOf M N dst) v s k = k s' ∧ s'.t = s.t ∧ s'.n = s.n ∧ s'.d = s.d ∧
      ∀ (K : Kon) g a w x, SR K M N g s a w → VR g v x → SR K M N g s' (a.put dst x) w := by
  cases dst with
  | none => exact ⟨s, rfl, rfl, rfl, rfl, fun K g a w x hS _ => hS⟩
  | some t =>
    cases hb : Nat.blt t N with
    | false =>
      have e0 : dstOf M N (some t) = .bad := by simp [dstOf, hb]
      rw [e0] at h; exact absurd rfl h
    | true =>
      have hlt : t < N := by simpa [Nat.blt_eq] using hb
      have get_put : ∀ (a : Act) (x : Value), N ≤ a.tmps.size → ∀ j, (a.put (some t) x).tmps[j]? = if j = t then some x else a.tmps[j]? := fun a x hs j => by
        show (a.tmps.setIfInBounds t x)[j]? = _
        rw [Array.getElem?_setIfInBounds]
        by_cases hj : t = j
        · subst hj; rw [if_pos rfl, if_pos rfl, if_pos (Nat.lt_of_lt_of_le hlt hs)]
        · rw [if_neg hj, if_neg (fun h => hj h.symm)]
      cases hm : Nat.testBit M t with
      | true =>
        have e0 : dstOf M N (some t) = .l t := by simp [dstOf, hb, hm]
        rw [e0]
        refine ⟨⟨(t, v) :: s.loc, s.σ, s.d, s.t, s.n⟩, rfl, rfl, rfl, rfl, fun K g a w x hS hv => ⟨?_, fun u y hu hy => ?_, fun u y hu hy => ?_, hS.dfs, hS.rep, hS.nb⟩⟩
        · show N ≤ (a.tmps.setIfInBounds t x).size
          simpa using hS.size
        · rw [get_put a x hS.size]
          have : u ≠ t := fun e => by subst e; rw [hm] at hu; cases hu
          rw [if_neg this]
          exact hS.tm u y hu hy
        · rw [get_put a x hS.size]
          unfold findL at hy
          by_cases e : u = t
          · subst e
            have : Nat.beq u u = true := by simp
            simp only [this, cond] at hy
            cases hy
            exact ⟨x, by simp, hv⟩
          · have : Nat.beq t u = false := by
              cases hb' : Nat.beq t u with
              | false => rfl
              | true => exact absurd (Nat.eq_of_beq_eq_true hb').symm e
            simp only [this, cond] at hy
            rw [if_neg e]
            exact hS.loc u y hu hy
      | false =>
        have e0 : dstOf M N (some t) = .t t := by simp [dstOf, hb, hm]
        have e : put (Dst.t t) v s k = T.set .fail (some v) s.σ t fun σ => k ⟨s.loc, σ, s.d, s.t, s.n⟩ := rfl
        rw [e0, e] at h ⊢
        obtain ⟨σ', h1, h2⟩ := set_spec h
        refine ⟨⟨s.loc, σ', s.d, s.t, s.n⟩, h1, rfl, rfl, rfl, fun K g a w x hS hv => ⟨?_, fun u y hu hy => ?_, fun u y hu hy => ?_, hS.dfs, hS.rep, hS.nb⟩⟩
        · show N ≤ (a.tmps.setIfInBounds t x).size
          simpa using hS.size
        · rw [get_put a x hS.size]
          rw [h2] at hy
          by_cases e : u = t
          · rw [if_pos e] at hy ⊢
            cases hy
            exact ⟨x, rfl, hv⟩
          · rw [if_neg e] at hy ⊢
            exact hS.tm u y hu hy
        · rw [get_put a x hS.size]
          have : u ≠ t := fun e => by subst e; rw [hm] at hu; cases hu
          rw [if_neg this]
          exact hS.loc u y hu hy

/-- a new block's number -/
def NewId (fr : Option Nat) (n n' : Nat) (i : Nat) : Prop := match fr with | none => n ≤ i ∧ i < n' | some j => i = j

/-- where a new block may be laid -/
def Free (K : Kon) (fr : Option Nat) (g : G) (n : Nat) : Prop := match fr with | none => True | some j => g j = none ∧ K.g ≤ j ∧ j < n

/-- what an operation does beside its value -/
structure Did (K : Kon) (fr : Option Nat) (g : G) (s : St) (w : World) (g' : G) (s' : St) (w' : World) : Prop where
  stp : Stp K g s.t w g' s'.t w'
  rep : Rep K g' s'.t w'
  new : ∀ i e, g' i = some e → g i = some e ∨ NewId fr s.n s'.n i

theorem Did.same {K : Kon} {fr : Option Nat} {g : G} {s : St} {w : World} (h : Rep K g s.t w) : Did K fr g s w g s w := ⟨.refl _ _ _, h, fun _ _ h => .inl h⟩

/-- the frame is as it was -/
def SameF (fr : Option Nat) (s s' : St) : Prop := s'.σ = s.σ ∧ s'.loc = s.loc ∧ s'.d = s.d ∧ (match fr with | none => s.n ≤ s'.n | some _ => s'.n = s.n)

theorem SameF.refl (fr : Option Nat) (s : St) : SameF fr s s := ⟨rfl, rfl, rfl, by cases fr <;> simp⟩

theorem Did.nb {K : Kon} {fr : Option Nat} {g : G} {s : St} {w : World} {g' : G} {s' : St} {w' : World} (h : Did K fr g s w g' s' w') (hn : NB g s.n) (hf : Free K fr g s.n) (hs : SameF fr s s') : NB g' s'.n := fun i e hi => by
  obtain ⟨_, _, _, hs⟩ := hs
  rcases h.new i e hi with h' | h'
  · have := hn _ _ h'
    cases fr <;> simp at hs <;> omega
  · cases fr with
    | none => exact h'.2
    | some j =>
      simp only [NewId] at h'
      simp only at hs
      have := hf.2.2
      omega

theorem Did.sr {K : Kon} {M N : Nat} {fr : Option Nat} {g : G} {s : St} {a : Act} {w : World} {g' : G} {s' : St} {w' : World} (h : Did K fr g s w g' s' w') (hS : SR K M N g s a w) (hf : Free K fr g s.n) (hs : SameF fr s s') :
    SR K M N g' s' a w' :=
  hS.step h.stp h.rep (h.nb hS.nb hf hs) hs.1 hs.2.1 hs.2.2.1

/-- A NEW BLOCK LAID. -/
theorem newOb_spec {fr : Option Nat} {ob : Ob} {s : St} {k : Nat → St → Res} (h : newOb fr ob s k ≠ .fail) :
    ∃ i s', newOb fr ob s k = k i s' ∧ SameF fr s s' ∧ (∀ j, s'.t.get j = if j = i then some ob else s.t.get j) ∧ i = fr.getD s.n ∧ (fr = none → s'.n = s.n + 1) := by
  cases fr with
  | none =>
    have e : newOb none ob s k = T.set .fail (some ob) s.t s.n fun t => natK (Nat.succ s.n) fun m => k s.n ⟨s.loc, s.σ, s.d, t, m⟩ := rfl
    rw [e] at h ⊢
    obtain ⟨t', h1, h2⟩ := set_spec h
    rw [h1, natK_eq]
    exact ⟨s.n, ⟨s.loc, s.σ, s.d, t', s.n.succ⟩, rfl, ⟨rfl, rfl, rfl, Nat.le_succ _⟩, h2, rfl, fun _ => rfl⟩
  | some j =>
    have e : newOb (some j) ob s k = T.set .fail (some ob) s.t j fun t => k j ⟨s.loc, s.σ, s.d, t, s.n⟩ := rfl
    rw [e] at h ⊢
    obtain ⟨t', h1, h2⟩ := set_spec h
    rw [h1]
    exact ⟨j, ⟨s.loc, s.σ, s.d, t', s.n⟩, rfl, ⟨rfl, rfl, rfl, rfl⟩, h2, rfl, fun h => by cases h⟩

/-- .. and in the machine. -/
theorem newOb_did {K : Kon} {M N : Nat} {fr : Option Nat} {g : G} {s s' : St} {a : Act} {w : World} {i : Nat} {ob : Ob} {o : Obj} {e : Gh} (hS : SR K M N g s a w) (hf : Free K fr g s.n)
    (ht : ∀ j, s'.t.get j = if j = i then some ob else s.t.get j) (hi : i = fr.getD s.n) (hn : fr = none → s'.n = s.n + 1) (he : e.b = w.heap.size)
    (ho : ObR K (g.put i e) (w.alloc o) e ob) : Did K fr g s w (g.put i e) s' (w.alloc o) ∧ (g.put i e) i = some e := by
  have hgi : g i = none ∧ K.g ≤ i := by
    cases fr with
    | none =>
      subst hi
      refine ⟨?_, hS.low⟩
      cases hh : g s.n with
      | none => exact hh
      | some e => exact absurd (hS.nb _ _ hh) (Nat.lt_irrefl _)
    | some j => subst hi; exact ⟨hf.1, hf.2.1⟩
  obtain ⟨r, p⟩ := hS.rep.alloc hgi.1 hgi.2 ht he ho
  refine ⟨⟨p, r, fun j e' hj => ?_⟩, by simp [G.put]⟩
  unfold G.put at hj
  split at hj
  · rename_i hji
    refine .inr ?_
    cases fr with
    | none => have := hn rfl; simp only [NewId]; simp at hi; omega
    | some q => simpa [NewId] using hji.trans hi
  · exact .inl hj

end Go.AE

namespace Go.AE

/-- A VALUE's OPERATION: what the evaluator answers, the machine answers. -/
def OpV (K : Kon) (X : Cx) (o : Oper) (f : IOp) : Prop := ∀ cal fr s k, f cal fr s k ≠ .fail →
  ∃ v s', f cal fr s k = k v s' ∧ SameF fr s s' ∧ ∀ g a w, SR K X.M X.N g s a w → Free K fr g s.n →
    ∃ g' w' nx x, (execOp a.eval o).run K.P w = .ok nx w' ∧ (nx = .value x ∨ (nx = .skip ∧ x = undef)) ∧ VR g' v x ∧ Did K fr g s w g' s' w'

theorem OpV.no {K : Kon} {X : Cx} {o : Oper} : OpV K X o no := fun _ _ _ _ h => absurd rfl h

section
variable {α β : Type} {P : Program} {w w' : World}
theorem bind_ok {x : Sem α} {f : α → Sem β} {a : α} (h : x.run P w = .ok a w') : (x >>= f).run P w = (f a).run P w' := by
  simp [Sem.run_bind, h]
theorem map_val {x : Sem Value} {v : Value} (h : x.run P w = .ok v w') : (do pure (.value (← x)) : Sem Next).run P w = .ok (.value v) w' := by
  rw [bind_ok h]; rfl
theorem map_skip {x : Sem Unit} (h : x.run P w = .ok () w') : (do x; pure .skip : Sem Next).run P w = .ok .skip w' := by
  show (x >>= fun _ => pure Next.skip).run P w = _
  rw [bind_ok h]; rfl
theorem r_under {t : TypeId} {d : TypeDesc} (h : P.underlying t = some d) : (underlying t).run P w = .ok d w := by simp [underlying, h]
theorem r_info {t : TypeId} {i : TypeInfo} (h : P.info? t = some i) : (typeInfo t).run P w = .ok i w := by simp [typeInfo, h]
end

theorem sizeT_some {P : Program} {t : TypeId} {n : Nat} (h : sizeT P t = some n) : ∃ i, P.info? t = some i ∧ i.size = n := by
  unfold sizeT at h
  split at h
  · rename_i i hi; cases h; exact ⟨i, hi, rfl⟩
  · cases h
theorem r_size {P : Program} {w : World} {t : TypeId} {n : Nat} (h : sizeT P t = some n) : (sizeOf t).run P w = .ok n w := by
  obtain ⟨i, hi, rfl⟩ := sizeT_some h
  simp [sizeOf, typeInfo, hi]
theorem r_isAgg {P : Program} {w : World} {t : TypeId} {b : Bool} (h : isAggT P t = some b) : (isAgg t).run P w = .ok b w := by
  unfold isAggT at h
  unfold isAgg
  split at h <;> first | (cases h; rename_i hu; rw [bind_ok (r_under hu)]; rfl) | skip
  · cases h
    rename_i d hu h1 h2
    rw [bind_ok (r_under h2)]
    split
    · rename_i fs; exact absurd rfl (hu fs)
    · rename_i a b; exact absurd rfl (h1 a b)
    · rfl
  · cases h
theorem r_zero {P : Program} {w : World} {g : G} {t : TypeId} {z : List V} (h : zeroT P t = some z) : ∃ x v n, (zeroValue t).run P w = .ok x w ∧ VR g v x ∧ cellsV v = z ∧ sizeT P t = some n ∧ z.length = n := by
  unfold zeroT at h
  split at h
  · rename_i i hi
    split at h
    · rename_i x hx
      split at h
      · rename_i v hv
        cases hb : Nat.beq (len' (cellsV v)) i.size with
        | false => rw [hb] at h; cases h
        | true =>
          rw [hb] at h; cases h
          refine ⟨x, v, i.size, ?_, VR.ofV hv, rfl, by simp [sizeT, hi], by rw [← len'_eq]; exact Nat.eq_of_beq_eq_true hb⟩
          simp [zeroValue, typeInfo, hi, hx]
      · cases h
    · cases h
  · cases h

/-- an operation that leaves the memory -/
def OpP (K : Kon) (X : Cx) (o : Oper) (f : IOp) : Prop := ∀ cal fr s k, f cal fr s k ≠ .fail → ∃ v, f cal fr s k = k v s ∧ ∀ g a w, SR K X.M X.N g s a w →
    ∃ x, (execOp a.eval o).run K.P w = .ok (.value x) w ∧ VR g v x

theorem OpV.pure {K : Kon} {X : Cx} {o : Oper} {f : IOp} (h : ∀ cal fr s k, f cal fr s k ≠ .fail → ∃ v, f cal fr s k = k v s ∧ ∀ g a w, SR K X.M X.N g s a w →
    ∃ x, (execOp a.eval o).run K.P w = .ok (.value x) w ∧ VR g v x) : OpV K X o f := fun cal fr s k hf => by
  obtain ⟨v, h1, h2⟩ := h cal fr s k hf
  refine ⟨v, s, h1, SameF.refl _ _, fun g a w hS _ => ?_⟩
  obtain ⟨x, h3, h4⟩ := h2 g a w hS
  exact ⟨g, w, _, x, h3, .inl rfl, h4, Did.same hS.rep⟩

theorem OpP.v {K : Kon} {X : Cx} {o : Oper} {f : IOp} (h : OpP K X o f) : OpV K X o f := .pure h

structure Ok (K : Kon) (X : Cx) : Prop where
  P : X.P = K.P
  g : X.g = K.g

variable {K : Kon} {X : Cx}

theorem ov_move {o : Oper} {x : Operand} (hX : Ok K X) (ho : o.op = .move x ∨ o.op = .assign x) : OpP K X o (iMv (opdOf X.M X.g x)) := fun cal fr s k h => by
  obtain ⟨v, h1, h2⟩ := opd_spec (k := fun v => k v s) h
  refine ⟨v, h1, fun g a w hS => ⟨a.eval x, ?_, h2 K _ g a w hX.g.symm hS⟩⟩
  rcases ho with ho | ho <;> (unfold execOp; rw [ho]; rfl)

theorem vIf_ne {v : V} {x y : Res} (h : vIf v x y ≠ .fail) : ∃ b, v = .bool b ∧ vIf v x y = cond b x y := by
  cases v <;> first | exact absurd rfl h | (rename_i b; cases b <;> exact ⟨_, rfl, rfl⟩)

theorem ov_pick {o : Oper} {c x y : Operand} (hX : Ok K X) (ho : o.op = .pick c x y) : OpP K X o (iPick (opdOf X.M X.g c) (opdOf X.M X.g x) (opdOf X.M X.g y)) := fun cal fr s k h => by
  unfold iPick at h ⊢
  obtain ⟨v, h1, h2⟩ := opd_spec h
  rw [h1] at h ⊢
  obtain ⟨b, rfl, h3⟩ := vIf_ne h
  rw [h3] at h ⊢
  have hc : ∀ g a w, SR K X.M X.N g s a w → a.eval c = .bool b := fun g a w hS => h2 K _ g a w hX.g.symm hS
  cases b with
  | true =>
    obtain ⟨v, h4, h5⟩ := opd_spec (k := fun v => k v s) h
    refine ⟨v, h4, fun g a w hS => ⟨a.eval x, ?_, h5 K _ g a w hX.g.symm hS⟩⟩
    unfold execOp; rw [ho]
    simp [hc g a w hS, asBool]
  | false =>
    obtain ⟨v, h4, h5⟩ := opd_spec (k := fun v => k v s) h
    refine ⟨v, h4, fun g a w hS => ⟨a.eval y, ?_, h5 K _ g a w hX.g.symm hS⟩⟩
    unfold execOp; rw [ho]
    simp [hc g a w hS, asBool]

theorem vPtr_ne {v : V} {k : Nat → Nat → Res} (h : vPtr v k ≠ .fail) : ∃ i o, v = .ptr i o ∧ vPtr v k = k i o := by
  cases v <;> first | exact absurd rfl h | exact ⟨_, _, rfl, rfl⟩
theorem vNat_ne {v : V} {k : Nat → Res} (h : vNat v k ≠ .fail) : ∃ q n, v = .int q (.ofNat n) ∧ vNat v k = k n := by
  cases v with
  | int q n => cases n with
    | ofNat n => exact ⟨q, n, rfl, rfl⟩
    | negSucc n => exact absurd rfl h
  | _ => exact absurd rfl h
theorem vInt_ne {v : V} {k : IntKind → Int → Res} (h : vInt v k ≠ .fail) : ∃ q n, v = .int q n ∧ vInt v k = k q n := by
  cases v <;> first | exact absurd rfl h | exact ⟨_, _, rfl, rfl⟩
theorem vAgg_ne {v : V} {k : List V → Res} (h : vAgg v k ≠ .fail) : ∃ l, v = .agg l ∧ vAgg v k = k l := by
  cases v <;> first | exact absurd rfl h | exact ⟨_, rfl, rfl⟩
theorem vTup_ne {v : V} {k : List V → Res} (h : vTup v k ≠ .fail) : ∃ l, v = .tup l ∧ vTup v k = k l := by
  cases v <;> first | exact absurd rfl h | exact ⟨_, rfl, rfl⟩
theorem vStr_ne {v : V} {k : ByteArray → Res} (h : vStr v k ≠ .fail) : ∃ l, v = .str l ∧ vStr v k = k l := by
  cases v <;> first | exact absurd rfl h | exact ⟨_, rfl, rfl⟩
theorem vSl_ne {v : V} {k : Nat → Nat → Nat → Option Nat → Res} (h : vSl v k ≠ .fail) : ∃ i o l c, v = .sl i o l c ∧ vSl v k = k i o l c := by
  cases v <;> first | exact absurd rfl h | exact ⟨_, _, _, _, rfl, rfl⟩

theorem rowK_ne {i : Nat} {s : St} {k : T V → Nat → TypeId → Nat → Res} (h : rowK i s k ≠ .fail) : ∃ c n t sz, s.t.get i = some (.cells c n t sz) ∧ rowK i s k = k c n t sz := by
  unfold rowK at h ⊢
  obtain ⟨ob, h1, h2⟩ := may_ne h
  rw [h2] at h ⊢
  cases ob <;> first | exact absurd rfl h | exact ⟨_, _, _, _, h1, rfl⟩

/-- cells read one behind the other -/
theorem getK_ne {c : T V} : ∀ {n o : Nat} {k : List V → Res}, getK c n o k ≠ .fail → ∃ l, getK c n o k = k l ∧ l.length = n ∧ ∀ j v, l[j]? = some v → c.get (o + j) = some v
  | 0, o, k, _ => ⟨[], rfl, rfl, fun j v h => by simp at h⟩
  | n + 1, o, k, h => by
    have e : getK c (n + 1) o k = may (c.get o) fun v => natK (Nat.succ o) fun o => getK c n o fun l => k (v :: l) := rfl
    rw [e] at h ⊢
    obtain ⟨v, h1, h2⟩ := may_ne h
    rw [h2, natK_eq] at h ⊢
    obtain ⟨l, h3, h4, h5⟩ := getK_ne h
    refine ⟨v :: l, h3, by simp [h4], fun j u hj => ?_⟩
    cases j with
    | zero => simp at hj; subst hj; exact h1
    | succ j =>
      simp at hj
      have := h5 j u hj
      rw [show o + (j + 1) = o.succ + j by omega]
      exact this

theorem cell_of {w : World} {b o : Nat} {cs : Array Value} {t : TypeId} {fr : Nat × Nat} (h : w.heap[b]? = some (.cells cs t fr)) : w.cell? ⟨b, o, none⟩ = cs[o]? := by
  simp [World.cell?, h]

theorem addr_add (b o j : Nat) : (⟨b, o, none⟩ : Addr).add j = ⟨b, o + j, none⟩ := by unfold Addr.add; split <;> simp_all

/-- what was read stands for what the machine reads -/
theorem read_cells {g : G} {w : World} {e : Gh} {c : T V} {n : Nat} {t : TypeId} {sz : Nat} (h : ObR K g w e (.cells c n t sz)) : ∀ {l : List V} {o : Nat}, (∀ j v, l[j]? = some v → c.get (o + j) = some v) →
    ∃ xs, VRs g l xs ∧ (∀ j x, xs[j]? = some x → w.cell? ⟨e.b, e.o + o + j, none⟩ = some x)
  | [], o, _ => ⟨[], rfl, fun j x h => by simp at h⟩
  | v :: l, o, hl => by
    obtain ⟨xs, h1, h2⟩ := read_cells h (l := l) (o := o + 1) (fun j u hu => by
      have := hl (j + 1) u (by simpa using hu)
      rwa [show o + (j + 1) = o + 1 + j by omega] at this)
    obtain ⟨cs, ty, q1, q2, q3, q4, q5⟩ := h
    obtain ⟨x, hx, hv⟩ := q5 o v (hl 0 v rfl)
    refine ⟨x :: xs, ⟨x, xs, rfl, hv, h1⟩, fun j y hj => ?_⟩
    cases j with
    | zero => simp at hj; subst hj; rw [cell_of q1]; simpa using hx
    | succ j =>
      simp at hj
      have := h2 j y hj
      rwa [show e.o + (o + 1) + j = e.o + o + (j + 1) by omega] at this

theorem load_cells {g : G} {w : World} {e : Gh} {c : T V} {n : Nat} {t : TypeId} {sz : Nat} (h : ObR K g w e (.cells c n t sz)) {l : List V} {o : Nat} (hl : ∀ j v, l[j]? = some v → c.get (o + j) = some v) :
    ∃ xs, VRs g l xs ∧ (loadCells ⟨e.b, e.o + o, none⟩ l.length).run K.P w = .ok xs.toArray w := by
  obtain ⟨xs, h1, h2⟩ := read_cells h hl
  refine ⟨xs, h1, ?_⟩
  have := run_loadCells_list (P := K.P) w ⟨e.b, e.o + o, none⟩ xs (fun j v hj => by rw [addr_add]; exact h2 j v hj)
  rwa [h1.length] at this

theorem ov_load_agg {o : Oper} {t : TypeId} {x : Operand} {n : Nat} (hX : Ok K X) (ho : o.op = .load t x) (ha : isAggT X.P t = some true) (hn : sizeT X.P t = some n) : OpP K X o (iLda n (opdOf X.M X.g x)) := fun cal fr s k h => by
  unfold iLda at h ⊢
  obtain ⟨v, h1, h2⟩ := opd_spec h
  rw [h1] at h ⊢
  obtain ⟨i, of, rfl, h3⟩ := vPtr_ne h
  rw [h3] at h ⊢
  obtain ⟨c, m, ty, sz, h4, h5⟩ := rowK_ne h
  rw [h5] at h ⊢
  obtain ⟨l, h6, h7, h8⟩ := getK_ne (c := c) (k := fun l => k (.agg l) s) h
  refine ⟨.agg l, h6, fun g a w hS => ?_⟩
  obtain ⟨e, g1, g2⟩ := h2 K _ g a w hX.g.symm hS
  obtain ⟨e', g3, g4⟩ := hS.rep.ob _ _ h4
  rw [g1] at g3; cases g3
  obtain ⟨xs, r1, r2⟩ := load_cells g4 h8
  refine ⟨.agg xs.toArray, ?_, ⟨xs, rfl, r1⟩⟩
  rw [h7] at r2
  unfold execOp; rw [ho]
  refine map_val ?_
  rw [hX.P] at ha hn
  show (Instr.loadAt t (a.eval x)).run K.P w = _
  rw [g2]
  unfold Instr.loadAt Instr.sureAddr loadVar
  rw [bind_ok (w' := w) (a := ⟨e.b, e.o + of, none⟩) rfl, bind_ok (r_isAgg ha)]
  simp only [if_true]
  rw [bind_ok (r_size hn), bind_ok r2]
  rfl

theorem ov_load_cell {o : Oper} {t : TypeId} {x : Operand} (hX : Ok K X) (ho : o.op = .load t x) (ha : isAggT X.P t = some false) : OpP K X o (iLdc (opdOf X.M X.g x)) := fun cal fr s k h => by
  unfold iLdc at h ⊢
  obtain ⟨v, h1, h2⟩ := opd_spec h
  rw [h1] at h ⊢
  obtain ⟨i, of, rfl, h3⟩ := vPtr_ne h
  rw [h3] at h ⊢
  obtain ⟨c, m, ty, sz, h4, h5⟩ := rowK_ne h
  rw [h5] at h ⊢
  obtain ⟨v, h6, h7⟩ := may_ne h
  refine ⟨v, h7, fun g a w hS => ?_⟩
  obtain ⟨e, g1, g2⟩ := h2 K _ g a w hX.g.symm hS
  obtain ⟨e', g3, g4⟩ := hS.rep.ob _ _ h4
  rw [g1] at g3; cases g3
  obtain ⟨cs, ty', q1, q2, q3, q4, q5⟩ := g4
  obtain ⟨y, hy, hv⟩ := q5 of v h6
  refine ⟨y, ?_, hv⟩
  unfold execOp; rw [ho]
  refine map_val ?_
  rw [hX.P] at ha
  show (Instr.loadAt t (a.eval x)).run K.P w = _
  rw [g2]
  unfold Instr.loadAt Instr.sureAddr loadVar
  rw [bind_ok (w' := w) (a := ⟨e.b, e.o + of, none⟩) rfl, bind_ok (r_isAgg ha)]
  simp only [Bool.false_eq_true, if_false]
  rw [run_load, cell_of q1, hy]

theorem ov_nil {o : Oper} {x : Operand} (hX : Ok K X) (ho : o.op = .nilCheck x) : OpP K X o (iNil (opdOf X.M X.g x)) := fun cal fr s k h => by
  unfold iNil at h ⊢
  obtain ⟨v, h1, h2⟩ := opd_spec h
  rw [h1] at h ⊢
  cases v with
  | ptr i of =>
    refine ⟨.ptr i of, rfl, fun g a w hS => ⟨a.eval x, ?_, h2 K _ g a w hX.g.symm hS⟩⟩
    obtain ⟨e, g1, g2⟩ := h2 K _ g a w hX.g.symm hS
    unfold execOp; rw [ho]
    simp only [g2]
    rfl
  | fn f xs ys =>
    refine ⟨.fn f xs ys, rfl, fun g a w hS => ⟨a.eval x, ?_, h2 K _ g a w hX.g.symm hS⟩⟩
    obtain ⟨e, e', g2, _⟩ := h2 K _ g a w hX.g.symm hS
    unfold execOp; rw [ho]
    simp only [g2]
    rfl
  | _ => exact absurd rfl h

theorem ov_fad {o : Oper} {t : TypeId} {x : Operand} {i n : Nat} {fs : Array Field} {f : Field} (hX : Ok K X) (ho : o.op = .fieldAddr t x i) (hu : X.P.underlying t = some (.struct fs)) (hf : fs[i]? = some f) (hs : sizeT X.P f.type = some (n + 1)) :
    OpP K X o (iFad f.offset (opdOf X.M X.g x)) := fun cal fr s k h => by
  unfold iFad at h ⊢
  obtain ⟨v, h1, h2⟩ := opd_spec h
  rw [h1] at h ⊢
  obtain ⟨j, of, rfl, h3⟩ := vPtr_ne h
  rw [h3, natK_eq]
  refine ⟨.ptr j (of + f.offset), rfl, fun g a w hS => ?_⟩
  obtain ⟨e, g1, g2⟩ := h2 K _ g a w hX.g.symm hS
  refine ⟨.pointer (some ⟨e.b, e.o + (of + f.offset), none⟩), ?_, ⟨e, g1, rfl⟩⟩
  rw [hX.P] at hu hs
  unfold execOp; rw [ho]
  refine map_val ?_
  show (Instr.fieldAt t (a.eval x) i).run K.P w = _
  rw [g2]
  unfold Instr.fieldAt Instr.sureAddr
  rw [bind_ok (r_under hu)]
  simp only [hf]
  rw [bind_ok (w' := w) (a := ⟨e.b, e.o + of, none⟩) rfl]
  have : (fieldPlace ⟨e.b, e.o + of, none⟩ f).run K.P w = .ok ⟨e.b, e.o + (of + f.offset), none⟩ w := by
    unfold fieldPlace
    rw [bind_ok (r_size hs)]
    simp [addr_add, Nat.add_assoc]
  rw [bind_ok this]
  rfl

theorem ov_iaA {o : Oper} {t el : TypeId} {x ix : Operand} {len n : Nat} (hX : Ok K X) (ho : o.op = .indexAddr t x ix) (hu : X.P.underlying t = some (.array len el)) (hs : sizeT X.P el = some n) :
    OpP K X o (iIaA len n (opdOf X.M X.g x) (opdOf X.M X.g ix)) := fun cal fr s k h => by
  unfold iIaA at h ⊢
  obtain ⟨v, h1, h2⟩ := opd_spec h
  rw [h1] at h ⊢
  obtain ⟨u, h3, h4⟩ := opd_spec h
  rw [h3] at h ⊢
  obtain ⟨j, of, rfl, h5⟩ := vPtr_ne h
  rw [h5] at h ⊢
  obtain ⟨q, m, rfl, h6⟩ := vNat_ne h
  rw [h6] at h ⊢
  obtain ⟨h7, h8⟩ := test_ne h
  rw [h8, natK_eq]
  have hlt : m < len := by simpa [Nat.blt_eq] using h7
  refine ⟨.ptr j (of + m * n), rfl, fun g a w hS => ?_⟩
  obtain ⟨e, g1, g2⟩ := h2 K _ g a w hX.g.symm hS
  have g3 : a.eval ix = .int q (.ofNat m) := h4 K _ g a w hX.g.symm hS
  refine ⟨.pointer (some ⟨e.b, e.o + (of + m * n), none⟩), ?_, ⟨e, g1, rfl⟩⟩
  rw [hX.P] at hu hs
  unfold execOp; rw [ho]
  refine map_val ?_
  show (Instr.indexAt t (a.eval x) (a.eval ix)).run K.P w = _
  rw [g2, g3]
  obtain ⟨i, hi, rfl⟩ := sizeT_some hs
  simp [Instr.indexAt, Instr.sureAddr, asIntOf, Sem.run_bind, underlying, hu, sizeOf, typeInfo, hi, hlt, addr_add, Nat.add_assoc]

theorem ov_iaS {o : Oper} {t el : TypeId} {x ix : Operand} {n : Nat} (hX : Ok K X) (ho : o.op = .indexAddr t x ix) (hu : X.P.underlying t = some (.slice el)) (hs : sizeT X.P el = some n) :
    OpP K X o (iIaS n (opdOf X.M X.g x) (opdOf X.M X.g ix)) := fun cal fr s k h => by
  unfold iIaS at h ⊢
  obtain ⟨v, h1, h2⟩ := opd_spec h
  rw [h1] at h ⊢
  obtain ⟨u, h3, h4⟩ := opd_spec h
  rw [h3] at h ⊢
  obtain ⟨j, of, len, cp, rfl, h5⟩ := vSl_ne h
  rw [h5] at h ⊢
  obtain ⟨q, m, rfl, h6⟩ := vNat_ne h
  rw [h6] at h ⊢
  obtain ⟨h7, h8⟩ := test_ne h
  rw [h8, natK_eq]
  have hlt : m < len := by simpa [Nat.blt_eq] using h7
  refine ⟨.ptr j (of + m * n), rfl, fun g a w hS => ?_⟩
  obtain ⟨e, cc, g1, g2, _⟩ := h2 K _ g a w hX.g.symm hS
  have g3 : a.eval ix = .int q (.ofNat m) := h4 K _ g a w hX.g.symm hS
  refine ⟨.pointer (some ⟨e.b, e.o + (of + m * n), none⟩), ?_, ⟨e, g1, rfl⟩⟩
  rw [hX.P] at hu hs
  unfold execOp; rw [ho]
  refine map_val ?_
  show (Instr.indexAt t (a.eval x) (a.eval ix)).run K.P w = _
  rw [g2, g3]
  obtain ⟨i, hi, rfl⟩ := sizeT_some hs
  simp [Instr.indexAt, Instr.sureAddr, asIntOf, Sem.run_bind, underlying, hu, sizeOf, typeInfo, hi, hlt, addr_add, Nat.add_assoc]

theorem ov_ext {o : Oper} {x : Operand} {i : Nat} (hX : Ok K X) (ho : o.op = .extract x i) : OpP K X o (iExt i (opdOf X.M X.g x)) := fun cal fr s k h => by
  unfold iExt at h ⊢
  obtain ⟨v, h1, h2⟩ := opd_spec h
  rw [h1] at h ⊢
  obtain ⟨l, rfl, h3⟩ := vTup_ne h
  rw [h3] at h ⊢
  obtain ⟨v, h4, h5⟩ := may_ne h
  refine ⟨v, h5, fun g a w hS => ?_⟩
  obtain ⟨xs, g1, g2⟩ := h2 K _ g a w hX.g.symm hS
  obtain ⟨y, g3, g4⟩ := g2.get h4
  refine ⟨y, ?_, g4⟩
  unfold execOp; rw [ho]
  refine map_val ?_
  show (Instr.extract (a.eval x) i).run K.P w = _
  rw [g1]
  simp [Instr.extract, g3]

theorem ov_face {o : Oper} {t : TypeId} {x : Operand} {d : TypeDesc} (hX : Ok K X) (ho : o.op = .makeInterface t x) (hu : X.P.underlying t = some d) (hd : ∀ ms, d ≠ .interface ms) : OpP K X o (iFace t (opdOf X.M X.g x)) := fun cal fr s k h => by
  unfold iFace at h ⊢
  obtain ⟨v, h1, h2⟩ := opd_spec h
  rw [h1]
  refine ⟨.iface t v, rfl, fun g a w hS => ⟨.iface t (a.eval x), ?_, ⟨_, rfl, h2 K _ g a w hX.g.symm hS⟩⟩⟩
  unfold execOp; rw [ho]
  refine map_val ?_
  rw [hX.P] at hu
  unfold Instr.makeInterface
  rw [bind_ok (r_under hu)]
  split
  · rename_i ms; exact absurd rfl (hd ms)
  · rfl

theorem ov_mkF {o : Oper} {f : FuncId} {xs ys : Array Operand} (hX : Ok K X) (ho : o.op = .makeFunc (.func f) xs ys) : OpP K X o (iMkF f (xs.toList.map (opdOf X.M X.g)) (ys.toList.map (opdOf X.M X.g))) := fun cal fr s k h => by
  unfold iMkF at h ⊢
  obtain ⟨vs, h1, h2⟩ := opds_spec h
  rw [h1] at h ⊢
  obtain ⟨us, h3, h4⟩ := opds_spec (k := fun b => k (.fn f vs b) s) h
  refine ⟨.fn f vs us, h3, fun g a w hS => ⟨.func (.func f) ⟨xs.toList.map a.eval⟩ ⟨ys.toList.map a.eval⟩, ?_, ⟨_, _, rfl, h2 K _ g a w hX.g.symm hS, h4 K _ g a w hX.g.symm hS⟩⟩⟩
  unfold execOp; rw [ho]
  refine map_val ?_
  unfold Instr.makeFunc
  have e : ∀ l : Array Operand, l.map a.eval = ⟨l.toList.map a.eval⟩ := fun l => by cases l; simp
  rw [e, e]; rfl

end Go.AE

namespace Go.AE
variable {K : Kon} {X : Cx}

theorem setK_ne : ∀ {l : List V} {c : T V} {o : Nat} {k : T V → Res}, setK l c o k ≠ .fail → ∃ c', setK l c o k = k c' ∧ ∀ j, c'.get j = if o ≤ j ∧ j < o + l.length then l[j - o]? else c.get j
  | [], c, o, k, _ => ⟨c, rfl, fun j => by rw [if_neg (by simp; try omega)]⟩
  | v :: l, c, o, k, h => by
    have e : setK (v :: l) c o k = T.set .fail (some v) c o fun c => natK (Nat.succ o) fun o => setK l c o k := rfl
    rw [e] at h ⊢
    obtain ⟨c1, h1, h2⟩ := set_spec h
    rw [h1, natK_eq] at h ⊢
    obtain ⟨c2, h3, h4⟩ := setK_ne h
    refine ⟨c2, h3, fun j => ?_⟩
    rw [h4, h2]
    by_cases h5 : o + 1 ≤ j ∧ j < o + 1 + l.length
    · rw [if_pos h5, if_pos (by simp; omega)]
      rw [show j - o = (j - (o + 1)) + 1 by omega]
      rfl
    · rw [if_neg (by simpa using h5)]
      by_cases h6 : j = o
      · subst h6; rw [if_pos rfl, if_pos (by simp)]; simp
      · rw [if_neg h6, if_neg (by simp; omega)]

theorem VR.cells_all {g : G} {v : V} {x : Value} (h : VR g v x) : VRs g (cellsV v) x.cells.toList := by
  cases v with
  | tup l =>
    obtain ⟨xs, rfl, r⟩ := h
    exact ⟨_, [], rfl, ⟨xs, rfl, r⟩, rfl⟩
  | agg l => obtain ⟨xs, rfl, r⟩ := h; exact r
  | _ => exact VR.cells h rfl

theorem allCells_mem {l : List V} (h : allCells l = true) : ∀ v ∈ l, isCell v = true := by
  induction l with
  | nil => simp
  | cons a l ih =>
    unfold allCells at h
    cases ha : isCell a with
    | false => rw [ha] at h; cases h
    | true =>
      rw [ha] at h
      intro v hv
      rcases List.mem_cons.1 hv with rfl | hv
      · exact ha
      · exact ih h v hv

theorem VRs.oneCell {g : G} : ∀ {l : List V} {xs : List Value}, VRs g l xs → allCells l = true → ∀ x ∈ xs, x.oneCell' = true
  | [], _, h, _ => by cases h; simp
  | v :: l, _, ⟨x, xs, e, a, b⟩, hc => by
    subst e
    unfold allCells at hc
    cases hv : isCell v with
    | false => rw [hv] at hc; cases hc
    | true =>
      rw [hv] at hc
      intro y hy
      rcases List.mem_cons.1 hy with rfl | hy
      · have := (VR.cell a hv).1
        cases y <;> first | rfl | exact this.elim
      · exact VRs.oneCell b hc y hy

/-- A NEW ROW. -/
theorem rowNew_ne {fr : Option Nat} {t sz : Nat} {l : List V} {s : St} {k : Nat → St → Res} (h : rowNew fr t sz l s k ≠ .fail) :
    ∃ i s' c, rowNew fr t sz l s k = k i s' ∧ SameF fr s s' ∧ allCells l = true ∧ (∀ j, s'.t.get j = if j = i then some (.cells c l.length t sz) else s.t.get j) ∧ i = fr.getD s.n ∧ (fr = none → s'.n = s.n + 1) ∧
      ∀ j v, c.get j = some v → l[j]? = some v := by
  unfold rowNew at h ⊢
  obtain ⟨h1, h2⟩ := test_ne h
  rw [h2] at h ⊢
  obtain ⟨c, h3, h4⟩ := setK_ne h
  rw [h3, natK_eq, len'_eq] at h ⊢
  obtain ⟨i, s', h5, h6, h7, h8, h9⟩ := newOb_spec h
  refine ⟨i, s', c, h5, h6, h1, h7, h8, h9, fun j v hj => ?_⟩
  rw [h4] at hj
  split at hj
  · simpa using hj
  · rw [get_e] at hj; cases hj

theorem rowNew_did {M N : Nat} {fr : Option Nat} {g : G} {s s' : St} {a : Act} {w : World} {i t sz ext : Nat} {c : T V} {l : List V} {xs : List Value} {arr : Array Value} {ty : TypeId} (hS : SR K M N g s a w) (hf : Free K fr g s.n)
    (ht : ∀ j, s'.t.get j = if j = i then some (.cells c l.length t sz) else s.t.get j) (hi : i = fr.getD s.n) (hn : fr = none → s'.n = s.n + 1) (hc : ∀ j v, c.get j = some v → l[j]? = some v)
    (hx : VRs g l xs) (ha : ∀ (j : Nat) (x : Value), xs[j]? = some x → arr[j]? = some x) (h1 : l.length ≤ ext) (h2 : ext ≤ arr.size) :
    Did K fr g s w (g.put i ⟨w.heap.size, 0, ext, sz⟩) s' (w.alloc (.cells arr ty)) ∧ (g.put i ⟨w.heap.size, 0, ext, sz⟩) i = some ⟨w.heap.size, 0, ext, sz⟩ := by
  have hgi : g i = none := by
    cases fr with
    | none =>
      subst hi
      cases hh : g s.n with
      | none => exact hh
      | some e => exact absurd (hS.nb _ _ hh) (Nat.lt_irrefl _)
    | some j => subst hi; exact hf.1
  refine newOb_did hS hf ht hi hn rfl ⟨arr, ty, World.alloc_heap_new _ _, rfl, h1, by simpa using h2, fun j v hj => ?_⟩
  obtain ⟨x, h3, h4⟩ := hx.get (hc j v hj)
  exact ⟨x, by simpa using ha j x h3, h4.mono (G.le_put hgi)⟩

theorem r_newRow {P : Program} {w : World} {t : TypeId} {cells : Array Value} : (newRow t cells).run P w = .ok ⟨w.heap.size, 0, none⟩ (w.alloc (.cells cells t)) := by
  unfold newRow
  rw [bind_ok (run_newObj_alloc P w _)]
  rfl

theorem ov_new {o : Oper} {t : TypeId} {n : Nat} {z : List V} (hX : Ok K X) (ho : o.op = .alloc t) (hz : zeroT X.P t = some z) : OpV K X o (iNew t n z) := fun cal fr s k h => by
  unfold iNew at h ⊢
  obtain ⟨i, s', c, h1, h2, h3, h4, h5, h6, h7⟩ := rowNew_ne h
  refine ⟨.ptr i 0, s', h1, h2, fun g a w hS hf => ?_⟩
  rw [hX.P] at hz
  obtain ⟨x, v, m, z1, z2, z3, _⟩ := r_zero (w := w) (g := g) hz
  have hv := z2.cells_all
  rw [z3] at hv
  obtain ⟨d1, d2⟩ := rowNew_did (ext := x.cells.size) (arr := x.cells) (ty := t) hS hf h4 h5 h6 h7 hv (fun j y hj => by simpa using hj) (by rw [z2.len, z3]; exact Nat.le_refl _) (Nat.le_refl _)
  refine ⟨_, _, _, .pointer (some ⟨w.heap.size, 0, none⟩), ?_, .inl rfl, ⟨_, d2, rfl⟩, d1⟩
  unfold execOp; rw [ho]
  refine map_val ?_
  unfold Instr.alloc
  rw [bind_ok z1]
  unfold newVar
  simp only []
  rw [bind_ok r_newRow]
  rfl

theorem ov_box {o : Oper} {t : TypeId} {n : Nat} {x : Operand} (hX : Ok K X) (ho : o.op = .box t x) : OpV K X o (iBox t n (opdOf X.M X.g x)) := fun cal fr s k h => by
  unfold iBox at h ⊢
  obtain ⟨v, e1, e2⟩ := opd_spec h
  rw [e1] at h ⊢
  obtain ⟨i, s', c, h1, h2, h3, h4, h5, h6, h7⟩ := rowNew_ne h
  refine ⟨.ptr i 0, s', h1, h2, fun g a w hS hf => ?_⟩
  have hv := e2 K _ g a w hX.g.symm hS
  obtain ⟨d1, d2⟩ := rowNew_did (ext := (a.eval x).cells.size) (arr := (a.eval x).cells) (ty := t) hS hf h4 h5 h6 h7 hv.cells_all (fun j y hj => by simpa using hj) (by rw [hv.len]; exact Nat.le_refl _) (Nat.le_refl _)
  refine ⟨_, _, _, .pointer (some ⟨w.heap.size, 0, none⟩), ?_, .inl rfl, ⟨_, d2, rfl⟩, d1⟩
  unfold execOp; rw [ho]
  refine map_val ?_
  unfold Instr.box newVar
  rw [bind_ok r_newRow]
  rfl

/-! ### parts -/

theorem fill_one (l : List Value) : ∀ (cs : Array Value) (off : Nat), off + l.length ≤ cs.size →
    ((l.toArray.zipIdx.foldl (fun cs (c, j) => cs.setIfInBounds (off + j) c) cs).toList = cs.toList.take off ++ (l ++ cs.toList.drop (off + l.length))) := by
  suffices H : ∀ (l : List Value) (k : Nat) (cs : Array Value) (off : Nat), off + k + l.length ≤ cs.size →
      ((l.zipIdx k).foldl (fun cs (p : Value × Nat) => cs.setIfInBounds (off + p.2) p.1) cs).toList = cs.toList.take (off + k) ++ (l ++ cs.toList.drop (off + k + l.length)) by
    intro cs off h
    have := H l 0 cs off (by simpa using h)
    simpa [← Array.foldl_toList] using this
  intro l
  induction l with
  | nil => intro k cs off h; simp
  | cons c l ih =>
    intro k cs off h
    simp only [List.zipIdx_cons, List.foldl_cons]
    rw [ih (k + 1) _ off (by simp at h ⊢; omega)]
    simp only [Array.toList_setIfInBounds, List.length_cons]
    have hk : off + k < cs.toList.length := by simp at h ⊢; omega
    rw [List.drop_set, if_pos (by omega)]
    rw [show off + (k + 1) = off + k + 1 by omega, List.take_set, List.take_add_one]
    have : cs.toList[off + k]? = some cs.toList[off + k] := List.getElem?_eq_getElem hk
    rw [this]
    simp only [Option.toList_some]
    rw [List.set_append_right _ _ (by simp; omega)]
    have e : off + k - (List.take (off + k) cs.toList).length = 0 := by simp; omega
    rw [e]
    simp [Nat.add_assoc, Nat.add_comm, Nat.add_left_comm]

theorem fillV_spec {g : G} {place : Nat → Option (Nat × Nat)} : ∀ {ps : List (Nat × Nat)} {vs cs l : List V} {parts : List (Nat × Value)} {cells : Array Value}, fillV cs ps vs = some l →
    parts.map (fun p => place p.1) = ps.map some → VRs g vs (parts.map (·.2)) → VRs g cs cells.toList → ∃ cells', Instr.fill place cells parts = some cells' ∧ VRs g l cells'.toList
  | [], [], cs, l, parts, cells, h, hp, hv, hc => by
    simp [fillV] at h; subst h
    cases parts with
    | nil => exact ⟨cells, rfl, hc⟩
    | cons p r => simp at hp
  | [], _ :: _, cs, l, parts, cells, h, hp, hv, hc => by simp [fillV] at h
  | (o, n) :: ps, [], cs, l, parts, cells, h, hp, hv, hc => by simp [fillV] at h
  | (o, n) :: ps, v :: vs, cs, l, parts, cells, h, hp, hv, hc => by
    cases parts with
    | nil => simp at hp
    | cons p r =>
      obtain ⟨i, x⟩ := p
      simp only [List.map_cons, List.cons.injEq] at hp
      obtain ⟨y, ys, e, a, b⟩ := hv
      simp only [List.map_cons, List.cons.injEq] at e
      obtain ⟨rfl, rfl⟩ := e
      unfold fillV at h
      cases h1 : Nat.beq (len' (cellsV v)) n with
      | false => simp [h1] at h
      | true =>
        cases h2 : Nat.ble (o + n) (len' cs) with
        | false => simp [h1, h2] at h
        | true =>
          simp only [h1, h2, cond] at h
          have hn : (cellsV v).length = n := by rw [← len'_eq]; exact Nat.eq_of_beq_eq_true h1
          have hl : o + n ≤ cs.length := by rw [← len'_eq]; exact Nat.le_of_ble_eq_true h2
          have hsz : x.cells.size = n := by rw [a.len, hn]
          have hcl := hc.length
          have f1 := fill_one x.cells.toList cells o (by simp [hsz] at hcl ⊢; omega)
          have hc' : VRs g (cs.take o ++ (cellsV v ++ cs.drop (o + n))) (x.cells.zipIdx.foldl (fun cs (c, j) => cs.setIfInBounds (o + j) c) cells).toList := by
            have : (x.cells.toList.toArray.zipIdx.foldl (fun cs (c, j) => cs.setIfInBounds (o + j) c) cells) = (x.cells.zipIdx.foldl (fun cs (c, j) => cs.setIfInBounds (o + j) c) cells) := by simp
            rw [← this, f1]
            refine (hc.take o).append (a.cells_all.append ?_)
            have := hc.drop (o + n)
            simpa [hsz] using this
          obtain ⟨cells', q1, q2⟩ := fillV_spec h hp.2 b hc'
          refine ⟨cells', ?_, q2⟩
          unfold Instr.fill
          simp only [hp.1]
          rw [if_neg (by simp [hsz] at hcl ⊢; omega)]
          exact q1

end Go.AE
