/- G, an evaluator of loaded code, and its soundness against the model, part 1. -/
import Derived.Orders
import Derived.Below
import Derived.Laws.Sem
import Derived.Lib.Strings
/- The evaluator G: a deterministic reading of loaded code over abstract block numbers. Definitions alone. -/
namespace Go.G

/-- A result, or why there is none. -/
inductive R (α : Type) where
  | ok (a : α)
  | no (why : String)

def R.b {α β : Type} (x : R α) (f : α → R β) : R β :=
  match x with
  | .ok a => f a
  | .no w => .no w

/-- The place at which there is none. -/
def R.at {α : Type} (x : R α) (place : String) : R α :=
  match x with
  | .ok a => .ok a
  | .no w => .no (w ++ " at " ++ place)

def R.of {α : Type} (o : Option α) (why : String) : R α :=
  match o with
  | some a => .ok a
  | none => .no why

def R.must (c : Bool) (why : String) : R Unit := cond c (.ok ()) (.no why)

/-- A table by numbers. -/
inductive Tree (α : Type) where
  | leaf
  | node (v : Option α) (l r : Tree α)

def Tree.get {α : Type} : Tree α → Nat → Option α
  | .leaf, _ => none
  | .node v l r, n =>
    match n with
    | 0 => v
    | m + 1 => cond (Nat.beq (m % 2) 0) (l.get (m / 2)) (r.get (m / 2))

def Tree.val {α : Type} : Tree α → Option α
  | .leaf => none
  | .node v _ _ => v
def Tree.left {α : Type} : Tree α → Tree α
  | .leaf => .leaf
  | .node _ l _ => l
def Tree.right {α : Type} : Tree α → Tree α
  | .leaf => .leaf
  | .node _ _ r => r

def Tree.putF {α : Type} : Nat → Tree α → Nat → Option α → Tree α
  | 0, t, _, _ => t
  | f + 1, t, n, a =>
    match n with
    | 0 => .node a t.left t.right
    | m + 1 => cond (Nat.beq (m % 2) 0) (.node t.val (Tree.putF f t.left (m / 2) a) t.right) (.node t.val t.left (Tree.putF f t.right (m / 2) a))

def Tree.put {α : Type} (t : Tree α) (n : Nat) (a : Option α) : Tree α := Tree.putF (n + 1) t n a

def Tree.ofList {α : Type} : List (Option α) → Nat → Tree α → Tree α
  | [], _, t => t
  | a :: l, n, t => Tree.ofList l (n + 1) (t.put n a)

/-- What a type is, as far as it is needed. -/
inductive TD where
  | bool | int (k : IntKind) | string | pointer (e : Nat) | slice (e : Nat) | array (n e : Nat) | map (k e : Nat)
  | struct (fs : List (Nat × Nat)) | func | other

/-- A value without an address, of one cell. -/
def litOk : Value → Bool
  | .bool _ | .int _ _ | .string _ | .pointer none | .slice none 0 0 | .map none | .nilFunc | .nilIface => true
  | _ => false

structure TI where
  td : TD
  size : Nat
  bytes : Nat
  zero : Option (List Value)
  agg : Bool
  plain : Bool

def tdOf : TypeDesc → TD
  | .bool => .bool
  | .int k => .int k
  | .string => .string
  | .pointer e => .pointer e
  | .slice e => .slice e
  | .array n e => .array n e
  | .map k e => .map k e
  | .struct fs => .struct (fs.toList.map fun f => (f.type, f.offset))
  | .func _ _ _ => .func
  | _ => .other

def TD.isAgg : TD → Bool
  | .struct _ | .array _ _ => true
  | _ => false

def zeroOf (agg : Bool) : Option Value → Option (List Value)
  | some (.agg cs) => cond (agg && cs.toList.all litOk) (some cs.toList) none
  | some v => cond (!agg && litOk v) (some [v]) none
  | none => none

def namesOk : TypeDesc → Bool
  | .struct fs => fs.toList.all fun f => f.name != "_"
  | _ => true

def tiOf (p : Program) (t : Nat) (i : TypeInfo) : Option TI :=
  match p.underlying t with
  | some d =>
    some { td := tdOf d, size := i.size, bytes := i.bytes, zero := zeroOf (tdOf d).isAgg i.zero, agg := (tdOf d).isAgg,
           plain := namesOk d && !p.eqGuardType p.depth t && !p.stoodInHeld t }
  | none => none

/-- A block. -/
inductive Blk where
  | cells (esz : Nat) (c : List Value)
  | map (es : List MapEntry) (clock : Nat)
  | strIter (s : ByteArray) (pos : Nat)
  | mapIter (m : Option Nat) (since : Nat) (seen : List Nat) (stepped : Nat)

structure Heap where
  t : Tree Blk
  next : Nat
  /-- Variables of the library's own that stay as they are, and hold some whole number. -/
  glob : List Nat := []

def Heap.get (h : Heap) (i : Nat) : Option Blk := h.t.get i
def Heap.put (h : Heap) (i : Nat) (b : Blk) : Heap := { h with t := h.t.put i (some b) }
def Heap.drop (h : Heap) (i : Nat) : Heap := { h with t := h.t.put i none }
def Heap.add (h : Heap) (b : Blk) : Heap := { h with t := h.t.put h.next (some b), next := h.next + 1 }

abbrev Prim := List Value → Heap → R (Value × Heap)

structure Env where
  tt : Tree TI
  ft : Tree Func
  prim : Nat → Option Prim

def Env.ti (env : Env) (t : Nat) : R TI := R.of (env.tt.get t) "no such type"
def Env.td (env : Env) (t : Nat) : R TD := (env.ti t).b fun i => .ok i.td

abbrev Tmps := Tree Value

def ev (s : Tmps) : Operand → R Value
  | .tmp t => R.of (s.get t) "an unset temporary"
  | .const v => cond (litOk v) (.ok v) (.no "a constant with parts")
  | .func f => .ok (.func (.func f) #[] #[])
  | .global _ => .no "a global"

def evs (s : Tmps) : List Operand → R (List Value)
  | [] => .ok []
  | o :: l => (ev s o).b fun v => (evs s l).b fun vs => .ok (v :: vs)

def flexCap : Nat := 9223372036854775808

/-! values -/

def asInt : Value → R Int
  | .int _ n => .ok n
  | _ => .no "int expected"
def asBool : Value → R Bool
  | .bool b => .ok b
  | _ => .no "bool expected"

def readN : Nat → List Value → R (List Value)
  | 0, _ => .ok []
  | _ + 1, [] => .no "read no such cell"
  | n + 1, v :: vs => (readN n vs).b fun l => .ok (v :: l)

def overwrite : List Value → List Value → R (List Value)
  | cs, [] => .ok cs
  | [], _ :: _ => .no "write no such cell"
  | _ :: cs, v :: vs => (overwrite cs vs).b fun l => .ok (v :: l)

def writeAt : Nat → List Value → List Value → R (List Value)
  | 0, cs, vs => overwrite cs vs
  | _ + 1, [], vs => match vs with | [] => .ok [] | _ => .no "write no such cell"
  | n + 1, c :: cs, vs => (writeAt n cs vs).b fun l => .ok (c :: l)

def Heap.cells (h : Heap) (i : Nat) : R (Nat × List Value) :=
  match h.get i with
  | some (.cells e c) => .ok (e, c)
  | some _ => .no "no row of cells"
  | none => .no "no such block"

def Heap.read (h : Heap) (a : Addr) (n : Nat) : R (List Value) :=
  match a.spot with
  | some _ => .no "spot"
  | none => (h.cells a.block).b fun p => readN n (p.2.drop a.off)

/-- One cell, that is no aggregate. -/
def flatCell : Value → Bool
  | .agg _ | .tuple _ => false
  | _ => true

def Heap.write (h : Heap) (a : Addr) (vs : List Value) : R Heap :=
  match vs with
  | [] => .ok h
  | _ :: _ =>
    match a.spot with
    | some _ => .no "spot"
    | none => (R.must (vs.all flatCell) "write not one cell").b fun _ => (h.cells a.block).b fun p => (writeAt a.off p.2 vs).b fun c => .ok (h.put a.block (.cells p.1 c))

def cellsV : Value → List Value
  | .agg cs => cs.toList
  | v => [v]

def asAddr : Value → R Addr
  | .pointer (some a) => .ok a
  | .pointer none => .no "nil pointer"
  | _ => .no "pointer expected"

def loadVar (env : Env) (h : Heap) (t : Nat) (a : Addr) : R Value :=
  (env.ti t).b fun i =>
    cond i.agg ((h.read a i.size).b fun cs => .ok (.agg ⟨cs⟩)) ((h.read a 1).b fun cs => match cs with | [v] => .ok v | _ => .no "one cell expected")

def storeVar (env : Env) (h : Heap) (t : Nat) (a : Addr) (v : Value) : R Heap :=
  (env.ti t).b fun i =>
    let cs := cellsV v
    (R.must (Nat.beq cs.length i.size) "store size").b fun _ => h.write a cs

/-! equality -/

def bytesEq (a b : ByteArray) : Bool := a.data.toList == b.data.toList

def partV (env : Env) (t : Nat) (cs : List Value) (off : Nat) : R Value :=
  (env.ti t).b fun i =>
    cond i.agg ((readN i.size (cs.drop off)).b fun l => .ok (.agg ⟨l⟩)) (match cs.drop off with | v :: _ => .ok v | [] => .no "part no such cell")

def eqFields (env : Env) (eq : Nat → Value → Value → R Bool) (xs ys : List Value) : List (Nat × Nat) → R Bool
  | [] => .ok true
  | f :: l => (partV env f.1 xs f.2).b fun a => (partV env f.1 ys f.2).b fun b => (eq f.1 a b).b fun r => cond r (eqFields env eq xs ys l) (.ok false)

def eqElems (env : Env) (eq : Nat → Value → Value → R Bool) (e size : Nat) (xs ys : List Value) : Nat → Nat → R Bool
  | 0, _ => .ok true
  | k + 1, o => (partV env e xs o).b fun a => (partV env e ys o).b fun b => (eq e a b).b fun r => cond r (eqElems env eq e size xs ys k (o + size)) (.ok false)

def eqStep (env : Env) (eq : Nat → Value → Value → R Bool) (t : Nat) (x y : Value) : R Bool :=
  (env.ti t).b fun i =>
  match i.td, x, y with
  | .bool, .bool a, .bool b => .ok (a == b)
  | .int _, .int k a, .int k' b => cond (decide (k = k')) (.ok (a == b)) (.no "equal kinds")
  | .string, .string a, .string b => .ok (bytesEq a b)
  | .pointer _, .pointer none, .pointer b => .ok b.isNone
  | .pointer _, .pointer (some _), .pointer none => .ok false
  | .slice _, .slice none _ _, .slice b _ _ => .ok b.isNone
  | .slice _, .slice (some _) _ _, .slice none _ _ => .ok false
  | .map _ _, .map none, .map b => .ok b.isNone
  | .map _ _, .map (some _), .map none => .ok false
  | .func, .nilFunc, .nilFunc => .ok true
  | .func, .nilFunc, .func _ _ _ => .ok false
  | .func, .func _ _ _, .nilFunc => .ok false
  | .struct fs, .agg xs, .agg ys => (R.must i.plain "equal a type that is not plain").b fun _ => eqFields env eq xs.toList ys.toList fs
  | .array n e, .agg xs, .agg ys => (R.must i.plain "equal a type that is not plain").b fun _ => (env.ti e).b fun j => eqElems env eq e j.size xs.toList ys.toList n 0
  | _, _, _ => .no "equal operands"

def gEq (env : Env) : Nat → Nat → Value → Value → R Bool
  | 0 => fun _ _ _ => .no "equal depth"
  | d + 1 => eqStep env (gEq env d)

/-! pure and quiet operations -/

def bytesLess : List UInt8 → List UInt8 → Bool
  | _, [] => false
  | [], _ :: _ => true
  | a :: x, b :: y => Nat.blt a.toNat b.toNat || (Nat.beq a.toNat b.toNat && bytesLess x y)

/-! whole numbers, reckoned quickly -/

def kmax : IntKind → Nat
  | .i8 => 127 | .i16 => 32767 | .i32 => 2147483647 | .i64 => 9223372036854775807
  | .u8 => 255 | .u16 => 65535 | .u32 => 4294967295 | .u64 => 18446744073709551615

def gWrap (k : IntKind) (x : Int) : Int :=
  match x with
  | .ofNat n => cond (Nat.ble n (kmax k)) (.ofNat n) (k.wrap (.ofNat n))
  | .negSucc n => cond (k.signed && Nat.ble n (kmax k)) (.negSucc n) (k.wrap (.negSucc n))

def gAdd (x y : Int) : Int :=
  match x, y with
  | .ofNat a, .ofNat b => .ofNat (a + b)
  | x, y => x + y

def gSub (x y : Int) : Int :=
  match x, y with
  | .ofNat a, .ofNat b => cond (Nat.ble b a) (.ofNat (a - b)) (.ofNat a - .ofNat b)
  | x, y => x - y

def gMul (x y : Int) : Int :=
  match x, y with
  | .ofNat a, .ofNat b => .ofNat (a * b)
  | x, y => x * y

def gIntEq (x y : Int) : Bool :=
  match x, y with
  | .ofNat a, .ofNat b => Nat.beq a b
  | .negSucc a, .negSucc b => Nat.beq a b
  | _, _ => false

def gIntLe (x y : Int) : Bool :=
  match x, y with
  | .ofNat a, .ofNat b => Nat.ble a b
  | .negSucc _, .ofNat _ => true
  | .ofNat _, .negSucc _ => false
  | .negSucc a, .negSucc b => Nat.ble b a

def gBits (k : IntKind) (f : Nat → Nat → Nat) (g : BitVec k.bits → BitVec k.bits → BitVec k.bits) (x y : Int) : Int :=
  match x, y with
  | .ofNat a, .ofNat b => cond (Nat.ble a (kmax k) && Nat.ble b (kmax k)) (.ofNat (f a b)) (k.wrap ((g (BitVec.ofInt k.bits (.ofNat a)) (BitVec.ofInt k.bits (.ofNat b))).toNat : Nat))
  | x, y => k.wrap ((g (BitVec.ofInt k.bits x) (BitVec.ofInt k.bits y)).toNat : Nat)

def intBin (op : BinOp) (k : IntKind) (x y : Int) : R Value :=
  match op with
  | .add => .ok (.int k (gWrap k (gAdd x y)))
  | .sub => .ok (.int k (gWrap k (gSub x y)))
  | .mul => .ok (.int k (gWrap k (gMul x y)))
  | .quo => cond (gIntEq y 0) (.no "division by zero") (.ok (.int k (match x, y with | .ofNat a, .ofNat b => gWrap k (.ofNat (a / b)) | x, y => k.wrap (x.tdiv y))))
  | .rem => cond (gIntEq y 0) (.no "division by zero") (.ok (.int k (match x, y with | .ofNat a, .ofNat b => .ofNat (a % b) | x, y => x.tmod y)))
  | .and => .ok (.int k (gBits k Nat.land (· &&& ·) x y))
  | .or => .ok (.int k (gBits k Nat.lor (· ||| ·) x y))
  | .xor => .ok (.int k (gBits k Nat.xor (· ^^^ ·) x y))
  | .andNot => .ok (.int k (k.wrap ((BitVec.ofInt k.bits x &&& ~~~(BitVec.ofInt k.bits y)).toNat : Nat)))
  | .eql => .ok (.bool (gIntEq x y))
  | .neq => .ok (.bool (!gIntEq x y))
  | .lss => .ok (.bool (!gIntLe y x))
  | .leq => .ok (.bool (gIntLe x y))
  | .gtr => .ok (.bool (!gIntLe x y))
  | .geq => .ok (.bool (gIntLe y x))
  | _ => .no "binary"

def shiftBin (op : BinOp) (k : IntKind) (x y : Int) : R Value :=
  match y with
  | .negSucc _ => .no "negative shift"
  | .ofNat m =>
    let n := cond (Nat.ble m k.bits) m k.bits
    match op with
    | .shl => .ok (.int k (match x with | .ofNat a => gWrap k (.ofNat (a * 2 ^ n)) | x => k.wrap (x * 2 ^ n)))
    | .shr => .ok (.int k (match x with | .ofNat a => .ofNat (a / 2 ^ n) | x => x.fdiv (2 ^ n)))
    | _ => .no "shift"

/-! the same, as the model says it -/

def intBin0 (op : BinOp) (k : IntKind) (x y : Int) : R Value :=
  match op with
  | .add => .ok (.int k (k.wrap (x + y)))
  | .sub => .ok (.int k (k.wrap (x - y)))
  | .mul => .ok (.int k (k.wrap (x * y)))
  | .quo => cond (decide (y = 0)) (.no "division by zero") (.ok (.int k (k.wrap (x.tdiv y))))
  | .rem => cond (decide (y = 0)) (.no "division by zero") (.ok (.int k (x.tmod y)))
  | .and => .ok (.int k (k.wrap ((BitVec.ofInt k.bits x &&& BitVec.ofInt k.bits y).toNat : Nat)))
  | .or => .ok (.int k (k.wrap ((BitVec.ofInt k.bits x ||| BitVec.ofInt k.bits y).toNat : Nat)))
  | .xor => .ok (.int k (k.wrap ((BitVec.ofInt k.bits x ^^^ BitVec.ofInt k.bits y).toNat : Nat)))
  | .andNot => .ok (.int k (k.wrap ((BitVec.ofInt k.bits x &&& ~~~(BitVec.ofInt k.bits y)).toNat : Nat)))
  | .eql => .ok (.bool (x == y))
  | .neq => .ok (.bool (x != y))
  | .lss => .ok (.bool (decide (x < y)))
  | .leq => .ok (.bool (decide (x ≤ y)))
  | .gtr => .ok (.bool (decide (x > y)))
  | .geq => .ok (.bool (decide (x ≥ y)))
  | _ => .no "binary"

def shiftBin0 (op : BinOp) (k : IntKind) (x y : Int) : R Value :=
  cond (decide (y < 0)) (.no "negative shift")
    (let n := min y.toNat k.bits
     match op with
     | .shl => .ok (.int k (k.wrap (x * 2 ^ n)))
     | .shr => .ok (.int k (x.fdiv (2 ^ n)))
     | _ => .no "shift")

def strBin (op : BinOp) (x y : List UInt8) : R Value :=
  match op with
  | .add => cond (Nat.blt (x.length + y.length) 9223372036854775807) (.ok (.string ⟨⟨x ++ y⟩⟩)) (.no "string too long")
  | .eql => .ok (.bool (x == y))
  | .neq => .ok (.bool (!(x == y)))
  | .lss => .ok (.bool (bytesLess x y))
  | .leq => .ok (.bool (bytesLess x y || x == y))
  | .gtr => .ok (.bool !(bytesLess x y || x == y))
  | .geq => .ok (.bool !(bytesLess x y))
  | _ => .no "string operator"

def gBin (env : Env) (op : BinOp) (t : Nat) (x y : Value) : R Value :=
  match x, y with
  | .int k a, .int k' b =>
    match op with
    | .shl | .shr => shiftBin op k a b
    | _ => cond (decide (k = k')) (intBin op k a b) (.no "binary kinds")
  | .string a, .string b => strBin op a.data.toList b.data.toList
  | x, y =>
    match op with
    | .eql => (gEq env 20 t x y).b fun r => .ok (.bool r)
    | .neq => (gEq env 20 t x y).b fun r => .ok (.bool !r)
    | _ => .no "binary operands"

def gUn (op : UnOp) (x : Value) : R Value :=
  match op, x with
  | .not, .bool b => .ok (.bool !b)
  | .neg, .int k n => .ok (.int k (k.wrap (0 - n)))
  | .xor, .int k n => intBin .xor k (if k.signed then -1 else k.max) n
  | _, _ => .no "unary"

def bound (v : Value) (y : Nat) : R Nat :=
  match v with
  | .int _ n => cond (decide (0 ≤ n) && decide (n ≤ y)) (.ok n.toNat) (.no "slice bounds")
  | _ => .no "slice bound"

def optB (v : Option Value) (y d : Nat) : R Nat :=
  match v with
  | some v => bound v y
  | none => .ok d

/-- The high end where the default may lie above the capacity. -/
def optB' (v : Option Value) (y d : Nat) : R Nat :=
  match v with
  | some v => bound v y
  | none => cond (Nat.ble d y) (.ok d) (.no "slice length")

def addOff (a : Addr) (n : Nat) : Addr := cond (Nat.beq n 0) a ⟨a.block, a.off + n, none⟩

/-- The high end of a slice whose capacity is not known: up to the cells that are known. -/
def highFlex (cells off size len : Nat) (v : Value) : R Nat :=
  match v with
  | .int _ n => cond (decide (0 ≤ n) && (decide (n ≤ len) || Nat.ble (off + n.toNat * size) cells)) (.ok n.toNat) (.no "slice bounds")
  | _ => .no "slice bound"

def optHigh (v : Option Value) (cells off size len : Nat) : R Nat :=
  match v with
  | some v => highFlex cells off size len v
  | none => .ok len

def mustB (v : Option Value) (y : Nat) : R Nat :=
  match v with
  | some v => bound v y
  | none => .no "slice max without high"

def gSlice (env : Env) (h : Heap) (t : Nat) (x : Value) (lo hi mx : Option Value) : R Value :=
  (env.td t).b fun d =>
  match d, x with
  | .string, .string s =>
    match mx with
    | some _ => .no "slice max"
    | none =>
      (optB hi s.data.toList.length s.data.toList.length).b fun u => (optB lo u 0).b fun l =>
        .ok (.string ⟨⟨(s.data.toList.drop l).take (u - l)⟩⟩)
  | .slice e, .slice a len cap =>
    (env.ti e).b fun i =>
    cond (Nat.beq cap flexCap)
      (match a with
        | some ⟨b, off, none⟩ =>
          match mx with
          | some m => (bound m len).b fun m => (R.must (Nat.blt m flexCap) "slice max").b fun _ => (mustB hi m).b fun u => (optB lo u 0).b fun l =>
            .ok (.slice (some (cond (Nat.beq m l) ⟨b, off, none⟩ (addOff ⟨b, off, none⟩ (l * i.size)))) (u - l) (m - l))
          | none => (h.cells b).b fun p => (R.must (Nat.beq p.1 i.size && !Nat.beq i.size 0) "slice size").b fun _ =>
            (optHigh hi p.2.length off i.size len).b fun u => (optB lo u 0).b fun l =>
              .ok (.slice (some (addOff ⟨b, off, none⟩ (l * i.size))) (u - l) flexCap)
        | _ => .no "slice")
      (match mx with
        | some m => (bound m cap).b fun m => (mustB hi m).b fun u => (optB lo u 0).b fun l =>
          .ok (.slice (cond (Nat.beq m l) a (a.map fun a => addOff a (l * i.size))) (u - l) (m - l))
        | none => (optB' hi cap len).b fun u => (optB lo u 0).b fun l =>
          .ok (.slice (cond (Nat.beq cap l) a (a.map fun a => addOff a (l * i.size))) (u - l) (cap - l)))
  | .array n e, .pointer (some a) =>
    (env.ti e).b fun i =>
    match mx with
    | some _ => .no "slice max of an array"
    | none =>
      (R.must (Nat.blt n flexCap) "slice an array").b fun _ => (optB hi n n).b fun u => (optB lo u 0).b fun l =>
        .ok (.slice (some (cond (Nat.beq n l) a (addOff a (l * i.size)))) (u - l) (n - l))
  | _, _ => .no "slice"

def gFill (place : Nat → Option (Nat × Nat)) (cells : List Value) : List (Nat × Value) → R (List Value)
  | [] => .ok cells
  | (i, v) :: rest =>
    match place i with
    | none => .no "build no such field"
    | some (off, size) =>
      let cs := cellsV v
      (R.must (Nat.beq cs.length size && Nat.ble (off + cs.length) cells.length) "build size").b fun _ => (writeAt off cells cs).b fun c => gFill place c rest

def sizes (env : Env) : List (Nat × Nat) → R (List (Nat × Nat))
  | [] => .ok []
  | f :: l => (env.ti f.1).b fun i => (sizes env l).b fun r => .ok ((f.2, i.size) :: r)

def gBuild (env : Env) (t : Nat) (parts : List (Nat × Value)) : R Value :=
  (env.ti t).b fun i =>
  match i.td with
  | .struct fs => (sizes env fs).b fun pl => (R.of i.zero "zero").b fun z => (gFill (fun k => pl[k]?) z parts).b fun c => .ok (.agg ⟨c⟩)
  | .array _ e => (env.ti e).b fun j => (R.of i.zero "zero").b fun z => (gFill (fun k => some (k * j.size, j.size)) z parts).b fun c => .ok (.agg ⟨c⟩)
  | _ => .no "build"

def rep (zero : List Value) : Nat → List Value
  | 0 => []
  | n + 1 => zero ++ rep zero n

def evParts (s : Tmps) : List (Nat × Operand) → R (List (Nat × Value))
  | [] => .ok []
  | (i, o) :: l => (ev s o).b fun v => (evParts s l).b fun vs => .ok ((i, v) :: vs)

def evOpt (s : Tmps) : Option Operand → R (Option Value)
  | none => .ok none
  | some o => (ev s o).b fun v => .ok (some v)

def basicTD : TD → Bool
  | .bool | .int _ | .string => true
  | _ => false

def keyFields (env : Env) (cs : List Value) : List (Nat × Nat) → R Unit
  | [] => .ok ()
  | f :: l => (env.ti f.1).b fun j => (R.must (basicTD j.td) "key").b fun _ => (partV env f.1 cs f.2).b fun _ => keyFields env cs l

/-- May a value be a key of this type? -/
def keyCheck (env : Env) (kt : Nat) (k : Value) : R Unit :=
  (env.ti kt).b fun i =>
  match i.td, k with
  | .bool, _ | .int _, _ | .string, _ => .ok ()
  | .struct fs, .agg cs => (R.must i.plain "key").b fun _ => keyFields env cs.toList fs
  | _, _ => .no "key"

def findKey (env : Env) (kt : Nat) (k : Value) : List MapEntry → Nat → R (Option (Nat × Value))
  | [], _ => .ok none
  | e :: es, i => (gEq env 20 kt k e.key).b fun r => cond r (.ok (some (i, e.val))) (findKey env kt k es (i + 1))

def valOf (i : TI) : R Value :=
  (R.of i.zero "zero").b fun z => cond i.agg (.ok (.agg ⟨z⟩)) (match z with | [v] => .ok v | _ => .no "zero value")

def bytesOf : List Value → R (List UInt8)
  | [] => .ok []
  | .int .u8 n :: l => (bytesOf l).b fun r => .ok (UInt8.ofNat n.toNat :: r)
  | _ :: _ => .no "byte expected"

def foldR {α β : Type} (f : α → β → R α) : α → List β → R α
  | a, [] => .ok a
  | a, b :: l => (f a b).b fun a' => foldR f a' l

def min2 : Value → Value → R Value
  | .int k x, .int k' y => cond (decide (k = k')) (.ok (.int k (if y < x then y else x))) (.no "min kinds")
  | _, _ => .no "min"
def max2 : Value → Value → R Value
  | .int k x, .int k' y => cond (decide (k = k')) (.ok (.int k (if y > x then y else x))) (.no "max kinds")
  | _, _ => .no "max"

/-- What an operation is: pure or quiet; one that makes a block; all else. -/
inductive Kind where
  | quiet | makes | loud
  deriving DecidableEq

def sliceOf (env : Env) (t : Nat) : Bool :=
  match env.tt.get t with
  | some { td := .slice _, .. } => true
  | _ => false

def kindOf (env : Env) : Op → Kind
  | .move _ | .assign _ | .pick .. | .build .. | .load .. | .nilCheck _ | .binOp .. | .unOp .. | .makeFunc .. | .slice .. | .fieldAddr .. | .field ..
  | .indexAddr .. | .index .. | .lookup .. | .extract .. | .makeInterface .. | .entry _ => .quiet
  | .convert s d _ => cond (sliceOf env d) (cond (sliceOf env s) .loud .makes) .quiet
  | .call { callee := .builtin b, .. } =>
    match b with
    | .len | .cap | .min | .max => .quiet
    | _ => .loud
  | .alloc _ | .box .. | .buildSlice .. | .makeMap .. | .makeSlice .. => .makes
  | _ => .loud

def entriesOf (h : Heap) : Value → R (List MapEntry)
  | .map none => .ok []
  | .map (some r) => match h.get r with | some (.map es _) => .ok es | _ => .no "no map"
  | _ => .no "map expected"

def foundOr (ei : TI) : Option (Nat × Value) → R (Value × Bool)
  | some (_, x) => .ok (x, true)
  | none => (valOf ei).b fun z => .ok (z, false)

def quietOp (env : Env) (s : Tmps) (h : Heap) (o : Op) : R Value :=
  match o with
  | .move x | .assign x => ev s x
  | .pick c a b => (ev s c).b fun v => (asBool v).b fun t => cond t (ev s a) (ev s b)
  | .build t ps => (evParts s ps.toList).b fun vs => gBuild env t vs
  | .load t a => (ev s a).b fun v => (asAddr v).b fun p => loadVar env h t p
  | .nilCheck x => (ev s x).b fun v =>
    match v with
    | .pointer (some _) => .ok v
    | .func (.func _) _ _ => .ok v
    | _ => .no "nilCheck"
  | .binOp op t x y _ => (ev s x).b fun a => (ev s y).b fun b => gBin env op t a b
  | .unOp op _ x => (ev s x).b fun a => gUn op a
  | .makeFunc (.func f) first cap => (evs s first.toList).b fun a => (evs s cap.toList).b fun b => .ok (.func (.func f) ⟨a⟩ ⟨b⟩)
  | .slice t x lo hi mx => (ev s x).b fun v => (evOpt s lo).b fun l => (evOpt s hi).b fun u => (evOpt s mx).b fun m => gSlice env h t v l u m
  | .fieldAddr t x f => (ev s x).b fun v => (asAddr v).b fun a => (env.td t).b fun d =>
    match d with
    | .struct fs => (R.of fs[f]? "no such field").b fun p => (env.ti p.1).b fun i =>
      (R.must (!Nat.beq i.size 0) "a field without cells").b fun _ => .ok (.pointer (some (addOff a p.2)))
    | _ => .no "fieldAddr"
  | .field t x f => (ev s x).b fun v => (env.td t).b fun d =>
    match d, v with
    | .struct fs, .agg cs => (R.of fs[f]? "no such field").b fun p => partV env p.1 cs.toList p.2
    | _, _ => .no "field"
  | .indexAddr t x ix => (ev s x).b fun v => (ev s ix).b fun j => (asInt j).b fun i => (env.td t).b fun d =>
    match d, v with
    | .array n e, .pointer (some a) => (env.ti e).b fun k => cond (decide (0 ≤ i) && decide (i < n)) (.ok (.pointer (some (addOff a (i.toNat * k.size))))) (.no "index")
    | .slice e, .slice (some a) n _ => (env.ti e).b fun k => cond (decide (0 ≤ i) && decide (i < n)) (.ok (.pointer (some (addOff a (i.toNat * k.size))))) (.no "index")
    | _, _ => .no "indexAddr"
  | .index t x ix => (ev s x).b fun v => (ev s ix).b fun j => (asInt j).b fun i => (env.td t).b fun d =>
    match d, v with
    | .array n e, .agg cs => (env.ti e).b fun k => cond (decide (0 ≤ i) && decide (i < n)) (partV env e cs.toList (i.toNat * k.size)) (.no "index")
    | .string, .string b => cond (decide (0 ≤ i)) (match b.data.toList[i.toNat]? with | some c => .ok (.int .u8 c.toNat) | none => .no "index") (.no "index")
    | _, _ => .no "index"
  | .lookup t m k ok => (ev s m).b fun v => (ev s k).b fun kv => (env.td t).b fun d =>
    match d with
    | .map kt e => (env.ti e).b fun ei => (keyCheck env kt kv).b fun _ =>
      (entriesOf h v).b fun es => (findKey env kt kv es 0).b fun fd => (foundOr ei fd).b fun r =>
      .ok (cond ok (.tuple #[r.1, .bool r.2]) r.1)
    | _ => .no "lookup"
  | .extract t i => (ev s t).b fun v =>
    match v with
    | .tuple vs => R.of vs.toList[i]? "extract"
    | _ => .no "extract"
  | .makeInterface t x => (ev s x).b fun v => (env.td t).b fun d => match d with | .other => .no "makeInterface" | _ => .ok (.iface t v)
  | .entry it => (ev s it).b fun v =>
    match v with
    | .pointer (some ⟨r, 0, none⟩) =>
      match h.get r with
      | some (.mapIter (some m) _ seen stepped) =>
        match seen, h.get m with
        | st :: _, some (.map es clock) =>
          (R.must (Nat.beq clock stepped) "entry").b fun _ =>
          (R.of (es.find? fun e => Nat.beq e.born st) "entry").b fun e => .ok (.tuple #[e.key, e.val])
        | _, _ => .no "entry"
      | _ => .no "entry"
    | _ => .no "entry"
  | .convert src dst x => (ev s x).b fun v => (env.td src).b fun sd => (env.td dst).b fun d =>
    match sd, d, v with
    | _, .int k, .int _ n => .ok (.int k (k.wrap n))
    | _, .string, .string b => .ok (.string b)
    | .slice e, .string, .slice none _ _ => (env.td e).b fun ed => match ed with | .int .u8 => .ok (.string ⟨⟨[]⟩⟩) | _ => .no "convert"
    | .slice e, .string, .slice (some a) len _ => (env.td e).b fun ed =>
      match ed with
      | .int .u8 => (h.read a len).b fun cs => (bytesOf cs).b fun bs => .ok (.string ⟨⟨bs⟩⟩)
      | _ => .no "convert"
    | _, _, _ => .no "convert"
  | .call { callee := .builtin b, args, argTypes } => (evs s args.toList).b fun vs => (R.of argTypes.toList[0]? "builtin type").b fun t =>
    match b, vs with
    | .len, [v] => (env.td t).b fun d =>
      match d, v with
      | .string, .string x => .ok (goInt x.data.toList.length)
      | .slice _, .slice _ n _ => .ok (goInt n)
      | .array n _, _ => .ok (goInt n)
      | .map _ _, .map none => .ok (goInt 0)
      | .map _ _, .map (some r) => match h.get r with | some (.map es _) => .ok (goInt es.length) | _ => .no "len"
      | _, _ => .no "len"
    | .cap, [v] => (env.td t).b fun d =>
      match d, v with
      | .slice _, .slice _ _ c => cond (Nat.beq c flexCap) (.no "cap not known") (.ok (goInt c))
      | _, _ => .no "cap"
    | .min, v :: l => foldR min2 v l
    | .max, v :: l => foldR max2 v l
    | _, _ => .no "builtin"
  | _ => .no "quiet no such operation"

/-- An operation that makes a block: what it yields when its block's number is `i`. -/
def makesOp (env : Env) (s : Tmps) (i : Nat) (o : Op) : R (Value × Blk) :=
  match o with
  | .alloc t => (env.ti t).b fun k => (R.of k.zero "zero").b fun z => .ok (.pointer (some ⟨i, 0, none⟩), .cells 0 z)
  | .box _ x => (ev s x).b fun v => .ok (.pointer (some ⟨i, 0, none⟩), .cells 0 (cellsV v))
  | .buildSlice t n ps => (evParts s ps.toList).b fun vs => (env.td t).b fun d =>
    match d with
    | .slice e => (env.ti e).b fun k =>
      (R.of k.zero "zero").b fun z => (R.must (Nat.ble (n * k.size) 1000000 && Nat.beq z.length k.size) "buildSlice size").b fun _ => (R.must (Nat.ble n 1000000) "buildSlice length").b fun _ =>
      (gFill (fun j => some (j * k.size, k.size)) (rep z n) vs).b fun c => .ok (.slice (some ⟨i, 0, none⟩) n n, .cells k.size c)
    | _ => .no "buildSlice"
  | .makeMap _ r => match r with
    | none => .ok (.map (some i), .map [] 0)
    | some _ => .no "makeMap reserve"
  | .makeSlice t l c => (ev s l).b fun lv => (ev s c).b fun cv => (env.td t).b fun d =>
    match d, lv, cv with
    | .slice e, .int .i64 l, .int .i64 c => (env.ti e).b fun k => (R.of k.zero "zero").b fun z =>
      (R.must (decide (0 ≤ l) && decide (l ≤ c) && decide (c ≤ 1000000) && Nat.ble (c.toNat * k.bytes) 1000000 && Nat.beq z.length k.size) "makeSlice").b fun _ =>
      .ok (.slice (some ⟨i, 0, none⟩) l.toNat c.toNat, .cells k.size (rep z c.toNat))
    | _, _, _ => .no "makeSlice"
  | .convert src dst x => (ev s x).b fun v => (env.td src).b fun _ => (env.td dst).b fun d =>
    match d, v with
    | .slice e, .string b => (env.ti e).b fun k =>
      match k.td with
      | .int .u8 => (R.must (Nat.beq k.size 1) "convert").b fun _ => .ok (.slice (some ⟨i, 0, none⟩) b.data.toList.length flexCap, .cells 1 (b.data.toList.map fun c => .int .u8 c.toNat))
      | _ => .no "convert"
    | _, _ => .no "convert"
  | _ => .no "makes no such operation"

/-! loud operations -/

def lenOf : Value → R Nat
  | .slice _ n _ => .ok n
  | .string s => .ok s.data.toList.length
  | _ => .no "slice or string expected"

def firstCells (h : Heap) (size n : Nat) : Value → R (List Value)
  | .slice (some a) _ _ => h.read a (n * size)
  | .slice none _ _ => .ok []
  | .string s => .ok ((s.data.toList.take n).map fun b => .int .u8 b.toNat)
  | _ => .no "slice or string expected"

def writeOpt (h : Heap) (base : Option Addr) (cs : List Value) : R Heap :=
  match base with
  | none => .ok h
  | some a => h.write a cs

def isIntTD : TD → Bool
  | .int _ => true
  | _ => false

def gAppend (env : Env) (h : Heap) (types : List Nat) (args : List Value) : R (Value × Heap) :=
  match types, args with
  | [st, xt], [.slice base len cap, x] =>
    (env.td st).b fun d => (env.td xt).b fun xd =>
    match d with
    | .slice e => (env.ti e).b fun k => (R.of k.zero "zero").b fun z =>
      let zeros := isIntTD xd
      (cond zeros ((asInt x).b fun l => (R.must (decide (0 ≤ l) && decide (l ≤ 1000000)) "append make").b fun _ => .ok l.toNat) (lenOf x)).b fun n =>
      (cond zeros (.ok (rep z n)) (firstCells h k.size n x)).b fun new =>
      let need := len + n
      (R.must (Nat.ble (need * k.bytes) 1000000 && Nat.ble need 1000000 && Nat.beq z.length k.size && !Nat.beq k.size 0 && !Nat.beq k.bytes 0 && new.all flatCell && Nat.beq new.length (n * k.size)) "append size").b fun _ =>
      match base with
      | none => cond (Nat.beq need 0) (.ok (.slice none 0 0, h))
          (.ok (.slice (some ⟨h.next, 0, none⟩) need flexCap, h.add (.cells k.size new)))
      | some a =>
        cond (Nat.beq cap flexCap)
          (match a.spot with
           | some _ => .no "append spot"
           | none => (h.cells a.block).b fun p =>
            (R.must (Nat.beq p.1 k.size) "append size of an element").b fun _ =>
            cond (Nat.ble (a.off + need * k.size) p.2.length)
              -- there is room that is known
              ((h.write ⟨a.block, a.off + len * k.size, none⟩ new).b fun h' => .ok (.slice base need cap, h'))
              -- at the end: the old number dies
              ((R.must (Nat.beq (a.off + len * k.size) p.2.length) "append in the midst of a block").b fun _ =>
                .ok (.slice (some ⟨h.next, 0, none⟩) need flexCap, (h.drop a.block).add (.cells k.size (p.2.drop a.off ++ new)))))
          (cond (Nat.ble need cap)
            ((h.write ⟨a.block, a.off + len * k.size, none⟩ new).b fun h' => .ok (.slice base need cap, h'))
            ((h.read a (len * k.size)).b fun old =>
              .ok (.slice (some ⟨h.next, 0, none⟩) need flexCap, h.add (.cells k.size (old ++ new)))))
    | _ => .no "append"
  | _, _ => .no "append arguments"

/-- Are two values the same? -/
def vFlat : Value → Value → Bool
  | .bool a, .bool b => a == b
  | .int j a, .int k b => decide (j = k) && a == b
  | .string a, .string b => bytesEq a b
  | .pointer a, .pointer b => decide (a = b)
  | .slice a n c, .slice b m d => decide (a = b) && Nat.beq n m && Nat.beq c d
  | .map a, .map b => decide (a = b)
  | .nilFunc, .nilFunc => true
  | .nilIface, .nilIface => true
  | _, _ => false

def vEqs (eq : Value → Value → Bool) : List Value → List Value → Bool
  | [], [] => true
  | a :: x, b :: y => eq a b && vEqs eq x y
  | _, _ => false

def vEqStep (eq : Value → Value → Bool) : Value → Value → Bool
  | .func f a b, .func g c d => decide (f = g) && vEqs eq a.toList c.toList && vEqs eq b.toList d.toList
  | .agg a, .agg b => vEqs eq a.toList b.toList
  | .tuple a, .tuple b => vEqs eq a.toList b.toList
  | a, b => vFlat a b

def vEq : Nat → Value → Value → Bool
  | 0 => vFlat
  | n + 1 => vEqStep (vEq n)

def gMapPut (env : Env) (h : Heap) (t : Nat) (m k : Value) (f : Value → Value) (zero : Bool) (x : Value) : R (Value × Nat × Heap) :=
  (env.td t).b fun d =>
  match d, m with
  | .map kt e, .map (some r) => (env.ti e).b fun ei => (keyCheck env kt k).b fun _ =>
    match h.get r with
    | some (.map es clock) =>
      (findKey env kt k es 0).b fun fd =>
      match fd with
      | some (i, v) => (R.of es[i]? "map").b fun e0 => (R.must (vEq 8 e0.key k) "map another key").b fun _ => .ok (v, e0.born, h.put r (.map (es.modify i fun en => { en with key := k, val := f en.val }) clock))
      | none => (cond zero (valOf ei) (.ok x)).b fun z =>
        .ok (z, clock, h.put r (.map (es ++ [{ key := k, val := z, born := clock }]) (clock + 1)))
    | _ => .no "map no map"
  | _, _ => .no "map"

def gNext (h : Heap) (it : Value) (isString : Bool) : R (Value × Heap) :=
  match it with
  | .pointer (some ⟨r, 0, none⟩) =>
    match h.get r, isString with
    | some (.strIter s pos), true =>
      cond (Nat.blt pos s.data.toList.length)
        (match s.data.toList.drop pos with
         | c :: _ => (R.must (Nat.blt c.toNat 128) "next a sign beyond ASCII").b fun _ =>
           .ok (.tuple #[.bool true, goInt pos, .int .i32 c.toNat], h.put r (.strIter s (pos + 1)))
         | [] => .no "next")
        (.ok (.tuple #[.bool false], h))
    | some (.mapIter none _ _ _), false => .ok (.tuple #[.bool false], h)
    | some (.mapIter (some m) since seen stepped), false =>
      match h.get m with
      | some (.map es clock) =>
        (R.must (seen.isEmpty || es.isEmpty || es.any fun e => Nat.blt e.born stepped) "next all is gone").b fun _ =>
        let left := es.filter fun e => !(seen.any fun b => Nat.beq b e.born)
        let old := left.filter fun e => Nat.blt e.born since
        let new := left.filter fun e => !Nat.blt e.born since
        match old, new with
        | [], [] => .ok (.tuple #[.bool false], h)
        | [e], [] => .ok (.tuple #[.bool true, e.key, e.val], h.put r (.mapIter (some m) since (e.born :: seen) clock))
        | _, _ => .no "next the order is open"
      | _ => .no "next"
    | _, _ => .no "next"
  | _ => .no "next"

inductive Ex where
  | normal | exit (id : Nat) | ret
  deriving DecidableEq

def Ex.ends : Ex → Bool
  | .exit _ => false
  | _ => true

structure St where
  s : Tmps
  h : Heap

abbrev Rec := Code → St → R (Ex × St)

def initTmps : List Value → Nat → Tmps → Tmps
  | [], _, t => t
  | v :: l, n, t => initTmps l (n + 1) (t.put n (some v))

def oneResult (env : Env) (st : St) : ResultVar → R Value
  | .tmp t => R.of (st.s.get t) "an unset result"
  | .cell a t => (R.of (st.s.get a) "an unset result").b fun v => (asAddr v).b fun p => loadVar env st.h t p

def manyResults (env : Env) (st : St) : List ResultVar → R (List Value)
  | [] => .ok []
  | r :: l => (oneResult env st r).b fun v => (manyResults env st l).b fun vs => .ok (v :: vs)

def dstsOk (n : Nat) : Code → Bool
  | .region _ ops _ => ops.toList.all fun o => match o.dst with | some d => Nat.blt d n | none => true
  | .seq a b => dstsOk n a && dstsOk n b
  | .cond _ a b => dstsOk n a && dstsOk n b
  | .block _ c => dstsOk n c
  | .loop c => dstsOk n c
  | _ => true

def callFn (env : Env) (rec : Rec) (f : Nat) (args : List Value) (h : Heap) : R (Value × Heap) :=
  match env.prim f with
  | some p => p args h
  | none =>
    (R.of (env.ft.get f) "no such function").b fun fn => (R.of fn.body "a function without a body").b fun c =>
    (R.must (Nat.ble args.length fn.ntmps && dstsOk fn.ntmps c) "call temporaries").b fun _ =>
    (rec c { s := initTmps args 0 .leaf, h }).b fun r =>
    (R.must r.1.ends "call exit").b fun _ =>
    (manyResults env r.2 fn.results.toList).b fun vs =>
    .ok (match vs with | [v] => v | _ => .tuple ⟨vs⟩, r.2.h)

def loudOp (env : Env) (rec : Rec) (s : Tmps) (h : Heap) (o : Op) : R (Value × Heap) :=
  match o with
  | .store t a x => (ev s a).b fun av => (asAddr av).b fun p => (ev s x).b fun v => (storeVar env h t p v).b fun h' => .ok (undef, h')
  | .mapUpdate t m k x | .insert t m k x => (ev s m).b fun mv => (ev s k).b fun kv => (ev s x).b fun v => (gMapPut env h t mv kv (fun _ => v) false v).b fun r => .ok (undef, r.2.2)
  | .mapEntry t m k => (ev s m).b fun mv => (ev s k).b fun kv => (gMapPut env h t mv kv id true undef).b fun r => .ok (.tuple #[r.1, goInt r.2.1], r.2.2)
  | .entryStore _ m b x => (ev s m).b fun mv => (ev s b).b fun bv => (ev s x).b fun v =>
    match mv, bv with
    | .map (some r), .int _ born =>
      match h.get r with
      | some (.map es clock) =>
        match es.findIdx? fun e => decide ((e.born : Int) = born) with
        | some i => .ok (undef, h.put r (.map (es.modify i fun e => { e with val := v }) clock))
        | none => .no "entryStore"
      | _ => .no "entryStore"
    | _, _ => .no "entryStore"
  | .range t x => (ev s x).b fun v => (env.td t).b fun d =>
    match d, v with
    | .string, .string b => .ok (.pointer (some ⟨h.next, 0, none⟩), h.add (.strIter b 0))
    | .map _ _, .map none => .ok (.pointer (some ⟨h.next, 0, none⟩), h.add (.mapIter none 0 [] 0))
    | .map _ _, .map (some m) =>
      match h.get m with
      | some (.map _ clock) => .ok (.pointer (some ⟨h.next, 0, none⟩), h.add (.mapIter (some m) clock [] clock))
      | _ => .no "range"
    | _, _ => .no "range"
  | .next it isString => (ev s it).b fun v => gNext h v isString
  | .convert src dst x => (ev s x).b fun v => (env.td dst).b fun d =>
    match d, v with
    | .slice e, .slice (some ⟨b, _, none⟩) n _ => (env.td e).b fun ed => match ed with | .int .u8 => (R.must (Nat.beq src dst && !Nat.beq n 0) "convert").b fun _ => (h.cells b).b fun _ => .ok (v, h) | _ => .no "convert"
    | _, _ => .no "convert"
  | .call { callee := .value f, args, .. } => (ev s f).b fun fv => (evs s args.toList).b fun vs =>
    match fv with
    | .func (.func g) first cap => callFn env rec g (first.toList ++ vs ++ cap.toList) h
    | _ => .no "call no function"
  | .call { callee := .builtin b, args, argTypes } => (evs s args.toList).b fun vs =>
    match b with
    | .append => gAppend env h argTypes.toList vs
    | .copy =>
      match argTypes.toList, vs with
      | dt :: _, [.slice base dLen _, src] => (env.td dt).b fun d =>
        match d with
        | .slice e => (env.ti e).b fun k => (lenOf src).b fun sl =>
          let n := min sl dLen
          (firstCells h k.size n src).b fun cs => (R.must (Nat.beq cs.length (n * k.size) && !Nat.beq k.size 0) "copy size").b fun _ =>
          (writeOpt h base cs).b fun h' => .ok (goInt n, h')
        | _ => .no "copy"
      | _, _ => .no "copy"
    | .clear =>
      match argTypes.toList, vs with
      | t :: _, [.slice base n _] => (env.td t).b fun d =>
        match d, base with
        | .slice e, some a => (env.ti e).b fun k => (R.of k.zero "zero").b fun z => (R.must (Nat.beq z.length k.size && !Nat.beq k.size 0) "clear").b fun _ => (h.write a (rep z n)).b fun h' => .ok (.tuple #[], h')
        | .slice _, none => .ok (.tuple #[], h)
        | _, _ => .no "clear"
      | _, _ => .no "clear"
    | .delete =>
      match argTypes.toList, vs with
      | t :: _, [.map (some r), k] => (env.td t).b fun d =>
        match d, h.get r with
        | .map kt _, some (.map es clock) => (keyCheck env kt k).b fun _ =>
          (findKey env kt k es 0).b fun fd =>
          match fd with
          | some (i, _) => .ok (.tuple #[], h.put r (.map (es.eraseIdx i) clock))
          | none => .ok (.tuple #[], h)
        | _, _ => .no "delete"
      | _, _ => .no "delete"
    | _ => .no "loud builtin"
  | _ => .no "loud no such operation"

def putDst (s : Tmps) (d : Option Nat) (v : Value) : Tmps :=
  match d with
  | some t => s.put t (some v)
  | none => s

/-- Does an operation run? -/
def runs (ops : List Oper) (s : Tmps) (o : Oper) : R Bool :=
  match o.guard with
  | none => .ok true
  | some (j, want) => (R.of (ops[j]?.bind (·.dst)) "guard").b fun t => (R.of (s.get t) "guard").b fun v => match v with | .bool b => .ok (b == want) | _ => .ok false

def oneOp (env : Env) (rec : Rec) (o : Op) (dst : Option Nat) (st : St) : R St :=
  match kindOf env o with
  | .quiet => (quietOp env st.s st.h o).b fun v => .ok { st with s := putDst st.s dst v }
  | .makes => (makesOp env st.s st.h.next o).b fun r => .ok { s := putDst st.s dst r.1, h := st.h.add r.2 }
  | .loud => (loudOp env rec st.s st.h o).b fun r => .ok { s := putDst st.s dst r.1, h := r.2 }

def inOrder (env : Env) (rec : Rec) (ops : List Oper) : List Oper → St → R St
  | [], st => .ok st
  | o :: l, st => (runs ops st.s o).b fun go =>
    cond go (((oneOp env rec o.op o.dst st).at o.pos).b fun st' => inOrder env rec ops l st') (inOrder env rec ops l { st with s := putDst st.s o.dst undef })

/-! A region that draws its order: read in the order of the text; what is made lies back till something loud must come behind it; each quiet operation is read again at every stage at which it may run. -/

structure Item where
  o : Oper
  act : Bool
  kd : Kind
  q : Nat
  s : Tmps
  v : Value
  b : Option Blk

def Item.loud (x : Item) : Bool :=
  match x.kd with
  | .loud => x.act
  | _ => false

def adopt (base : Nat) : List (Nat × Blk) → Heap → Heap
  | [], h => h
  | (i, b) :: l, h => adopt base l (h.put (base + i) b)

def maskOf (acc : List Nat) (o : Oper) : Nat :=
  o.after.toList.foldl (fun s e => cond (Region.binds .any e) (s ||| 2 ^ e.on ||| acc.getD e.on 0) s) 0

def masksOf : List Oper → List Nat → List Nat
  | [], acc => acc
  | o :: l, acc => masksOf l (acc ++ [maskOf acc o])

def drawGo (env : Env) (rec : Rec) (ops : List Oper) (masks : List Nat) (base : Nat) :
    List Oper → Nat → Tmps → Heap → Nat → List (Nat × Blk) → R (List Item × List Heap × St)
  | [], _, s, h, _, pend => .ok ([], [h], { s, h := adopt base pend h })
  | o :: l, i, s, h, q, pend =>
    (runs ops s o).b fun go =>
    cond go
      (match kindOf env o.op with
      | .quiet => ((quietOp env s (adopt base (pend.filter fun p => (masks.getD i 0).testBit p.1) h) o.op).at o.pos).b fun v =>
        (drawGo env rec ops masks base l (i + 1) (putDst s o.dst v) h q pend).b fun r => .ok ({ o, act := true, kd := .quiet, q, s, v, b := none } :: r.1, r.2)
      | .makes => ((makesOp env s (base + i) o.op).at o.pos).b fun p =>
        (drawGo env rec ops masks base l (i + 1) (putDst s o.dst p.1) h q (pend ++ [(i, p.2)])).b fun r =>
          .ok ({ o, act := true, kd := .makes, q, s, v := p.1, b := some p.2 } :: r.1, r.2)
      | .loud => ((loudOp env rec s (adopt base (pend.filter fun p => (masks.getD i 0).testBit p.1) h) o.op).at o.pos).b fun p =>
        (drawGo env rec ops masks base l (i + 1) (putDst s o.dst p.1) p.2 (q + 1) (pend.filter fun p => !(masks.getD i 0).testBit p.1)).b fun r =>
          .ok ({ o, act := true, kd := .loud, q, s, v := p.1, b := none } :: r.1, h :: r.2.1, r.2.2))
      ((drawGo env rec ops masks base l (i + 1) (putDst s o.dst undef) h q pend).b fun r => .ok ({ o, act := false, kd := .quiet, q, s, v := undef, b := none } :: r.1, r.2))

def sepOf (ops : List Oper) (x y : Oper) : Bool :=
  (match x.dst with
   | some d => !(y.looksAt ⟨ops⟩).contains d
   | none => true) &&
  (match y.dst with
   | some d => !(x.looksAt ⟨ops⟩).contains d
   | none => true)

def dstsApart (x y : Oper) : Bool :=
  match x.dst, y.dst with
  | some d, some e => !Nat.beq d e
  | _, _ => true

/-- May item i run when k loud operations have run? -/
def mayRun (items : List Item) (masks : List Nat) (i k : Nat) : Bool :=
  items.zipIdx.all fun p => !p.1.loud ||
    ((!(masks.getD i 0).testBit p.2 || Nat.blt p.1.q k) && (!(masks.getD p.2 0).testBit i || Nat.ble k p.1.q))

/-- What lies back when k loud operations have run, and stands ahead of item i. -/
def backOf (items : List Item) (masks : List Nat) (i k : Nat) : List (Nat × Blk) :=
  items.zipIdx.filterMap fun p =>
    match p.1.b with
    | some b => cond ((masks.getD i 0).testBit p.2 && items.zipIdx.all fun r => !r.1.loud || Nat.ble k r.1.q || !(masks.getD r.2 0).testBit p.2) (some (p.2, b)) none
    | none => none

def isLoud (env : Env) (o : Op) : Bool :=
  match kindOf env o with
  | .loud => true
  | _ => false

/-- Does a quiet operation look at the heap? -/
def readsHeap : Op → Bool
  | .load .. | .lookup .. | .entry _ | .convert .. | .call .. | .slice .. => true
  | _ => false

/-- An operation x at place j, ahead of y in the text, whose mask is m. -/
def pairOk (env : Env) (ops : List Oper) (m j : Nat) (x y : Oper) : Bool :=
  dstsApart x y && (m.testBit j || (sepOf ops x y && !(isLoud env x.op && isLoud env y.op)))

def pairsOk (env : Env) (ops : List Oper) (m : Nat) (y : Oper) : List Oper → Nat → Nat → Bool
  | [], _, _ => true
  | x :: l, j, i => Nat.ble i j || (pairOk env ops m j x y && pairsOk env ops m y l (j + 1) i)

def guardOk (m : Nat) (o : Oper) : Bool :=
  match o.guard with
  | some (j, _) => m.testBit j
  | none => true

def planOk (env : Env) (ops : List Oper) (masks : List Nat) : List Oper → Nat → Bool
  | [], _ => true
  | o :: l, i => Nat.blt (masks.getD i 0) (2 ^ i) && guardOk (masks.getD i 0) o && pairsOk env ops (masks.getD i 0) o ops 0 i && planOk env ops masks l (i + 1)

/-- Is an operation to be read again at other stages? -/
def again (env : Env) (ops : List Oper) (masks : List Nat) (o : Oper) (i : Nat) : Bool :=
  readsHeap o.op && ops.zipIdx.any fun p => isLoud env p.1.op && !(masks.getD i 0).testBit p.2 && !(masks.getD p.2 0).testBit i

def itemOk (env : Env) (base : Nat) (items : List Item) (masks : List Nat) (heaps : List Heap) (x : Item) (i : Nat) : Bool :=
  match x.kd with
  | .quiet => !x.act || heaps.zipIdx.all fun p => Nat.beq p.2 x.q || !mayRun items masks i p.2 ||
      (match quietOp env x.s (adopt base (backOf items masks i p.2) p.1) x.o.op with
       | .ok v => vEq 8 v x.v
       | .no _ => false)
  | _ => true

def gDraw (env : Env) (rec : Rec) (ops : List Oper) (st : St) : R St :=
  (R.must (planOk env ops (masksOf ops []) ops 0) "a region whose text is not apart").b fun _ =>
  (drawGo env rec ops (masksOf ops []) st.h.next ops 0 st.s { st.h with next := st.h.next + ops.length } 0 []).b fun r =>
  (R.must (r.1.zipIdx.all fun p => !again env ops (masksOf ops []) p.1.o p.2 || itemOk env st.h.next r.1 (masksOf ops []) r.2.1 p.1 p.2) "a region whose order tells").b fun _ => .ok r.2.2

def gStep (env : Env) (rec : Rec) : Rec := fun c st =>
  match c with
  | .skip => .ok (.normal, st)
  | .region _ ops draw => (cond draw (gDraw env rec ops.toList st) (inOrder env rec ops.toList ops.toList st)).b fun st' => .ok (.normal, st')
  | .seq a b => (rec a st).b fun r => match r.1 with | .normal => rec b r.2 | _ => .ok r
  | .cond c x y => (ev st.s c).b fun v => (asBool v).b fun t => cond t (rec x st) (rec y st)
  | .block id c => (rec c st).b fun r => match r.1 with | .exit i => cond (Nat.beq i id) (.ok (.normal, r.2)) (.ok r) | _ => .ok r
  | .loop c => (rec c st).b fun r => match r.1 with | .normal => rec (.loop c) r.2 | _ => .ok r
  | .exit id => .ok (.exit id, st)
  | .ret => .ok (.ret, st)
  | .label _ => .ok (.normal, st)
  | _ => .no "code no such form"

def run (env : Env) : Nat → Rec
  | 0 => fun _ _ => .no "out of fuel"
  | n + 1 => gStep env (run env n)

def emptyHeap : Heap := { t := .leaf, next := 0 }

def call (env : Env) (fuel : Nat) (f : Nat) (args : List Value) : R (Value × Heap) := callFn env (run env fuel) f args emptyHeap

def fnOf (fn : Func) : Option Func :=
  cond (fn.body.isSome && fn.name != "runtime.NumGoroutine") (some fn) none

def envOf (p : Program) (prim : Nat → Option Prim) : Env :=
  { tt := Tree.ofList (p.types.toList.mapIdx fun t i => tiOf p t i) 0 .leaf, ft := Tree.ofList (p.funcs.toList.map fnOf) 0 .leaf, prim }

end Go.G

/- G against the model: the relation of abstract block numbers to blocks, and its simple laws. -/
namespace Go.G

/-! results -/

theorem R.b_ok {α β : Type} {x : R α} {f : α → R β} {c : β} (h : x.b f = .ok c) : ∃ a, x = .ok a ∧ f a = .ok c := by
  cases x with
  | ok a => exact ⟨a, rfl, h⟩
  | no w => exact (nomatch h)

theorem R.of_ok {α : Type} {o : Option α} {s : String} {a : α} (h : R.of o s = .ok a) : o = some a := by
  cases o with
  | some b => simp only [R.of, R.ok.injEq] at h; rw [h]
  | none => exact (nomatch h)

theorem R.at_ok {α : Type} {x : R α} {s : String} {a : α} (h : x.at s = .ok a) : x = .ok a := by
  cases x with
  | ok b => exact h
  | no w => exact (nomatch h)

theorem R.must_ok {c : Bool} {s : String} {u : Unit} (h : R.must c s = .ok u) : c = true := by
  cases c with
  | true => rfl
  | false => exact (nomatch h)

theorem cond_ok {α : Type} {c : Bool} {x y : R α} {a : α} (h : cond c x y = .ok a) : (c = true ∧ x = .ok a) ∨ (c = false ∧ y = .ok a) := by
  cases c with
  | true => exact .inl ⟨rfl, h⟩
  | false => exact .inr ⟨rfl, h⟩

/-! tables -/

theorem Tree.get_leaf {α : Type} (n : Nat) : (Tree.leaf : Tree α).get n = none := by
  cases n <;> rfl

theorem Tree.get_zero {α : Type} (t : Tree α) : t.get 0 = t.val := by
  cases t <;> rfl

theorem Tree.get_even {α : Type} (t : Tree α) (m : Nat) (h : m % 2 = 0) : t.get (m + 1) = t.left.get (m / 2) := by
  cases t with
  | leaf => rw [Tree.get_leaf]; exact (Tree.get_leaf _).symm
  | node v l r => simp [Tree.get, Tree.left, h]

theorem Tree.get_odd {α : Type} (t : Tree α) (m : Nat) (h : m % 2 ≠ 0) : t.get (m + 1) = t.right.get (m / 2) := by
  cases t with
  | leaf => rw [Tree.get_leaf]; exact (Tree.get_leaf _).symm
  | node v l r =>
    have : Nat.beq (m % 2) 0 = false := by
      cases hb : Nat.beq (m % 2) 0 with
      | false => rfl
      | true => exact absurd (Nat.eq_of_beq_eq_true hb) h
    simp [Tree.get, Tree.right, this]

theorem Tree.putF_get {α : Type} (a : Option α) : ∀ (f : Nat) (t : Tree α) (n : Nat), n < f → ∀ m, (Tree.putF f t n a).get m = if m = n then a else t.get m := by
  intro f
  induction f with
  | zero => intro t n h; omega
  | succ f ih =>
    intro t n h m
    cases n with
    | zero =>
      simp only [Tree.putF]
      cases m with
      | zero => simp [Tree.get]
      | succ m =>
        rw [if_neg (by omega)]
        by_cases hm : m % 2 = 0
        · rw [Tree.get_even _ _ hm, Tree.get_even _ _ hm]; rfl
        · rw [Tree.get_odd _ _ hm, Tree.get_odd _ _ hm]; rfl
    | succ n =>
      have hn : n / 2 < f := by omega
      by_cases hp : n % 2 = 0
      · have hb : Nat.beq (n % 2) 0 = true := by rw [hp]; rfl
        simp only [Tree.putF, hb, cond_true]
        cases m with
        | zero => rw [if_neg (by omega), Tree.get_zero, Tree.get_zero]; rfl
        | succ m =>
          by_cases hm : m % 2 = 0
          · rw [Tree.get_even _ _ hm, Tree.get_even _ _ hm]
            show (Tree.putF f t.left (n / 2) a).get (m / 2) = _
            rw [ih _ _ hn]
            by_cases e : m = n
            · subst e; simp
            · rw [if_neg (by omega), if_neg (by omega)]
          · rw [Tree.get_odd _ _ hm, Tree.get_odd _ _ hm, if_neg (by omega)]; rfl
      · have hb : Nat.beq (n % 2) 0 = false := by
          cases hb : Nat.beq (n % 2) 0 with
          | false => rfl
          | true => exact absurd (Nat.eq_of_beq_eq_true hb) hp
        simp only [Tree.putF, hb, cond_false]
        cases m with
        | zero => rw [if_neg (by omega), Tree.get_zero, Tree.get_zero]; rfl
        | succ m =>
          by_cases hm : m % 2 = 0
          · rw [Tree.get_even _ _ hm, Tree.get_even _ _ hm, if_neg (by omega)]; rfl
          · rw [Tree.get_odd _ _ hm, Tree.get_odd _ _ hm]
            show (Tree.putF f t.right (n / 2) a).get (m / 2) = _
            rw [ih _ _ hn]
            by_cases e : m = n
            · subst e; simp
            · rw [if_neg (by omega), if_neg (by omega)]

theorem Tree.get_put {α : Type} (t : Tree α) (n : Nat) (a : Option α) (m : Nat) : (t.put n a).get m = if m = n then a else t.get m :=
  Tree.putF_get a (n + 1) t n (Nat.lt_succ_self n) m

theorem Tree.get_ofList {α : Type} : ∀ (l : List (Option α)) (n : Nat) (t : Tree α) (m : Nat),
    (Tree.ofList l n t).get m = if n ≤ m ∧ m < n + l.length then (l[m - n]?).getD none else t.get m := by
  intro l
  induction l with
  | nil => intro n t m; rw [if_neg (by simp only [List.length_nil]; omega)]; rfl
  | cons a l ih =>
    intro n t m
    simp only [Tree.ofList]
    rw [ih, Tree.get_put]
    simp only [List.length_cons]
    by_cases h1 : m = n
    · subst h1
      rw [if_neg (by omega), if_pos rfl, if_pos (by omega)]
      simp
    · rw [if_neg h1]
      by_cases h2 : n + 1 ≤ m ∧ m < n + 1 + l.length
      · rw [if_pos h2, if_pos (by omega)]
        have : m - n = (m - (n + 1)) + 1 := by omega
        rw [this, List.getElem?_cons_succ]
      · rw [if_neg h2, if_neg (by omega)]

/-! values -/

/-- Where a block lies: its number in the world, the first cell that is its own, how many cells the world's block has, of how many an element is. -/
structure Loc where
  b : Nat
  base : Nat
  tot : Nat
  esz : Nat

abbrev Ren := Nat → Option Loc

inductive VRel (ρ : Ren) : Value → Value → Prop where
  | bool (b : Bool) : VRel ρ (.bool b) (.bool b)
  | int (k : IntKind) (n : Int) : VRel ρ (.int k n) (.int k n)
  | string (s : ByteArray) : VRel ρ (.string s) (.string s)
  | nilFunc : VRel ρ .nilFunc .nilFunc
  | nilIface : VRel ρ .nilIface .nilIface
  | ptrNil : VRel ρ (.pointer none) (.pointer none)
  | ptr {i off : Nat} {L : Loc} (h : ρ i = some L) : VRel ρ (.pointer (some ⟨i, off, none⟩)) (.pointer (some ⟨L.b, L.base + off, none⟩))
  | sliceNil : VRel ρ (.slice none 0 0) (.slice none 0 0)
  | slice {i off n c : Nat} {L : Loc} {a : Addr} (h : ρ i = some L) (hc : c < flexCap) (hn : n ≤ c) (ha : a = ⟨L.b, L.base + off, none⟩ ∨ c = 0) :
      VRel ρ (.slice (some ⟨i, off, none⟩) n c) (.slice (some a) n c)
  | flex {i off n c : Nat} {L : Loc} {a : Addr} (h : ρ i = some L) (hc : L.base + off + c * L.esz = L.tot) (hn : n ≤ c)
      (ha : a = ⟨L.b, L.base + off, none⟩ ∨ c = 0) : VRel ρ (.slice (some ⟨i, off, none⟩) n flexCap) (.slice (some a) n c)
  | mapNil : VRel ρ (.map none) (.map none)
  | map {i : Nat} {L : Loc} (h : ρ i = some L) : VRel ρ (.map (some i)) (.map (some L.b))
  | func (fn : Fn) {xs ys xs' ys' : List Value} (hl : xs.length = xs'.length) (hm : ys.length = ys'.length)
      (h : ∀ (i : Nat) (v v' : Value), xs[i]? = some v → xs'[i]? = some v' → VRel ρ v v') (k : ∀ (i : Nat) (v v' : Value), ys[i]? = some v → ys'[i]? = some v' → VRel ρ v v') :
      VRel ρ (.func fn ⟨xs⟩ ⟨ys⟩) (.func fn ⟨xs'⟩ ⟨ys'⟩)
  | iface (t : Nat) {v v' : Value} (h : VRel ρ v v') : VRel ρ (.iface t v) (.iface t v')
  | agg {xs xs' : List Value} (hl : xs.length = xs'.length) (h : ∀ (i : Nat) (v v' : Value), xs[i]? = some v → xs'[i]? = some v' → VRel ρ v v') : VRel ρ (.agg ⟨xs⟩) (.agg ⟨xs'⟩)
  | tuple {xs xs' : List Value} (hl : xs.length = xs'.length) (h : ∀ (i : Nat) (v v' : Value), xs[i]? = some v → xs'[i]? = some v' → VRel ρ v v') : VRel ρ (.tuple ⟨xs⟩) (.tuple ⟨xs'⟩)

def Ren.sub (ρ σ : Ren) : Prop := ∀ i L, ρ i = some L → σ i = some L

theorem Ren.sub_refl (ρ : Ren) : ρ.sub ρ := fun _ _ h => h
theorem Ren.sub_trans {ρ σ τ : Ren} (h : ρ.sub σ) (k : σ.sub τ) : ρ.sub τ := fun i L e => k i L (h i L e)

theorem VRel.mono {ρ σ : Ren} (hs : ρ.sub σ) {v v' : Value} (h : VRel ρ v v') : VRel σ v v' := by
  induction h with
  | bool b => exact .bool b
  | int k n => exact .int k n
  | string s => exact .string s
  | nilFunc => exact .nilFunc
  | nilIface => exact .nilIface
  | ptrNil => exact .ptrNil
  | ptr h => exact .ptr (hs _ _ h)
  | sliceNil => exact .sliceNil
  | slice h hc hn ha => exact .slice (hs _ _ h) hc hn ha
  | flex h hc hn ha => exact .flex (hs _ _ h) hc hn ha
  | mapNil => exact .mapNil
  | map h => exact .map (hs _ _ h)
  | func fn hl hm _ _ ih ik => exact .func fn hl hm ih ik
  | iface t _ ih => exact .iface t ih
  | agg hl _ ih => exact .agg hl ih
  | tuple hl _ ih => exact .tuple hl ih

/-- Rows of values, one by one. -/
def LRel (ρ : Ren) (xs ys : List Value) : Prop := xs.length = ys.length ∧ ∀ (i : Nat) (v v' : Value), xs[i]? = some v → ys[i]? = some v' → VRel ρ v v'

theorem LRel.mono {ρ σ : Ren} (hs : ρ.sub σ) {xs ys : List Value} (h : LRel ρ xs ys) : LRel σ xs ys :=
  ⟨h.1, fun i v v' a b => (h.2 i v v' a b).mono hs⟩

theorem LRel.nil (ρ : Ren) : LRel ρ [] [] := ⟨rfl, fun _ _ _ h => by simp at h⟩

theorem LRel.cons {ρ : Ren} {v v' : Value} {xs ys : List Value} (h : VRel ρ v v') (k : LRel ρ xs ys) : LRel ρ (v :: xs) (v' :: ys) := by
  refine ⟨by simp [k.1], fun i a b ha hb => ?_⟩
  cases i with
  | zero => simp at ha hb; subst ha; subst hb; exact h
  | succ i => simp at ha hb; exact k.2 i a b ha hb

theorem LRel.head {ρ : Ren} {v v' : Value} {xs ys : List Value} (h : LRel ρ (v :: xs) (v' :: ys)) : VRel ρ v v' := h.2 0 v v' rfl rfl
theorem LRel.tail {ρ : Ren} {v v' : Value} {xs ys : List Value} (h : LRel ρ (v :: xs) (v' :: ys)) : LRel ρ xs ys :=
  ⟨by have := h.1; simpa using this, fun i a b ha hb => h.2 (i + 1) a b (by simpa using ha) (by simpa using hb)⟩

theorem LRel.cons_inv {ρ : Ren} {v : Value} {xs zs : List Value} (h : LRel ρ (v :: xs) zs) : ∃ v' ys, zs = v' :: ys ∧ VRel ρ v v' ∧ LRel ρ xs ys := by
  cases zs with
  | nil => exact absurd h.1 (by simp)
  | cons v' ys => exact ⟨v', ys, rfl, h.head, h.tail⟩

theorem LRel.nil_inv {ρ : Ren} {zs : List Value} (h : LRel ρ [] zs) : zs = [] := by
  cases zs with
  | nil => rfl
  | cons _ _ => exact absurd h.1 (by simp)

theorem LRel.append {ρ : Ren} {xs ys xs' ys' : List Value} (h : LRel ρ xs xs') (k : LRel ρ ys ys') : LRel ρ (xs ++ ys) (xs' ++ ys') := by
  refine ⟨by simp [h.1, k.1], fun i a b ha hb => ?_⟩
  rcases Nat.lt_or_ge i xs.length with hi | hi
  · rw [List.getElem?_append_left hi] at ha
    rw [List.getElem?_append_left (h.1 ▸ hi)] at hb
    exact h.2 i a b ha hb
  · rw [List.getElem?_append_right hi] at ha
    rw [List.getElem?_append_right (h.1 ▸ hi), ← h.1] at hb
    exact k.2 _ a b ha hb

theorem LRel.drop {ρ : Ren} {xs ys : List Value} (n : Nat) (h : LRel ρ xs ys) : LRel ρ (xs.drop n) (ys.drop n) := by
  refine ⟨by simp [h.1], fun i a b ha hb => ?_⟩
  rw [List.getElem?_drop] at ha hb
  exact h.2 _ a b ha hb

theorem LRel.take {ρ : Ren} {xs ys : List Value} (n : Nat) (h : LRel ρ xs ys) : LRel ρ (xs.take n) (ys.take n) := by
  refine ⟨by simp [h.1], fun i a b ha hb => ?_⟩
  rw [List.getElem?_take] at ha hb
  split at ha
  · rename_i hi
    rw [if_pos hi] at hb
    exact h.2 _ a b ha hb
  · simp at ha

theorem LRel.get {ρ : Ren} {xs ys : List Value} (h : LRel ρ xs ys) {i : Nat} {v : Value} (hv : xs[i]? = some v) : ∃ v', ys[i]? = some v' ∧ VRel ρ v v' := by
  have hi : i < xs.length := (List.getElem?_eq_some_iff.1 hv).1
  have hj : i < ys.length := h.1 ▸ hi
  exact ⟨ys[i], List.getElem?_eq_getElem hj, h.2 i v _ hv (List.getElem?_eq_getElem hj)⟩

theorem VRel.agg_of {ρ : Ren} {xs ys : List Value} (h : LRel ρ xs ys) : VRel ρ (.agg ⟨xs⟩) (.agg ⟨ys⟩) := .agg h.1 h.2
theorem VRel.tuple_of {ρ : Ren} {xs ys : List Value} (h : LRel ρ xs ys) : VRel ρ (.tuple ⟨xs⟩) (.tuple ⟨ys⟩) := .tuple h.1 h.2
theorem VRel.func_of {ρ : Ren} (fn : Fn) {xs ys xs' ys' : List Value} (h : LRel ρ xs xs') (k : LRel ρ ys ys') : VRel ρ (.func fn ⟨xs⟩ ⟨ys⟩) (.func fn ⟨xs'⟩ ⟨ys'⟩) := .func fn h.1 k.1 h.2 k.2

theorem VRel.agg_inv {ρ : Ren} {xs : List Value} {v' : Value} (h : VRel ρ (.agg ⟨xs⟩) v') : ∃ ys, v' = .agg ⟨ys⟩ ∧ LRel ρ xs ys := by
  cases h with | agg hl h => exact ⟨_, rfl, hl, h⟩
theorem VRel.tuple_inv {ρ : Ren} {xs : List Value} {v' : Value} (h : VRel ρ (.tuple ⟨xs⟩) v') : ∃ ys, v' = .tuple ⟨ys⟩ ∧ LRel ρ xs ys := by
  cases h with | tuple hl h => exact ⟨_, rfl, hl, h⟩

theorem VRel.lit {ρ : Ren} {v : Value} (h : litOk v = true) : VRel ρ v v := by
  cases v with
  | bool b => exact .bool b
  | int k n => exact .int k n
  | string s => exact .string s
  | pointer a => cases a with | none => exact .ptrNil | some a => simp [litOk] at h
  | slice a n c =>
    cases a with
    | none => cases n with
      | zero => cases c with
        | zero => exact .sliceNil
        | succ c => simp [litOk] at h
      | succ n => simp [litOk] at h
    | some a => simp [litOk] at h
  | map r => cases r with | none => exact .mapNil | some r => simp [litOk] at h
  | nilFunc => exact .nilFunc
  | nilIface => exact .nilIface
  | _ => simp [litOk] at h

theorem LRel.lits {ρ : Ren} : ∀ {xs : List Value}, xs.all litOk = true → LRel ρ xs xs
  | [], _ => .nil ρ
  | v :: xs, h => by
    simp only [List.all_cons, Bool.and_eq_true] at h
    exact .cons (.lit h.1) (LRel.lits h.2)

theorem VRel.undef (ρ : Ren) : VRel ρ undef undef := .tuple rfl (fun i v v' h => by simp at h)

theorem VRel.flat {ρ : Ren} {v v' : Value} (h : VRel ρ v v') (hf : flatCell v = true) : flatCell v' = true := by
  cases h <;> first | rfl | (simp [flatCell] at hf)

theorem VRel.cells {ρ : Ren} {v v' : Value} (h : VRel ρ v v') : LRel ρ (cellsV v) (v'.cells.toList) := by
  cases h with
  | agg hl h => exact ⟨hl, h⟩
  | _ => exact .cons (by constructor <;> assumption) (.nil ρ)

end Go.G

/- G against the model: the relation of an abstract heap to the world's, what keeps it, and the runs of reads and writes. -/
namespace Go.G

structure ERel (ρ : Ren) (e e' : MapEntry) : Prop where
  key : VRel ρ e.key e'.key
  val : VRel ρ e.val e'.val
  born : e.born = e'.born

def EsRel (ρ : Ren) (xs ys : List MapEntry) : Prop := xs.length = ys.length ∧ ∀ (i : Nat) (e e' : MapEntry), xs[i]? = some e → ys[i]? = some e' → ERel ρ e e'

theorem ERel.mono {ρ σ : Ren} (hs : ρ.sub σ) {e e' : MapEntry} (h : ERel ρ e e') : ERel σ e e' := ⟨h.key.mono hs, h.val.mono hs, h.born⟩
theorem EsRel.mono {ρ σ : Ren} (hs : ρ.sub σ) {xs ys : List MapEntry} (h : EsRel ρ xs ys) : EsRel σ xs ys :=
  ⟨h.1, fun i e e' a b => (h.2 i e e' a b).mono hs⟩

inductive BlkRel (ρ : Ren) (L : Loc) : Blk → Obj → Prop where
  | cells {esz : Nat} {c : List Value} {arr : Array Value} {e : TypeId} {lo hi : Nat} (hs : arr.size = L.tot) (he : L.esz = esz) (hf : lo = hi ∨ L.tot ≤ lo) (hb : esz = 0 → L.base = 0)
      (hc : ∀ (i : Nat) (v : Value), c[i]? = some v → ∃ v', arr[L.base + i]? = some v' ∧ VRel ρ v v') : BlkRel ρ L (.cells esz c) (.cells arr e (lo, hi))
  | map {es : List MapEntry} {es' : Array MapEntry} {clock : Nat} (hb : L.base = 0) (h : EsRel ρ es es'.toList) : BlkRel ρ L (.map es clock) (.map es' clock)
  | strIter (hb : L.base = 0) (s : ByteArray) (pos : Nat) : BlkRel ρ L (.strIter s pos) (.stringIter s pos)
  | mapIterNil (hb : L.base = 0) (since since' stepped stepped' : Nat) (seen : List Nat) (seen' : Array Nat) : BlkRel ρ L (.mapIter none since seen stepped) (.mapIter none since' seen' stepped')
  | mapIter {m since stepped : Nat} {M : Loc} {seen : List Nat} {seen' : Array Nat} (hb : L.base = 0) (h : ρ m = some M) (hs : seen'.toList.reverse = seen) :
      BlkRel ρ L (.mapIter (some m) since seen stepped) (.mapIter (some M.b) since seen' stepped)

theorem BlkRel.mono {ρ σ : Ren} (hs : ρ.sub σ) {L : Loc} {b : Blk} {o : Obj} (h : BlkRel ρ L b o) : BlkRel σ L b o := by
  cases h with
  | cells h1 h2 h3 h5 h4 => exact .cells h1 h2 h3 h5 fun i v hv => let ⟨v', a, r⟩ := h4 i v hv; ⟨v', a, r.mono hs⟩
  | map hb h => exact .map hb (h.mono hs)
  | strIter hb s pos => exact .strIter hb s pos
  | mapIterNil hb a b c d e f => exact .mapIterNil hb a b c d e f
  | mapIter hb h k => exact .mapIter hb (hs _ _ h) k

def LiveB (ρ : Ren) (h : Heap) (b : Nat) : Prop := ∃ i k L, h.get i = some k ∧ ρ i = some L ∧ L.b = b

/-- A variable of the library's holds this. -/
def GlobAt (H : Array Obj) (k : Nat) : Prop := ∃ arr e f n, H[k]? = some (.cells arr e f) ∧ arr[0]? = some (.int .i64 n)

theorem GlobAt.lt {H : Array Obj} {k : Nat} (h : GlobAt H k) : k < H.size := by
  obtain ⟨arr, e, f, n, h, _⟩ := h
  exact (Array.getElem?_eq_some_iff.1 h).1

theorem GlobAt.of_eq {H H' : Array Obj} {k : Nat} (h : GlobAt H k) (e : H'[k]? = H[k]?) : GlobAt H' k := by
  obtain ⟨arr, t, f, n, h1, h2⟩ := h
  exact ⟨arr, t, f, n, by rw [e]; exact h1, h2⟩

structure Rel (ρ : Ren) (h : Heap) (H : Array Obj) : Prop where
  live : ∀ (i : Nat) (b : Blk), h.get i = some b → ∃ L o, ρ i = some L ∧ H[L.b]? = some o ∧ BlkRel ρ L b o
  inj : ∀ (i j : Nat) (b c : Blk) (L M : Loc), h.get i = some b → h.get j = some c → ρ i = some L → ρ j = some M → L.b = M.b → i = j
  dom : ∀ (i : Nat) (L : Loc), ρ i = some L → i < h.next
  low : ∀ (i : Nat) (L : Loc), ρ i = some L → L.b < H.size
  glob : ∀ k : Nat, k ∈ h.glob → GlobAt H k ∧ ¬LiveB ρ h k

theorem Rel.glob_keep {ρ ρ' : Ren} {h h' : Heap} {H H' : Array Obj} (R : Rel ρ h H) (hg : h'.glob = h.glob) (keep : ∀ b, b < H.size → ¬LiveB ρ h b → H'[b]? = H[b]? ∧ ¬LiveB ρ' h' b) :
    ∀ k : Nat, k ∈ h'.glob → GlobAt H' k ∧ ¬LiveB ρ' h' k := by
  intro k hk
  rw [hg] at hk
  obtain ⟨g1, g2⟩ := R.glob k hk
  obtain ⟨e, l⟩ := keep k g1.lt g2
  exact ⟨g1.of_eq e, l⟩

structure Ext (ρ : Ren) (h : Heap) (w : World) (ρ' : Ren) (h' : Heap) (w' : World) : Prop where
  sub : ρ.sub ρ'
  next : h.next ≤ h'.next
  size : w.heap.size ≤ w'.heap.size
  keep : ∀ b, b < w.heap.size → ¬LiveB ρ h b → w'.heap[b]? = w.heap[b]? ∧ ¬LiveB ρ' h' b
  os : w'.os = w.os
  tape : w'.tape = w.tape
  output : w'.output = w.output
  old : ∀ i, i < h.next → ρ' i = ρ i
  gl : h'.glob = h.glob

theorem Ext.refl (ρ : Ren) (h : Heap) (w : World) : Ext ρ h w ρ h w := ⟨ρ.sub_refl, Nat.le_refl _, Nat.le_refl _, fun _ _ hl => ⟨rfl, hl⟩, rfl, rfl, rfl, fun _ _ => rfl, rfl⟩

theorem Ext.trans {ρ ρ' ρ'' : Ren} {h h' h'' : Heap} {w w' w'' : World} (x : Ext ρ h w ρ' h' w') (y : Ext ρ' h' w' ρ'' h'' w'') : Ext ρ h w ρ'' h'' w'' :=
  ⟨Ren.sub_trans x.sub y.sub, Nat.le_trans x.next y.next, Nat.le_trans x.size y.size,
   fun b hb hl => let ⟨e, l⟩ := x.keep b hb hl; let ⟨e', l'⟩ := y.keep b (Nat.lt_of_lt_of_le hb x.size) l; ⟨e'.trans e, l'⟩,
   y.os.trans x.os, y.tape.trans x.tape, y.output.trans x.output, fun i hi => (y.old i (Nat.lt_of_lt_of_le hi x.next)).trans (x.old i hi), y.gl.trans x.gl⟩

/-- Worlds of the same heap: a draw changes nothing here. -/
theorem Ext.draw {ρ : Ren} {h : Heap} {w w' : World} (hh : w'.heap = w.heap) (ho : w'.os = w.os) (ht : w'.tape = w.tape) (hp : w'.output = w.output) : Ext ρ h w ρ h w' :=
  ⟨ρ.sub_refl, Nat.le_refl _, by rw [hh]; exact Nat.le_refl _, fun _ _ hl => ⟨by rw [hh], hl⟩, ho, ht, hp, fun _ _ => rfl, rfl⟩

/-! heaps -/

theorem Heap.get_put (h : Heap) (i : Nat) (b : Blk) (j : Nat) : (h.put i b).get j = if j = i then some b else h.get j := Tree.get_put _ _ _ _
theorem Heap.get_drop (h : Heap) (i : Nat) (j : Nat) : (h.drop i).get j = if j = i then none else h.get j := Tree.get_put _ _ _ _
theorem Heap.get_add (h : Heap) (b : Blk) (j : Nat) : (h.add b).get j = if j = h.next then some b else h.get j := Tree.get_put _ _ _ _
theorem Heap.next_put (h : Heap) (i : Nat) (b : Blk) : (h.put i b).next = h.next := rfl
theorem Heap.next_drop (h : Heap) (i : Nat) : (h.drop i).next = h.next := rfl
theorem Heap.next_add (h : Heap) (b : Blk) : (h.add b).next = h.next + 1 := rfl

/-- A number more. -/
def Ren.upd (ρ : Ren) (i : Nat) (L : Loc) : Ren := fun j => if j = i then some L else ρ j

theorem Ren.upd_same (ρ : Ren) (i : Nat) (L : Loc) : ρ.upd i L i = some L := by simp [Ren.upd]
theorem Ren.sub_upd {ρ : Ren} {i : Nat} (h : ρ i = none) (L : Loc) : ρ.sub (ρ.upd i L) := fun j M hj => by
  unfold Ren.upd
  rw [if_neg (by rintro rfl; rw [h] at hj; cases hj)]
  exact hj

def setBlk (w : World) (b : Nat) (o : Obj) : World := { w with heap := w.heap.setIfInBounds b o }

theorem getElem?_setBlk {w : World} {b : Nat} {o : Obj} (hb : b < w.heap.size) (k : Nat) : (setBlk w b o).heap[k]? = if k = b then some o else w.heap[k]? := by
  unfold setBlk
  by_cases e : k = b
  · subst e; simp [hb]
  · rw [if_neg e]
    exact Array.getElem?_setIfInBounds_ne (Ne.symm e)

theorem Rel.set {ρ : Ren} {h : Heap} {w : World} (R : Rel ρ h w.heap) {i : Nat} {b b' : Blk} {L : Loc} {o' : Obj} (hb : h.get i = some b) (hL : ρ i = some L) (hn : BlkRel ρ L b' o') :
    Rel ρ (h.put i b') (setBlk w L.b o').heap ∧ Ext ρ h w ρ (h.put i b') (setBlk w L.b o') := by
  have hlt : L.b < w.heap.size := R.low _ _ hL
  have hdom : ∀ j c, (h.put i b').get j = some c → ∃ c', h.get j = some c' := by
    intro j c hj
    rw [Heap.get_put] at hj
    split at hj
    · rename_i e; subst e; exact ⟨b, hb⟩
    · exact ⟨c, hj⟩
  have keep : ∀ k, k < w.heap.size → ¬LiveB ρ h k → (setBlk w L.b o').heap[k]? = w.heap[k]? ∧ ¬LiveB ρ (h.put i b') k := by
    intro k hk hl
    have hne : k ≠ L.b := fun e => hl ⟨i, b, L, hb, hL, e.symm⟩
    refine ⟨by rw [getElem?_setBlk hlt, if_neg hne], ?_⟩
    rintro ⟨j, c, M, hj, hM, e⟩
    obtain ⟨c', hj'⟩ := hdom j c hj
    exact hl ⟨j, c', M, hj', hM, e⟩
  refine ⟨⟨?_, ?_, ?_, ?_, R.glob_keep rfl keep⟩, ⟨ρ.sub_refl, Nat.le_refl _, by simp [setBlk], keep, rfl, rfl, rfl, fun _ _ => rfl, rfl⟩⟩
  · intro j c hj
    rw [Heap.get_put] at hj
    split at hj
    · rename_i e; subst e
      cases hj
      exact ⟨L, o', hL, by rw [getElem?_setBlk hlt, if_pos rfl], hn⟩
    · rename_i e
      obtain ⟨M, o, h1, h2, h3⟩ := R.live j c hj
      refine ⟨M, o, h1, ?_, h3⟩
      rw [getElem?_setBlk hlt, if_neg (fun e' => e (R.inj j i c b M L hj hb h1 hL e'))]
      exact h2
  · intro j k c d M N hj hk
    obtain ⟨c', hj'⟩ := hdom j c hj
    obtain ⟨d', hk'⟩ := hdom k d hk
    exact R.inj j k c' d' M N hj' hk'
  · intro j M hj; exact R.dom j M hj
  · intro j M hj; simpa [setBlk] using R.low j M hj

/-- A new block of the world, under a number that is free. -/
theorem Rel.new {ρ : Ren} {h : Heap} {w w' : World} (R : Rel ρ h w.heap) {i : Nat} {b : Blk} {o : Obj} (L : Loc) (hi : ρ i = none) (hin : h.next ≤ i) (hL : L.b = w.heap.size)
    (hw : w'.heap = w.heap.push o) (ho : w'.os = w.os) (ht : w'.tape = w.tape) (hp : w'.output = w.output)
    (hn : BlkRel (ρ.upd i L) L b o) {h' : Heap} (hg : ∀ j, h'.get j = if j = i then some b else h.get j) (hnx : h.next ≤ h'.next) (hni : i < h'.next) (hgl : h'.glob = h.glob) :
    Rel (ρ.upd i L) h' w'.heap ∧ Ext ρ h w (ρ.upd i L) h' w' := by
  have hs := Ren.sub_upd hi L
  have hnone : h.get i = none := by
    cases hgi : h.get i with
    | none => rfl
    | some c => obtain ⟨M, _, h1, _⟩ := R.live i c hgi; rw [hi] at h1; cases h1
  have keep : ∀ k, k < w.heap.size → ¬LiveB ρ h k → w'.heap[k]? = w.heap[k]? ∧ ¬LiveB (ρ.upd i L) h' k := by
    intro k hk hl
    refine ⟨by rw [hw, Array.getElem?_push_lt hk, ← Array.getElem?_eq_getElem hk], ?_⟩
    rintro ⟨j, c, M, hj, hM, e⟩
    rw [hg] at hj
    unfold Ren.upd at hM
    split at hj
    · rename_i ej
      rw [if_pos ej] at hM
      cases hM
      omega
    · rename_i ej
      rw [if_neg ej] at hM
      exact hl ⟨j, c, M, hj, hM, e⟩
  refine ⟨⟨?_, ?_, ?_, ?_, R.glob_keep hgl keep⟩, ⟨hs, hnx, by rw [hw]; simp, keep, ho, ht, hp, fun j hj => if_neg (by omega), hgl⟩⟩
  · intro j c hj
    rw [hg] at hj
    split at hj
    · rename_i e; subst e; cases hj
      exact ⟨L, o, Ren.upd_same _ _ _, by rw [hw, hL]; simp, hn⟩
    · obtain ⟨M, o', h1, h2, h3⟩ := R.live j c hj
      refine ⟨M, o', hs _ _ h1, ?_, h3.mono hs⟩
      rw [hw, Array.getElem?_push_lt (R.low _ _ h1), ← Array.getElem?_eq_getElem (R.low _ _ h1)]
      exact h2
  · intro j k c d M N hj hk hM hN e
    rw [hg] at hj hk
    unfold Ren.upd at hM hN
    by_cases ej : j = i
    · by_cases ek : k = i
      · rw [ej, ek]
      · rw [if_pos ej] at hM
        rw [if_neg ek] at hN
        cases hM
        have := R.low _ _ hN
        omega
    · rw [if_neg ej] at hj hM
      by_cases ek : k = i
      · rw [if_pos ek] at hN
        cases hN
        have := R.low _ _ hM
        omega
      · rw [if_neg ek] at hk hN
        exact R.inj j k c d M N hj hk hM hN e
  · intro j M hj
    unfold Ren.upd at hj
    split at hj
    · rename_i e; rw [e]; exact hni
    · exact Nat.lt_of_lt_of_le (R.dom j M hj) hnx
  · intro j M hj
    unfold Ren.upd at hj
    rw [hw]
    simp only [Array.size_push]
    split at hj
    · cases hj; omega
    · have := R.low j M hj; omega

theorem Rel.fresh {ρ : Ren} {h : Heap} {H : Array Obj} (R : Rel ρ h H) : ρ h.next = none := by
  cases e : ρ h.next with
  | none => rfl
  | some L => exact absurd (R.dom _ _ e) (Nat.lt_irrefl _)

theorem Rel.add {ρ : Ren} {h : Heap} {w w' : World} (R : Rel ρ h w.heap) {b : Blk} {o : Obj} (L : Loc) (hL : L.b = w.heap.size)
    (hw : w'.heap = w.heap.push o) (ho : w'.os = w.os) (ht : w'.tape = w.tape) (hp : w'.output = w.output) (hn : BlkRel (ρ.upd h.next L) L b o) :
    Rel (ρ.upd h.next L) (h.add b) w'.heap ∧ Ext ρ h w (ρ.upd h.next L) (h.add b) w' :=
  R.new L R.fresh (Nat.le_refl _) hL hw ho ht hp hn (fun j => Heap.get_add h b j) (Nat.le_succ _) (Nat.lt_succ_self _) rfl

/-- A number dies. -/
theorem Rel.drop {ρ : Ren} {h : Heap} {H : Array Obj} (R : Rel ρ h H) (i : Nat) : Rel ρ (h.drop i) H := by
  have hd : ∀ j c, (h.drop i).get j = some c → h.get j = some c := by
    intro j c hj
    rw [Heap.get_drop] at hj
    split at hj
    · cases hj
    · exact hj
  exact ⟨fun j c hj => R.live j c (hd j c hj), fun j k c d L M hj hk => R.inj j k c d L M (hd _ _ hj) (hd _ _ hk), R.dom, R.low,
    R.glob_keep (h' := h.drop i) rfl fun b _ hl => ⟨rfl, fun ⟨j, c, L, a, d, e⟩ => hl ⟨j, c, L, hd j c a, d, e⟩⟩⟩

/-! reads and writes -/

theorem Addr.add_plain (b off i : Nat) : (Addr.mk b off none).add i = ⟨b, off + i, none⟩ := by
  unfold Addr.add
  split
  · rename_i h; subst h; rfl
  · rfl

theorem cell?_mk {w : World} {b k : Nat} {arr : Array Value} {e : TypeId} {fr : Nat × Nat} (h : w.heap[b]? = some (.cells arr e fr)) :
    w.cell? ⟨b, k, none⟩ = arr[k]? := by
  simp [World.cell?, h]

theorem run_loadCellsFrom {P : Program} {w : World} {a : Addr} : ∀ (l : List Value) (i : Nat) (acc : Array Value), (∀ (k : Nat) (v : Value), l[k]? = some v → w.cell? (a.add (i + k)) = some v) →
    (loadCellsFrom a i l.length acc).run P w = .ok (acc ++ l.toArray) w
  | [], i, acc, _ => by simp [loadCellsFrom]
  | v :: l, i, acc, h => by
    have h0 := h 0 v rfl
    rw [Nat.add_zero] at h0
    simp only [List.length_cons, loadCellsFrom, Sem.run_bind, run_load, h0, Result.andThen_ok]
    rw [run_loadCellsFrom l (i + 1) _ (fun k u hu => by have := h (k + 1) u (by simpa using hu); rw [Nat.add_assoc, Nat.add_comm 1 k]; exact this)]
    congr 1
    apply Array.ext'
    simp

theorem run_loadCells {P : Program} {w : World} {a : Addr} {n : Nat} (l : List Value) (hl : l.length = n) (h : ∀ (k : Nat) (v : Value), l[k]? = some v → w.cell? (a.add k) = some v) :
    (loadCells a n).run P w = .ok ⟨l⟩ w := by
  unfold loadCells
  rw [← hl, run_loadCellsFrom l 0 #[] (fun k v hv => by rw [Nat.zero_add]; exact h k v hv)]
  simp

/-- A row of cells with some written. -/
def wr : Array Value → Nat → List Value → Array Value
  | arr, _, [] => arr
  | arr, o, v :: vs => wr (arr.setIfInBounds o v) (o + 1) vs

theorem wr_size : ∀ (vs : List Value) (arr : Array Value) (o : Nat), (wr arr o vs).size = arr.size
  | [], _, _ => rfl
  | v :: vs, arr, o => by rw [wr, wr_size]; simp

theorem wr_get : ∀ (vs : List Value) (arr : Array Value) (o : Nat), o + vs.length ≤ arr.size → ∀ k, (wr arr o vs)[k]? = if o ≤ k ∧ k < o + vs.length then vs[k - o]? else arr[k]?
  | [], arr, o, _, k => by rw [wr, if_neg (by simp only [List.length_nil]; omega)]
  | v :: vs, arr, o, h, k => by
    simp only [List.length_cons] at h ⊢
    rw [wr, wr_get vs _ _ (by simp; omega)]
    by_cases h1 : k = o
    · subst h1
      rw [if_neg (by omega), if_pos (by omega), Nat.sub_self]
      simp [show k < arr.size by omega]
    · by_cases h2 : o + 1 ≤ k ∧ k < o + 1 + vs.length
      · rw [if_pos h2, if_pos (by omega)]
        have : k - o = (k - (o + 1)) + 1 := by omega
        rw [this, List.getElem?_cons_succ]
      · rw [if_neg h2, if_neg (by omega)]
        exact Array.getElem?_setIfInBounds_ne (Ne.symm h1)

theorem setCell_eq {w : World} {b k : Nat} {arr : Array Value} {e : TypeId} {fr : Nat × Nat} (h : w.heap[b]? = some (.cells arr e fr)) (v : Value) :
    w.setCell ⟨b, k, none⟩ v = setBlk w b (.cells (arr.setIfInBounds k v) e fr) := by
  unfold World.setCell setBlk
  congr 1
  apply Array.ext_getElem?
  intro j
  have hlt : b < w.heap.size := (Array.getElem?_eq_some_iff.1 h).1
  by_cases e' : j = b
  · subst e'
    rw [Array.getElem?_modify, if_pos rfl, h]
    simp [hlt]
  · rw [Array.getElem?_modify, if_neg (Ne.symm e'), Array.getElem?_setIfInBounds_ne (Ne.symm e')]

theorem setBlk_setBlk (w : World) (b : Nat) (o o' : Obj) : setBlk (setBlk w b o) b o' = setBlk w b o' := by
  unfold setBlk
  simp

theorem run_storeCells {P : Program} {b off : Nat} {e : TypeId} {lo hi : Nat} : ∀ (vs : List Value) (i : Nat) (w : World) (arr : Array Value), w.heap[b]? = some (.cells arr e (lo, hi)) →
    off + i + vs.length ≤ arr.size → (lo = hi ∨ arr.size ≤ lo) → vs.all flatCell = true → vs ≠ [] →
    (storeCells ⟨b, off, none⟩ vs i).run P w = .ok () (setBlk w b (.cells (wr arr (off + i) vs) e (lo, hi)))
  | [], _, _, _, _, _, _, _, hne => absurd rfl hne
  | v :: vs, i, w, arr, hb, hsz, hf, hall, _ => by
    simp only [List.length_cons] at hsz
    simp only [List.all_cons, Bool.and_eq_true] at hall
    have hc : w.cell? ⟨b, off + i, none⟩ = some (arr[off + i]'(by omega)) := by rw [cell?_mk hb]; exact Array.getElem?_eq_getElem _
    have hfr : w.frozen? ⟨b, off + i, none⟩ = false := by
      have hnot : ¬(lo ≤ off + i ∧ off + i < hi) := by rcases hf with h | h <;> omega
      simp only [World.frozen?, hb]
      rw [← Bool.not_eq_true, Bool.and_eq_true, decide_eq_true_eq, decide_eq_true_eq]
      exact hnot
    have hv : v.oneCell' = true := by
      have := hall.1
      cases v <;> simp_all [flatCell, Value.oneCell']
    simp only [storeCells, Addr.add_plain, Sem.run_bind, run_store P w _ v .plain hv, hc, hfr]
    simp only [Bool.false_eq_true, if_false, Result.andThen_ok]
    rw [setCell_eq hb]
    cases vs with
    | nil => simp [storeCells, wr]
    | cons u us =>
      have hlt : b < w.heap.size := (Array.getElem?_eq_some_iff.1 hb).1
      rw [run_storeCells (u :: us) (i + 1) _ (arr.setIfInBounds (off + i) v) (by rw [getElem?_setBlk hlt, if_pos rfl]) (by simp at hsz ⊢; omega) (by simpa using hf) hall.2 (by simp), setBlk_setBlk]
      rfl

end Go.G

/- G against the model: the environment, operands, equality, and what is computed from values alone. -/
namespace Go.G

structure TiOk (P : Program) (t : Nat) (i : TI) : Prop where
  info : ∃ f : TypeInfo, P.info? t = some f ∧ i.size = f.size ∧ i.bytes = f.bytes ∧ i.zero = zeroOf i.agg f.zero
  desc : ∃ d : TypeDesc, P.underlying t = some d ∧ i.td = tdOf d ∧ i.agg = (tdOf d).isAgg ∧
    (i.plain = true → namesOk d = true ∧ P.eqGuardType P.depth t = false ∧ P.stoodInHeld t = false)

structure EnvOk (P : Program) (env : Env) : Prop where
  ti : ∀ (t : Nat) (i : TI), env.tt.get t = some i → TiOk P t i
  fn : ∀ (f : Nat) (fn : Func), env.ft.get f = some fn → P.funcs[f]? = some fn ∧ (fn.name == "runtime.NumGoroutine") = false ∧ fn.body.isNone = false

theorem envOk (P : Program) (prim : Nat → Option Prim) : EnvOk P (envOf P prim) := by
  constructor
  · intro t i h
    simp only [envOf] at h
    rw [Tree.get_ofList, Tree.get_leaf] at h
    split at h
    case isFalse => cases h
    rename_i hlt
    simp only [List.length_mapIdx, Array.length_toList, Nat.zero_add, Nat.sub_zero] at hlt h
    rw [List.getElem?_mapIdx] at h
    have hl : t < P.types.size := hlt.2
    have he : P.types.toList[t]? = some P.types[t] := by simp [hl]
    rw [he] at h
    simp only [Option.map_some, Option.getD_some] at h
    unfold tiOf at h
    cases hu : P.underlying t with
    | none => rw [hu] at h; cases h
    | some d =>
      rw [hu] at h
      simp only [Option.some.injEq] at h
      subst h
      refine ⟨⟨P.types[t], ?_, rfl, rfl, rfl⟩, ⟨d, hu, rfl, rfl, ?_⟩⟩
      · unfold Tables.info?
        rw [if_pos hl]
        exact Array.getElem?_eq_getElem hl
      · intro hp
        simp only [Bool.and_eq_true, Bool.not_eq_true'] at hp
        exact ⟨hp.1.1, hp.1.2, hp.2⟩
  · intro f fn h
    simp only [envOf] at h
    rw [Tree.get_ofList, Tree.get_leaf] at h
    split at h
    case isFalse => cases h
    rename_i hlt
    simp only [List.length_map, Array.length_toList, Nat.zero_add, Nat.sub_zero] at hlt h
    have hl : f < P.funcs.size := hlt.2
    rw [List.getElem?_map, show P.funcs.toList[f]? = some P.funcs[f] from by simp [hl]] at h
    simp only [Option.map_some, Option.getD_some, fnOf] at h
    cases hc : (P.funcs[f].body.isSome && P.funcs[f].name != "runtime.NumGoroutine") with
    | false => rw [hc] at h; cases h
    | true =>
      rw [hc] at h
      simp only [cond_true, Option.some.injEq] at h
      subst h
      simp only [Bool.and_eq_true, bne_iff_ne, ne_eq] at hc
      refine ⟨Array.getElem?_eq_getElem hl, by simpa using hc.2, by simpa using hc.1⟩

section
variable {P : Program} {env : Env}

theorem Env.ti_ok (E : EnvOk P env) {t : Nat} {i : TI} (h : env.ti t = .ok i) : TiOk P t i := E.ti t i (R.of_ok h)

theorem Env.td_ok (E : EnvOk P env) {t : Nat} {d : TD} (h : env.td t = .ok d) : ∃ e, P.underlying t = some e ∧ d = tdOf e := by
  obtain ⟨i, hi, he⟩ := R.b_ok h
  cases he
  obtain ⟨e, h1, h2, _⟩ := (Env.ti_ok E hi).desc
  exact ⟨e, h1, h2⟩

theorem run_typeInfo {t : Nat} {f : TypeInfo} (h : P.info? t = some f) (w : World) : (typeInfo t).run P w = .ok f w := by
  simp [typeInfo, h]

theorem run_und {t : Nat} {d : TypeDesc} (h : P.underlying t = some d) (w : World) : (underlying t).run P w = .ok d w := by
  simp [underlying, h]

theorem TiOk.run_size {t : Nat} {i : TI} (h : TiOk P t i) (w : World) : (sizeOf t).run P w = .ok i.size w := by
  obtain ⟨f, h1, h2, _⟩ := h.info
  simp [sizeOf, run_typeInfo h1, h2]

theorem TiOk.run_isAgg {t : Nat} {i : TI} (h : TiOk P t i) (w : World) : (isAgg t).run P w = .ok i.agg w := by
  obtain ⟨d, h1, _, h3, _⟩ := h.desc
  unfold isAgg
  rw [Sem.run_bind, run_und h1, Result.andThen_ok, h3]
  cases d <;> rfl

theorem litOk_list {l : List Value} (h : l.all litOk = true) {v : Value} (hv : v ∈ l) : litOk v = true := by
  rw [List.all_eq_true] at h
  exact h v hv

theorem zeroOf_some {a : Bool} {z : Option Value} {cs : List Value} (h : zeroOf a z = some cs) : cs.all litOk = true ∧ ((a = true ∧ z = some (.agg ⟨cs⟩)) ∨ (a = false ∧ ∃ v, cs = [v] ∧ z = some v ∧ litOk v = true)) := by
  unfold zeroOf at h
  split at h
  · rename_i x
    cases hc : (a && x.toList.all litOk) with
    | false => rw [hc] at h; cases h
    | true =>
      rw [hc] at h
      simp only [cond_true, Option.some.injEq] at h
      subst h
      rw [Bool.and_eq_true] at hc
      exact ⟨hc.2, .inl ⟨hc.1, by cases x; rfl⟩⟩
  · rename_i v hne
    cases hc : (!a && litOk v) with
    | false => rw [hc] at h; cases h
    | true =>
      rw [hc] at h
      simp only [cond_true, Option.some.injEq] at h
      subst h
      simp only [Bool.and_eq_true, Bool.not_eq_true'] at hc
      exact ⟨by simp [hc.2], .inr ⟨hc.1, v, rfl, rfl, hc.2⟩⟩
  · cases h

/-- The zero value, its cells. -/
theorem TiOk.run_zero {t : Nat} {i : TI} (h : TiOk P t i) {cs : List Value} (hz : i.zero = some cs) (w : World) :
    ∃ v : Value, (zeroValue t).run P w = .ok v w ∧ v.cells = ⟨cs⟩ ∧ cs.all litOk = true ∧ (i.agg = true → v = .agg ⟨cs⟩) ∧ (i.agg = false → cs = [v] ∧ litOk v = true) := by
  obtain ⟨f, h1, _, _, h4⟩ := h.info
  rw [hz] at h4
  obtain ⟨ha, hb⟩ := zeroOf_some h4.symm
  rcases hb with ⟨e, hv⟩ | ⟨e, v, rfl, hv, hl⟩
  · exact ⟨.agg ⟨cs⟩, by simp [zeroValue, run_typeInfo h1, hv], rfl, ha, (fun _ => rfl), (fun e' => by rw [e] at e'; cases e')⟩
  · exact ⟨v, by simp [zeroValue, run_typeInfo h1, hv], (by cases v <;> first | rfl | simp [litOk] at hl), ha, (fun e' => by rw [e] at e'; cases e'), (fun _ => ⟨rfl, hl⟩)⟩

theorem readN_ok : ∀ {n : Nat} {l r : List Value}, readN n l = .ok r → r = l.take n ∧ r.length = n
  | 0, l, r, h => by cases h; simp
  | n + 1, [], r, h => nomatch h
  | n + 1, v :: vs, r, h => by
    obtain ⟨l, hl, he⟩ := R.b_ok h
    cases he
    obtain ⟨h1, h2⟩ := readN_ok hl
    subst h1
    exact ⟨rfl, by simpa using h2⟩

theorem partV_ok (E : EnvOk P env) {t off : Nat} {cs cs' : List Value} {v : Value} {ρ : Ren} (h : partV env t cs off = .ok v) (hr : LRel ρ cs cs') :
    ∃ v', VRel ρ v v' ∧ ∀ w, (part t ⟨cs'⟩ off).run P w = .ok v' w := by
  obtain ⟨i, hi, h⟩ := R.b_ok h
  have T := Env.ti_ok E hi
  rcases cond_ok h with ⟨ha, h⟩ | ⟨ha, h⟩
  · obtain ⟨l, hl, he⟩ := R.b_ok h
    cases he
    obtain ⟨h1, h2⟩ := readN_ok hl
    subst h1
    refine ⟨.agg ⟨(cs'.drop off).take i.size⟩, .agg_of ((hr.drop off).take _), fun w => ?_⟩
    simp only [part, Sem.run_bind, T.run_isAgg, Result.andThen_ok, ha, if_true, T.run_size, Sem.run_pure]
    congr 2
    apply Array.ext'
    simp [List.extract_eq_take_drop]
  · cases hd : cs.drop off with
    | nil => rw [hd] at h; exact (nomatch h)
    | cons u l =>
      rw [hd] at h
      simp only [R.ok.injEq] at h
      subst h
      have hu : cs[off]? = some u := by
        have : (cs.drop off)[0]? = some u := by rw [hd]; rfl
        rw [List.getElem?_drop] at this
        simpa using this
      obtain ⟨v', h1, h2⟩ := hr.get hu
      refine ⟨v', h2, fun w => ?_⟩
      simp [part, T.run_isAgg, ha, h1]

/-! equality -/

/-- What `eq` says is what the model's equality of that depth says. -/
def EqOk (P : Program) (eq : Nat → Value → Value → R Bool) (d : Nat) : Prop :=
  ∀ (t : Nat) (x y : Value) (r : Bool), eq t x y = .ok r → ∀ (ρ : Ren) (x' y' : Value), VRel ρ x x' → VRel ρ y y' → ∀ w, (Op.equalIn d t x' y').run P w = .ok r w

theorem eqFields_ok (E : EnvOk P env) {eq : Nat → Value → Value → R Bool} {d : Nat} (he : EqOk P eq d) {xs ys xs' ys' : List Value} {ρ : Ren} (hx : LRel ρ xs xs') (hy : LRel ρ ys ys') (w : World) :
    ∀ (fs : List Field) (r : Bool), fs.all (fun f => f.name != "_") = true → eqFields env eq xs ys (fs.map fun f => (f.type, f.offset)) = .ok r →
      Sem.run P (do
        for f in fs do
          if f.name ≠ "_" then
            if !(← Op.equalIn d f.type (← part f.type ⟨xs'⟩ f.offset) (← part f.type ⟨ys'⟩ f.offset)) then return false
        pure true) w = .ok r w
  | [], r, _, h => by cases h; simp
  | f :: fs, r, hn, h => by
    simp only [List.all_cons, Bool.and_eq_true, bne_iff_ne, ne_eq] at hn
    simp only [List.map_cons, eqFields] at h
    obtain ⟨a, ha, h⟩ := R.b_ok h
    obtain ⟨b, hb, h⟩ := R.b_ok h
    obtain ⟨q, hq, h⟩ := R.b_ok h
    obtain ⟨a', ra, pa⟩ := partV_ok E ha hx
    obtain ⟨b', rb, pb⟩ := partV_ok E hb hy
    have hrun := he _ _ _ _ hq ρ a' b' ra rb w
    rcases cond_ok h with ⟨e, h⟩ | ⟨e, h⟩
    · subst e
      have ih := eqFields_ok E he hx hy w fs r hn.2 h
      simp only [List.forIn_cons, hn.1, ne_eq, not_false_eq_true, if_true, bind_assoc, Sem.run_bind, pa, pb, hrun, Result.andThen_ok] at ih ⊢
      simpa using ih
    · subst e
      cases h
      simp [hn.1, pa, pb, hrun]

end
end Go.G

/- G against the model: equality, the binary and unary operators. -/
namespace Go.G

section
variable {P : Program} {env : Env}

theorem eqElems_ok (E : EnvOk P env) {eq : Nat → Value → Value → R Bool} {d : Nat} (he : EqOk P eq d) {e size : Nat} {xs ys xs' ys' : List Value} {ρ : Ren} (hx : LRel ρ xs xs') (hy : LRel ρ ys ys') (w : World) :
    ∀ (n k : Nat) (r : Bool), eqElems env eq e size xs ys n (k * size) = .ok r →
      Sem.run P (do
        for i in List.range' k n do
          if !(← Op.equalIn d e (← part e ⟨xs'⟩ (i * size)) (← part e ⟨ys'⟩ (i * size))) then return false
        pure true) w = .ok r w
  | 0, k, r, h => by cases h; simp
  | n + 1, k, r, h => by
    simp only [eqElems] at h
    obtain ⟨a, ha, h⟩ := R.b_ok h
    obtain ⟨b, hb, h⟩ := R.b_ok h
    obtain ⟨q, hq, h⟩ := R.b_ok h
    obtain ⟨a', ra, pa⟩ := partV_ok E ha hx
    obtain ⟨b', rb, pb⟩ := partV_ok E hb hy
    have hrun := he _ _ _ _ hq ρ a' b' ra rb w
    rcases cond_ok h with ⟨e', h⟩ | ⟨e', h⟩
    · subst e'
      rw [show k * size + size = (k + 1) * size from by rw [Nat.add_mul, Nat.one_mul]] at h
      have ih := eqElems_ok E he hx hy w n (k + 1) r h
      simp only [List.range'_succ, List.forIn_cons, bind_assoc, Sem.run_bind, pa, pb, hrun, Result.andThen_ok] at ih ⊢
      simpa using ih
    · subst e'
      cases h
      simp [List.range'_succ, pa, pb, hrun]

theorem toList_inj {a b : ByteArray} : (a.data.toList == b.data.toList) = (a == b) := by
  show _ = (a.data == b.data)
  cases a with | mk a => cases b with | mk b => cases a; cases b; simp

theorem tdOf_bool {d : TypeDesc} (h : tdOf d = .bool) : d = .bool := by cases d <;> simp only [tdOf] at h <;> first | rfl | (cases h; done)
theorem tdOf_int {d : TypeDesc} {k : IntKind} (h : tdOf d = .int k) : d = .int k := by cases d <;> simp only [tdOf] at h <;> first | (cases h; rfl) | (cases h; done)
theorem tdOf_string {d : TypeDesc} (h : tdOf d = .string) : d = .string := by cases d <;> simp only [tdOf] at h <;> first | rfl | (cases h; done)
theorem tdOf_pointer {d : TypeDesc} {e : Nat} (h : tdOf d = .pointer e) : d = .pointer e := by cases d <;> simp only [tdOf] at h <;> first | (cases h; rfl) | (cases h; done)
theorem tdOf_slice {d : TypeDesc} {e : Nat} (h : tdOf d = .slice e) : d = .slice e := by cases d <;> simp only [tdOf] at h <;> first | (cases h; rfl) | (cases h; done)
theorem tdOf_array {d : TypeDesc} {n e : Nat} (h : tdOf d = .array n e) : d = .array n e := by cases d <;> simp only [tdOf] at h <;> first | (cases h; rfl) | (cases h; done)
theorem tdOf_map {d : TypeDesc} {k e : Nat} (h : tdOf d = .map k e) : d = .map k e := by cases d <;> simp only [tdOf] at h <;> first | (cases h; rfl) | (cases h; done)
theorem tdOf_func {d : TypeDesc} (h : tdOf d = .func) : ∃ a b c, d = .func a b c := by cases d <;> simp only [tdOf] at h <;> first | exact ⟨_, _, _, rfl⟩ | (cases h; done)
theorem tdOf_struct {d : TypeDesc} {fs : List (Nat × Nat)} (h : tdOf d = .struct fs) : ∃ Fs : Array Field, d = .struct Fs ∧ fs = Fs.toList.map fun f => (f.type, f.offset) := by
  cases d <;> simp only [tdOf] at h <;> first | (cases h; exact ⟨_, rfl, rfl⟩) | (cases h; done)

theorem eqStep_ok (E : EnvOk P env) {eq : Nat → Value → Value → R Bool} {d : Nat} (he : EqOk P eq d) : EqOk P (eqStep env eq) (d + 1) := by
  intro t x y r h ρ x' y' hx hy w
  simp only [eqStep] at h
  obtain ⟨i, hi, k⟩ := R.b_ok h
  clear h
  have h := k
  clear k
  have T := Env.ti_ok E hi
  obtain ⟨D, h1, h2, h3, h4⟩ := T.desc
  unfold Op.equalIn
  rw [Sem.run_bind, run_und h1, Result.andThen_ok]
  split at h
  · rename_i e; rw [e] at h2; cases tdOf_bool h2.symm
    cases hx; cases hy; cases h; rfl
  · rename_i e; rw [e] at h2; cases tdOf_int h2.symm
    cases hx; cases hy
    rcases cond_ok h with ⟨e, h⟩ | ⟨e, h⟩
    · cases h
      rw [decide_eq_true_eq] at e
      simp [e]
    · cases h
  · rename_i e; rw [e] at h2; cases tdOf_string h2.symm
    cases hx; cases hy; cases h
    simp only [bytesEq, toList_inj, Sem.run_pure]
  · rename_i e; rw [e] at h2; cases tdOf_pointer h2.symm
    cases hx; cases h; cases hy <;> rfl
  · rename_i e; rw [e] at h2; cases tdOf_pointer h2.symm
    cases hx; cases h; cases hy; rfl
  · rename_i e; rw [e] at h2; cases tdOf_slice h2.symm
    cases hx; cases h; cases hy <;> rfl
  · rename_i e; rw [e] at h2; cases tdOf_slice h2.symm
    cases hy; cases h; cases hx <;> rfl
  · rename_i e; rw [e] at h2; cases tdOf_map h2.symm
    cases hx; cases h; cases hy <;> rfl
  · rename_i e; rw [e] at h2; cases tdOf_map h2.symm
    cases hy; cases h; cases hx; rfl
  · rename_i e; rw [e] at h2; obtain ⟨_, _, _, rfl⟩ := tdOf_func h2.symm
    cases hx; cases hy; cases h; rfl
  · rename_i e; rw [e] at h2; obtain ⟨_, _, _, rfl⟩ := tdOf_func h2.symm
    cases hx; cases hy; cases h; rfl
  · rename_i e; rw [e] at h2; obtain ⟨_, _, _, rfl⟩ := tdOf_func h2.symm
    cases hx; cases hy; cases h; rfl
  · rename_i fs xs ys e; rw [e] at h2; obtain ⟨Fs, rfl, rfl⟩ := tdOf_struct h2.symm
    obtain ⟨u, hm, h⟩ := R.b_ok h
    have hp := h4 (R.must_ok hm)
    cases xs with | mk xs => cases ys with | mk ys =>
    obtain ⟨xs', rfl, rx⟩ := hx.agg_inv
    obtain ⟨ys', rfl, ry⟩ := hy.agg_inv
    simp only [Sem.run_bind, run_program, Result.andThen_ok, hp.2.2, Bool.false_eq_true, if_false]
    have hf := eqFields_ok E he rx ry w Fs.toList r (by simpa [namesOk] using hp.1) h
    simpa using hf
  · rename_i n el xs ys e; rw [e] at h2; cases tdOf_array h2.symm
    obtain ⟨u, hm, h⟩ := R.b_ok h
    obtain ⟨j, hj, h⟩ := R.b_ok h
    have J := Env.ti_ok E hj
    cases xs with | mk xs => cases ys with | mk ys =>
    obtain ⟨xs', rfl, rx⟩ := hx.agg_inv
    obtain ⟨ys', rfl, ry⟩ := hy.agg_inv
    have hf := eqElems_ok E he (e := el) (size := j.size) rx ry w n 0 r (by rw [Nat.zero_mul]; exact h)
    simp only [Sem.run_bind, J.run_size, Result.andThen_ok]
    simpa [Std.Legacy.Range.forIn_eq_forIn_range', Std.Legacy.Range.size] using hf
  · cases h

theorem gEq_ok (E : EnvOk P env) : ∀ (n m : Nat), n ≤ m → EqOk P (gEq env n) m
  | 0, _, _ => fun _ _ _ _ h => nomatch h
  | n + 1, 0, h => absurd h (by omega)
  | n + 1, m + 1, h => eqStep_ok E (gEq_ok E n m (by omega))

theorem equal_ok (E : EnvOk P env) {t : Nat} {x y x' y' : Value} {r : Bool} {ρ : Ren} (h : gEq env 20 t x y = .ok r) (hx : VRel ρ x x') (hy : VRel ρ y y') (w : World) :
    (Op.equal t x' y').run P w = .ok r w := gEq_ok E 20 Op.maxDepth (by decide) t x y r h ρ x' y' hx hy w

theorem kmax_lt (k : IntKind) : kmax k < 2 ^ k.bits := by cases k <;> decide

theorem wrap_in (k : IntKind) (x : Int) (h1 : x ≤ kmax k) (h2 : 0 ≤ x ∨ (k.signed = true ∧ -(kmax k : Int) - 1 ≤ x)) : k.wrap x = x := by
  cases k <;> simp only [kmax, IntKind.signed, IntKind.wrap, IntKind.bits] at * <;> simp at * <;> (try split) <;> omega

theorem gWrap_eq (k : IntKind) (x : Int) : gWrap k x = k.wrap x := by
  unfold gWrap
  split
  · rename_i n
    cases h : Nat.ble n (kmax k) with
    | false => rfl
    | true =>
      have := Nat.le_of_ble_eq_true h
      exact (wrap_in k (.ofNat n) (Int.ofNat_le.2 this) (.inl (Int.natCast_nonneg n))).symm
  · rename_i n
    cases h : k.signed && Nat.ble n (kmax k) with
    | false => rfl
    | true =>
      simp only [Bool.and_eq_true] at h
      have := Nat.le_of_ble_eq_true h.2
      exact (wrap_in k (.negSucc n) (by omega) (.inr ⟨h.1, by omega⟩)).symm

theorem gAdd_eq (x y : Int) : gAdd x y = x + y := by unfold gAdd; split <;> rfl
theorem gMul_eq (x y : Int) : gMul x y = x * y := by unfold gMul; split <;> rfl
theorem gSub_eq (x y : Int) : gSub x y = x - y := by
  unfold gSub
  split
  · rename_i a b
    cases h : Nat.ble b a with
    | false => rfl
    | true => exact Int.ofNat_sub (Nat.le_of_ble_eq_true h)
  · rfl

theorem gIntEq_eq (x y : Int) : gIntEq x y = (x == y) := by
  rw [Bool.eq_iff_iff, beq_iff_eq]
  unfold gIntEq
  split
  · rw [Nat.beq_eq]; exact Int.ofNat_inj.symm
  · rw [Nat.beq_eq]; exact Int.negSucc_inj.symm
  · rename_i h1 h2
    refine ⟨fun h => (by cases h), fun h => ?_⟩
    subst h
    cases x with
    | ofNat a => exact (h1 a a rfl rfl).elim
    | negSucc a => exact (h2 a a rfl rfl).elim

theorem gIntLe_eq (x y : Int) : gIntLe x y = decide (x ≤ y) := by
  rw [Bool.eq_iff_iff, decide_eq_true_eq]
  unfold gIntLe
  split
  · rw [Nat.ble_eq]; exact Int.ofNat_le.symm
  · exact ⟨fun _ => Int.le_of_lt (Int.lt_of_lt_of_le (Int.negSucc_lt_zero _) (Int.natCast_nonneg _)), fun _ => rfl⟩
  · exact ⟨fun h => (by cases h), fun h => absurd h (Int.not_le.2 (Int.lt_of_lt_of_le (Int.negSucc_lt_zero _) (Int.natCast_nonneg _)))⟩
  · rw [Nat.ble_eq]; omega

theorem gBits_eq (k : IntKind) {f : Nat → Nat → Nat} {g : BitVec k.bits → BitVec k.bits → BitVec k.bits} (hg : ∀ u v, (g u v).toNat = f u.toNat v.toNat)
    (hf : ∀ a b n : Nat, a < 2 ^ n → b < 2 ^ n → f a b < 2 ^ n) (x y : Int) : gBits k f g x y = k.wrap ((g (BitVec.ofInt k.bits x) (BitVec.ofInt k.bits y)).toNat : Nat) := by
  unfold gBits
  split
  · rename_i a b
    cases h : Nat.ble a (kmax k) && Nat.ble b (kmax k) with
    | false => rfl
    | true =>
      simp only [Bool.and_eq_true, Nat.ble_eq] at h
      have e : ∀ n : Nat, n ≤ kmax k → (BitVec.ofInt k.bits (.ofNat n)).toNat = n := by
        intro n hn
        have := kmax_lt k
        rw [show (Int.ofNat n) = ((n : Nat) : Int) from rfl, BitVec.ofInt_natCast, BitVec.toNat_ofNat]
        exact Nat.mod_eq_of_lt (by omega)
      rw [hg, e a h.1, e b h.2]
      have hk : ∃ n, kmax k + 1 = 2 ^ n := by cases k <;> first | exact ⟨7, rfl⟩ | exact ⟨8, rfl⟩ | exact ⟨15, rfl⟩ | exact ⟨16, rfl⟩ | exact ⟨31, rfl⟩ | exact ⟨32, rfl⟩ | exact ⟨63, rfl⟩ | exact ⟨64, rfl⟩
      obtain ⟨n, hn⟩ := hk
      have := hf a b n (by omega) (by omega)
      exact (wrap_in k _ (by omega) (.inl (Int.natCast_nonneg _))).symm
  · rfl

theorem intBin_eq (op : BinOp) (k : IntKind) (x y : Int) : intBin op k x y = intBin0 op k x y := by
  cases op <;> simp only [intBin, intBin0, gWrap_eq, gAdd_eq, gSub_eq, gMul_eq, gIntEq_eq, gIntLe_eq]
  case quo =>
    rw [show (y == 0) = decide (y = 0) from by rw [Bool.eq_iff_iff]; simp]
    congr 3
    split
    · rfl
    · rfl
  case rem =>
    rw [show (y == 0) = decide (y = 0) from by rw [Bool.eq_iff_iff]; simp]
    congr 3
    split
    · rfl
    · rfl
  case and => exact congrArg (fun z => R.ok (Value.int k z)) (gBits_eq k (f := Nat.land) (g := fun u v => u &&& v) (fun u v => BitVec.toNat_and u v) (fun a b n ha hb => Nat.and_lt_two_pow a hb) x y)
  case or => exact congrArg (fun z => R.ok (Value.int k z)) (gBits_eq k (f := Nat.lor) (g := fun u v => u ||| v) (fun u v => BitVec.toNat_or u v) (fun a b n ha hb => Nat.or_lt_two_pow ha hb) x y)
  case xor => exact congrArg (fun z => R.ok (Value.int k z)) (gBits_eq k (f := Nat.xor) (g := fun u v => u ^^^ v) (fun u v => BitVec.toNat_xor u v) (fun a b n ha hb => Nat.xor_lt_two_pow ha hb) x y)
  case neq => rfl
  case lss => congr 2; rw [Bool.eq_iff_iff]; simp
  case gtr => congr 2; rw [Bool.eq_iff_iff]; simp

theorem shiftBin_eq (op : BinOp) (k : IntKind) (x y : Int) : shiftBin op k x y = shiftBin0 op k x y := by
  unfold shiftBin shiftBin0
  cases y with
  | negSucc m => rw [decide_eq_true (by omega : Int.negSucc m < 0)]; rfl
  | ofNat m =>
    rw [decide_eq_false (by have := Int.natCast_nonneg m; intro h; exact absurd h (Int.not_lt.2 this) : ¬ Int.ofNat m < 0)]
    simp only [cond_false]
    have e : (cond (Nat.ble m k.bits) m k.bits) = min (Int.ofNat m).toNat k.bits := by
      cases h : Nat.ble m k.bits with
      | true => have := Nat.le_of_ble_eq_true h; exact (Nat.min_eq_left this).symm
      | false =>
        have : ¬ m ≤ k.bits := fun hh => by rw [Nat.ble_eq_true_of_le hh] at h; cases h
        exact (Nat.min_eq_right (by show k.bits ≤ m; omega)).symm
    rw [e]
    generalize min (Int.ofNat m).toNat k.bits = n
    cases op <;> try rfl
    · simp only [gWrap_eq]
      congr 2
      cases x with
      | ofNat a => congr 1; first | done | simp
      | negSucc a => rfl
    · congr 2
      cases x with
      | ofNat a =>
        have : (Int.ofNat a).fdiv (2 ^ n) = Int.ofNat (a / 2 ^ n) := by
          have h := Int.ofNat_fdiv a (2 ^ n)
          rw [show ((2 ^ n : Nat) : Int) = (2 : Int) ^ n by simp] at h
          exact h.symm
        exact congrArg (fun z => R.ok (Value.int k z)) this.symm
      | negSucc a => rfl

theorem intBin_ok {op : BinOp} {k : IntKind} {a b : Int} {v : Value} (h : intBin op k a b = .ok v) (h1 : op ≠ .shl) (h2 : op ≠ .shr) :
    (∃ k n, v = .int k n) ∨ (∃ c, v = .bool c) := by
  rw [intBin_eq] at h
  cases op <;> simp only [intBin0] at h <;> try (cases h; done)
  all_goals first
    | (cases h; exact .inl ⟨_, _, rfl⟩)
    | (cases h; exact .inr ⟨_, rfl⟩)
    | (rcases cond_ok h with ⟨_, h⟩ | ⟨_, h⟩ <;> cases h; exact .inl ⟨_, _, rfl⟩)

theorem binOp_int {op : BinOp} {k : IntKind} {a b : Int} {v : Value} (h : intBin op k a b = .ok v) (h1 : op ≠ .shl) (h2 : op ≠ .shr) (t : Nat) (w : World) :
    (binOp op t (.int k a) (.int k b)).run P w = .ok v w := by
  rw [intBin_eq] at h
  cases op <;> simp only [intBin0] at h <;> try (cases h; done)
  all_goals first
    | exact absurd rfl h1
    | exact absurd rfl h2
    | (cases h; simp [binOp, Op.intArith, Op.intBits, Op.intCmp]; done)
    | (rcases cond_ok h with ⟨_, h⟩ | ⟨e, h⟩
       · cases h
       · cases h
         simp only [decide_eq_false_iff_not] at e
         simp [binOp, Op.intDiv, e])

theorem binOp_shift {op : BinOp} {k k' : IntKind} {a b : Int} {v : Value} (h : shiftBin op k a b = .ok v) (t : Nat) (w : World) :
    (binOp op t (.int k a) (.int k' b)).run P w = .ok v w ∧ ∃ n, v = .int k n := by
  rw [shiftBin_eq] at h
  simp only [shiftBin0] at h
  rcases cond_ok h with ⟨_, h⟩ | ⟨e, h⟩
  · cases h
  · simp only [decide_eq_false_iff_not] at e
    cases op <;> simp only at h <;> try (cases h; done)
    all_goals (cases h; exact ⟨by simp [binOp, Op.shift, e], _, rfl⟩)

theorem bytesLess_ok : ∀ (a b : List UInt8), bytesLess a b = Op.bytesLess a b
  | _, [] => by cases ‹List UInt8› <;> rfl
  | [], _ :: _ => rfl
  | a :: x, b :: y => by
    simp only [bytesLess, Op.bytesLess, bytesLess_ok x y]
    have h1 : Nat.blt a.toNat b.toNat = decide (a < b) := by
      rw [Bool.eq_iff_iff, Nat.blt_eq, decide_eq_true_eq]
      exact UInt8.lt_iff_toNat_lt.symm
    have h2 : Nat.beq a.toNat b.toNat = (a == b) := by
      rw [Bool.eq_iff_iff, Nat.beq_eq, beq_iff_eq]
      exact UInt8.toNat_inj
    rw [h1, h2]

theorem binOp_string {op : BinOp} {a b : ByteArray} {v : Value} (h : strBin op a.data.toList b.data.toList = .ok v) (t : Nat) (w : World) :
    (binOp op t (.string a) (.string b)).run P w = .ok v w ∧ ((∃ s, v = .string s) ∨ ∃ c, v = .bool c) := by
  have hb : ∀ o, binOp o t (.string a) (.string b) = Op.stringOp o a b := by intro o; cases o <;> rfl
  rw [hb]
  cases op <;> simp only [strBin] at h <;> try (cases h; done)
  case add =>
    rcases cond_ok h with ⟨e, h⟩ | ⟨_, h⟩
    · cases h
      rw [Nat.blt_eq] at e
      refine ⟨?_, .inl ⟨_, rfl⟩⟩
      have hs : ¬(((a.size + b.size : Nat) : Int) > IntKind.i64.max) := by
        rw [Lib.size_eq, Lib.size_eq]
        have : IntKind.i64.max = 9223372036854775807 := by decide
        omega
      have ha : a ++ b = ⟨⟨a.data.toList ++ b.data.toList⟩⟩ := by
        apply ByteArray.ext
        apply Array.ext'
        simp
      simp only [Op.stringOp, if_neg hs, Sem.run_pure, ha]
    · cases h
  all_goals
    cases h
    refine ⟨?_, .inr ⟨_, rfl⟩⟩
    simp [Op.stringOp, Lib.toList_data, bytesLess_ok]

end
end Go.G

/- G against the model: operands, binary operators, slices, what is built. -/
namespace Go.G

section
variable {P : Program} {env : Env}

theorem eqGuard_tail {t : Nat} {X Y : Operand} {a b : Value} (h : ¬(a = .nilIface ∧ b = .nilIface)) (k : ∀ xs ys, a = .agg xs → b = .agg ys → P.eqGuardType P.depth t = false) (w : World) (op : BinOp) (ho : op = .eql ∨ op = .neq) :
    (eqGuard op t X Y a b).run P w = .ok () w := by
  unfold eqGuard
  rcases ho with rfl | rfl
  all_goals
    simp only [Bool.not_true, Bool.false_eq_true, if_false]
    split
    · exact absurd ⟨rfl, rfl⟩ h
    · rw [Sem.run_bind, run_program, Result.andThen_ok, Sem.run_bind, run_program, Result.andThen_ok, k _ _ rfl rfl]
      rfl
    · rfl

theorem eqGuard_plain {op : BinOp} {t : Nat} {X Y : Operand} {a b : Value} (h : ¬(a = .nilIface ∧ b = .nilIface)) (k : ∀ xs ys, a = .agg xs → b = .agg ys → P.eqGuardType P.depth t = false) (w : World) :
    (eqGuard op t X Y a b).run P w = .ok () w := by
  cases op
  case eql => exact eqGuard_tail h k w _ (.inl rfl)
  case neq => exact eqGuard_tail h k w _ (.inr rfl)
  all_goals rfl

theorem eqGuard_off {op : BinOp} {t : Nat} {X Y : Operand} {a b : Value} (h : op ≠ .eql) (k : op ≠ .neq) (w : World) : (eqGuard op t X Y a b).run P w = .ok () w := by
  unfold eqGuard
  cases op <;> first | exact absurd rfl h | exact absurd rfl k | rfl

theorem eqStep_agg {eq : Nat → Value → Value → R Bool} {t : Nat} {xs ys : Array Value} {r : Bool} (h : eqStep env eq t (.agg xs) (.agg ys) = .ok r) : ∃ i, env.ti t = .ok i ∧ i.plain = true := by
  simp only [eqStep] at h
  obtain ⟨i, hi, k⟩ := R.b_ok h
  clear h
  refine ⟨i, hi, ?_⟩
  cases hd : i.td <;> rw [hd] at k <;> simp only at k <;> first | (cases k; done) | skip
  all_goals
    obtain ⟨u, hm, _⟩ := R.b_ok k
    exact R.must_ok hm

theorem eqStep_iface {eq : Nat → Value → Value → R Bool} {t : Nat} {r : Bool} (h : eqStep env eq t .nilIface .nilIface = .ok r) : False := by
  simp only [eqStep] at h
  obtain ⟨i, hi, k⟩ := R.b_ok h
  clear h
  cases hd : i.td <;> rw [hd] at k <;> cases k

theorem gEq_guard (E : EnvOk P env) {t : Nat} {x y x' y' : Value} {r : Bool} {ρ : Ren} (h : gEq env 20 t x y = .ok r) (hx : VRel ρ x x') (hy : VRel ρ y y') {op : BinOp} {X Y : Operand} (w : World) :
    (eqGuard op t X Y x' y').run P w = .ok () w := by
  have h : eqStep env (gEq env 19) t x y = .ok r := h
  refine eqGuard_plain ?_ ?_ w
  · rintro ⟨rfl, rfl⟩
    cases hx
    cases hy
    exact eqStep_iface h
  · intro xs ys e1 e2
    subst e1; subst e2
    cases hx
    cases hy
    obtain ⟨i, hi, hp⟩ := eqStep_agg h
    obtain ⟨D, _, _, _, h4⟩ := (Env.ti_ok E hi).desc
    exact (h4 hp).2.1

theorem VRel.not_int {ρ : Ren} {x x' : Value} (h : VRel ρ x x') (hn : ∀ k n, x ≠ .int k n) : ∀ k n, x' ≠ .int k n := by
  intro k n e
  subst e
  cases h
  exact hn _ _ rfl
theorem VRel.not_string {ρ : Ren} {x x' : Value} (h : VRel ρ x x') (hn : ∀ s, x ≠ .string s) : ∀ s, x' ≠ .string s := by
  intro s e
  subst e
  cases h
  exact hn _ rfl

theorem gEq_fits {t : Nat} {x y : Value} {r : Bool} (h : gEq env 20 t x y = .ok r) :
    (∀ k n, x ≠ .int k n) ∨ (∃ k n l m, x = .int k n ∧ y = .int l m) := by
  have h : eqStep env (gEq env 19) t x y = .ok r := h
  simp only [eqStep] at h
  obtain ⟨i, hi, k⟩ := R.b_ok h
  clear h
  split at k <;> first
    | (cases k; done)
    | exact .inr ⟨_, _, _, _, rfl, rfl⟩
    | exact .inl (fun _ _ e => by cases e)

theorem binOp_eq {t : Nat} {x y : Value} (hx : ∀ k n, x ≠ .int k n) (hs : ¬∃ a b, x = .string a ∧ y = .string b) (hf : ∀ k n, x ≠ .float k n) (hc : ∀ k n m, x ≠ .complex k n m) :
    (binOp .eql t x y = do pure (.bool (← Op.equal t x y))) ∧ (binOp .neq t x y = do pure (.bool (!(← Op.equal t x y)))) := by
  cases x <;> first
    | exact absurd rfl (hx _ _)
    | exact absurd rfl (hf _ _)
    | exact absurd rfl (hc _ _ _)
    | (constructor <;> rfl)
    | (rename_i a
       cases y <;> first
        | exact absurd ⟨_, _, rfl, rfl⟩ hs
        | (constructor <;> rfl))

theorem gBin_ok (E : EnvOk P env) {op : BinOp} {t : Nat} {x y v x' y' : Value} {X Y : Operand} {ρ : Ren} (h : gBin env op t x y = .ok v) (hx : VRel ρ x x') (hy : VRel ρ y y') :
    VRel ρ v v ∧ ∀ w, (do eqGuard op t X Y x' y'; binOp op t x' y').run P w = .ok v w := by
  unfold gBin at h
  split at h
  · rename_i k a k' b
    cases hx; cases hy
    have hg : ∀ w, (eqGuard op t X Y (.int k a) (.int k' b)).run P w = .ok () w := fun w => eqGuard_plain (fun e => by cases e.1) (fun _ _ e => by cases e) w
    split at h
    · have hb := fun w => binOp_shift (P := P) (k' := k') h t w
      obtain ⟨n, rfl⟩ := (hb default).2
      exact ⟨.int _ _, fun w => by rw [Sem.run_bind, hg, Result.andThen_ok]; exact (hb w).1⟩
    · have hb := fun w => binOp_shift (P := P) (k' := k') h t w
      obtain ⟨n, rfl⟩ := (hb default).2
      exact ⟨.int _ _, fun w => by rw [Sem.run_bind, hg, Result.andThen_ok]; exact (hb w).1⟩
    · rename_i n1 n2
      rcases cond_ok h with ⟨e, h5⟩ | ⟨_, h5⟩
      · clear h
        rw [decide_eq_true_eq] at e
        subst e
        refine ⟨?_, fun w => by rw [Sem.run_bind, hg, Result.andThen_ok]; exact binOp_int h5 n1 n2 t w⟩
        rcases intBin_ok h5 n1 n2 with ⟨_, _, rfl⟩ | ⟨_, rfl⟩
        · exact .int _ _
        · exact .bool _
      · cases h5
  · rename_i a b
    cases hx; cases hy
    have hg : ∀ w, (eqGuard op t X Y (.string a) (.string b)).run P w = .ok () w := fun w => eqGuard_plain (fun e => by cases e.1) (fun _ _ e => by cases e) w
    have hb := fun w => binOp_string (P := P) h t w
    refine ⟨?_, fun w => by rw [Sem.run_bind, hg, Result.andThen_ok]; exact (hb w).1⟩
    rcases (hb default).2 with ⟨_, rfl⟩ | ⟨_, rfl⟩
    · exact .string _
    · exact .bool _
  · rename_i hi hs
    have key : ∀ r, gEq env 20 t x y = .ok r → (binOp .eql t x' y' = do pure (.bool (← Op.equal t x' y'))) ∧ (binOp .neq t x' y' = do pure (.bool (!(← Op.equal t x' y')))) := by
      intro r hr
      have hxi : ∀ k n, x ≠ .int k n := by
        rcases gEq_fits hr with h | ⟨k, n, l, m, rfl, rfl⟩
        · exact h
        · exact absurd rfl (hi _ _ _ _ rfl)
      refine binOp_eq (hx.not_int hxi) ?_ ?_ ?_
      · rintro ⟨a, b, rfl, rfl⟩
        cases hx; cases hy
        exact hs _ _ rfl rfl
      · intro k n e; subst e; cases hx
      · intro k n m e; subst e; cases hx
    split at h
    · obtain ⟨r, hr, k⟩ := R.b_ok h
      cases k
      exact ⟨.bool _, fun w => by rw [Sem.run_bind, gEq_guard E hr hx hy, Result.andThen_ok, (key r hr).1, Sem.run_bind, equal_ok E hr hx hy]; rfl⟩
    · obtain ⟨r, hr, k⟩ := R.b_ok h
      cases k
      exact ⟨.bool _, fun w => by rw [Sem.run_bind, gEq_guard E hr hx hy, Result.andThen_ok, (key r hr).2, Sem.run_bind, equal_ok E hr hx hy]; rfl⟩
    · cases h

theorem gUn_ok {op : UnOp} {x v x' : Value} {ρ : Ren} (h : gUn op x = .ok v) (hx : VRel ρ x x') : VRel ρ v v ∧ ∀ w, (Op.unary op x').run P w = .ok v w := by
  unfold gUn at h
  split at h
  · cases hx; cases h
    exact ⟨.bool _, fun w => rfl⟩
  · cases hx; cases h
    exact ⟨.int _ _, fun w => rfl⟩
  · cases hx
    rw [intBin_eq] at h
    simp only [intBin0, R.ok.injEq] at h
    subst h
    exact ⟨.int _ _, fun w => rfl⟩
  · cases h

end
end Go.G

/- G against the model: temporaries, operands, reads of blocks, slices, what is built. -/
namespace Go.G

def TRel (ρ : Ren) (s : Tmps) (a : Act) : Prop := ∀ (t : Nat) (v : Value), s.get t = some v → ∃ v', a.tmps[t]? = some v' ∧ VRel ρ v v'

theorem TRel.mono {ρ σ : Ren} (hs : ρ.sub σ) {s : Tmps} {a : Act} (h : TRel ρ s a) : TRel σ s a :=
  fun t v hv => let ⟨v', e, r⟩ := h t v hv; ⟨v', e, r.mono hs⟩

section
variable {P : Program} {env : Env} {ρ : Ren} {s : Tmps} {a : Act}

theorem ev_ok (T : TRel ρ s a) {x : Operand} {v : Value} (h : ev s x = .ok v) : VRel ρ v (a.eval x) := by
  cases x with
  | tmp t =>
    obtain ⟨v', e, r⟩ := T t v (R.of_ok h)
    simp only [Act.eval, Array.getD_eq_getD_getElem?, e, Option.getD_some]
    exact r
  | const u =>
    rcases cond_ok h with ⟨e, k⟩ | ⟨_, k⟩
    · cases k; exact .lit e
    · cases k
  | func f => cases h; exact .func _ rfl rfl (fun i v v' h => by simp at h) (fun i v v' h => by simp at h)
  | global g => cases h

theorem evs_ok (T : TRel ρ s a) : ∀ {l : List Operand} {vs : List Value}, evs s l = .ok vs → LRel ρ vs (l.map a.eval)
  | [], vs, h => by cases h; exact .nil ρ
  | o :: l, vs, h => by
    obtain ⟨v, hv, h1⟩ := R.b_ok h
    obtain ⟨us, hu, h2⟩ := R.b_ok h1
    cases h2
    exact .cons (ev_ok T hv) (evs_ok T hu)

theorem evOpt_none {x : Option Operand} (h : evOpt s x = .ok none) : x = none := by
  cases x with
  | none => rfl
  | some o => obtain ⟨v, _, h1⟩ := R.b_ok h; cases h1

theorem evOpt_some (T : TRel ρ s a) {x : Option Operand} {v : Value} (h : evOpt s x = .ok (some v)) : ∃ o, x = some o ∧ VRel ρ v (a.eval o) := by
  cases x with
  | none => cases h
  | some o => obtain ⟨u, hu, h1⟩ := R.b_ok h; cases h1; exact ⟨o, rfl, ev_ok T hu⟩

theorem asAddr_ok {v : Value} {p : Addr} (h : asAddr v = .ok p) : v = .pointer (some p) := by
  cases v with
  | pointer q => cases q with | none => cases h | some q => cases h; rfl
  | _ => cases h

theorem asInt_ok {v : Value} {n : Int} (h : asInt v = .ok n) : ∃ k, v = .int k n := by
  cases v with
  | int k m => cases h; exact ⟨k, rfl⟩
  | _ => cases h

theorem asBool_ok {v : Value} {b : Bool} (h : asBool v = .ok b) : v = .bool b := by
  cases v with
  | bool c => cases h; rfl
  | _ => cases h

theorem VRel.ptr_inv {p : Addr} {v' : Value} (h : VRel ρ (.pointer (some p)) v') : ∃ i off L, p = ⟨i, off, none⟩ ∧ ρ i = some L ∧ v' = .pointer (some ⟨L.b, L.base + off, none⟩) := by
  cases h with | ptr h => exact ⟨_, _, _, rfl, h, rfl⟩

/-- The cells of a block that lives. -/
theorem Heap.cells_ok {h : Heap} {i : Nat} {p : Nat × List Value} (hc : h.cells i = .ok p) : h.get i = some (.cells p.1 p.2) := by
  unfold Heap.cells at hc
  split at hc
  · cases hc; assumption
  · cases hc
  · cases hc

theorem Rel.cells {h : Heap} {w : World} (K : Rel ρ h w.heap) {i : Nat} {esz : Nat} {c : List Value} (hc : h.get i = some (.cells esz c)) :
    ∃ L arr e lo hi, ρ i = some L ∧ w.heap[L.b]? = some (.cells arr e (lo, hi)) ∧ arr.size = L.tot ∧ L.esz = esz ∧ (lo = hi ∨ L.tot ≤ lo) ∧
      ∀ (k : Nat) (v : Value), c[k]? = some v → ∃ v', arr[L.base + k]? = some v' ∧ VRel ρ v v' := by
  obtain ⟨L, o, h1, h2, h3⟩ := K.live _ _ hc
  cases h3 with
  | cells hs he hf hb hcs => exact ⟨L, _, _, _, _, h1, h2, hs, he, hf, hcs⟩

theorem Rel.base0 {h : Heap} {w : World} (K : Rel ρ h w.heap) {i : Nat} {esz : Nat} {c : List Value} {L : Loc} (hc : h.get i = some (.cells esz c)) (hL : ρ i = some L) (e0 : esz = 0) : L.base = 0 := by
  obtain ⟨M, o, h1, h2, h3⟩ := K.live _ _ hc
  rw [hL] at h1; cases h1
  cases h3 with
  | cells hs he hf hb hcs => exact hb e0

theorem Heap.read_ok {h : Heap} {w : World} (K : Rel ρ h w.heap) {i off n : Nat} {cs : List Value} (hr : h.read ⟨i, off, none⟩ n = .ok cs) :
    cs.length = n ∧ ∃ L cs', ρ i = some L ∧ LRel ρ cs cs' ∧ ∀ (k : Nat) (v : Value), cs'[k]? = some v → w.cell? ⟨L.b, L.base + off + k, none⟩ = some v := by
  obtain ⟨p, hp, h1⟩ := R.b_ok (show (h.cells i).b _ = .ok cs from hr)
  obtain ⟨h2, h3⟩ := readN_ok h1
  obtain ⟨L, arr, e, lo, hi, g1, g2, _, _, _, g6⟩ := K.cells (Heap.cells_ok hp)
  refine ⟨h3, L, (arr.toList.drop (L.base + off)).take n, g1, ?_, ?_⟩
  · subst h2
    have hlen : (arr.toList.drop (L.base + off)).length ≥ n ∨ n = 0 := by
      rcases Nat.eq_zero_or_pos n with h0 | h0
      · exact .inr h0
      · left
        have hl : off + n ≤ p.2.length := by simp at h3; omega
        obtain ⟨v', a', _⟩ := g6 (off + n - 1) p.2[off + n - 1] (List.getElem?_eq_getElem (by omega))
        have := (Array.getElem?_eq_some_iff.1 a').1
        simp; omega
    refine ⟨?_, fun k v v' hv hv' => ?_⟩
    · rw [h3, List.length_take]; rcases hlen with h | h <;> omega
    · rw [List.getElem?_take] at hv hv'
      split at hv
      · rename_i hk
        rw [if_pos hk, List.getElem?_drop] at hv'
        rw [List.getElem?_drop] at hv
        obtain ⟨u, hu, hr⟩ := g6 _ _ hv
        rw [Array.getElem?_toList, Nat.add_assoc, hu] at hv'
        cases hv'
        exact hr
      · cases hv
  · intro k v hv
    rw [List.getElem?_take] at hv
    split at hv
    · rw [List.getElem?_drop, Array.getElem?_toList] at hv
      rw [cell?_mk g2]; exact hv
    · cases hv

theorem run_loadAt (P : Program) {w : World} {b off n : Nat} {cs : List Value} (hl : cs.length = n) (h : ∀ (k : Nat) (v : Value), cs[k]? = some v → w.cell? ⟨b, off + k, none⟩ = some v) :
    (loadCells ⟨b, off, none⟩ n).run P w = .ok ⟨cs⟩ w :=
  run_loadCells cs hl (fun k v hv => by rw [Addr.add_plain]; exact h k v hv)

theorem loadVar_ok (E : EnvOk P env) {h : Heap} {w : World} (K : Rel ρ h w.heap) {t i off : Nat} {L : Loc} {v : Value} (hL : ρ i = some L) (hr : loadVar env h t ⟨i, off, none⟩ = .ok v) :
    ∃ v', VRel ρ v v' ∧ (Go.loadVar t ⟨L.b, L.base + off, none⟩).run P w = .ok v' w := by
  obtain ⟨ti, hti, h1⟩ := R.b_ok hr
  have T := Env.ti_ok E hti
  rcases cond_ok h1 with ⟨ha, h2⟩ | ⟨ha, h2⟩
  · obtain ⟨cs, hcs, h3⟩ := R.b_ok h2
    cases h3
    obtain ⟨g1, M, cs', g2, g3, g4⟩ := Heap.read_ok K hcs
    rw [hL] at g2; cases g2
    refine ⟨.agg ⟨cs'⟩, .agg_of g3, ?_⟩
    simp only [Go.loadVar, Sem.run_bind, T.run_isAgg, Result.andThen_ok, ha, if_true, T.run_size, run_loadAt P (g3.1 ▸ g1) g4, Sem.run_pure]
  · obtain ⟨cs, hcs, h3⟩ := R.b_ok h2
    obtain ⟨g1, M, cs', g2, g3, g4⟩ := Heap.read_ok K hcs
    rw [hL] at g2; cases g2
    split at h3
    · cases h3
      obtain ⟨v', ys, rfl, r, _⟩ := g3.cons_inv
      refine ⟨v', r, ?_⟩
      have hc := g4 0 v' rfl
      rw [Nat.add_zero] at hc
      simp only [Go.loadVar, Sem.run_bind, T.run_isAgg, Result.andThen_ok, ha, Bool.false_eq_true, if_false, run_load, hc]
    · cases h3

theorem loadAt_ok (E : EnvOk P env) {h : Heap} {w : World} (K : Rel ρ h w.heap) {t : Nat} {p : Addr} {v x' : Value} (hx : VRel ρ (.pointer (some p)) x') (hr : loadVar env h t p = .ok v) :
    ∃ v', VRel ρ v v' ∧ (Instr.loadAt t x').run P w = .ok v' w := by
  obtain ⟨i, off, L, rfl, hL, rfl⟩ := hx.ptr_inv
  obtain ⟨v', h1, h2⟩ := loadVar_ok E K hL hr
  exact ⟨v', h1, by simp only [Instr.loadAt, Instr.sureAddr, Sem.run_bind, Sem.run_pure, Result.andThen_ok, h2]⟩

/-! slices -/

theorem bound_ok {v : Value} {y n : Nat} {v' : Value} (h : bound v y = .ok n) (hv : VRel ρ v v') (c : BoundsCode) (w : World) : (Instr.sliceBound v' y c).run P w = .ok n w ∧ n ≤ y := by
  cases v with
  | int k m =>
    cases hv
    unfold bound at h
    rcases cond_ok h with ⟨e, h1⟩ | ⟨_, h1⟩
    · cases h1
      simp only [Bool.and_eq_true, decide_eq_true_eq] at e
      exact ⟨by simp [Instr.sliceBound, asIntOf, e], by omega⟩
    · cases h1
  | _ => cases h

/-- An optional bound, as the model reads it. -/
def optRun (v : Option Value) (y d : Nat) (c : BoundsCode) : Sem Nat :=
  match v with
  | some v => Instr.sliceBound v y c
  | none => pure d

theorem optB_ok {v : Option Value} {y d n : Nat} {v' : Option Value} (h : optB v y d = .ok n)
    (hv : (v = none ∧ v' = none) ∨ ∃ u u', v = some u ∧ v' = some u' ∧ VRel ρ u u') (hd : d ≤ y) (c : BoundsCode) (w : World) :
    (optRun v' y d c).run P w = .ok n w ∧ n ≤ y := by
  rcases hv with ⟨rfl, rfl⟩ | ⟨u, u', rfl, rfl, r⟩
  · cases h; exact ⟨rfl, hd⟩
  · exact bound_ok h r c w

theorem optB'_ok {v : Option Value} {y d n : Nat} {v' : Option Value} (h : optB' v y d = .ok n)
    (hv : (v = none ∧ v' = none) ∨ ∃ u u', v = some u ∧ v' = some u' ∧ VRel ρ u u') (c : BoundsCode) (w : World) :
    (optRun v' y d c).run P w = .ok n w ∧ n ≤ y := by
  rcases hv with ⟨rfl, rfl⟩ | ⟨u, u', rfl, rfl, r⟩
  · rcases cond_ok h with ⟨e, k⟩ | ⟨_, k⟩
    · cases k; exact ⟨rfl, Nat.le_of_ble_eq_true e⟩
    · cases k
  · exact bound_ok h r c w

theorem addOff_eq (a : Addr) (n : Nat) : addOff a n = a.add n := by
  unfold addOff Addr.add
  cases n with
  | zero => rfl
  | succ n => simp [Nat.beq]

theorem sliceBounds_run {isSlice : Bool} {len cap l u m : Nat} {lo hi mx : Option Value} {w : World}
    (hm : (match mx with | some v => Instr.sliceBound v cap (if isSlice then .slice3Acap else .slice3Alen) | none => pure cap : Sem Nat).run P w = .ok m w)
    (hh : (match hi, mx with
      | some v, some _ => Instr.sliceBound v m .slice3B
      | some v, none => Instr.sliceBound v m (if isSlice then .sliceAcap else .sliceAlen)
      | none, none => pure len
      | none, some _ => stuck "Slice max without high" : Sem Nat).run P w = .ok u w)
    (hl : (match lo with | some v => Instr.sliceBound v u (if mx.isSome then .slice3C else .sliceB) | none => pure 0 : Sem Nat).run P w = .ok l w) :
    (Instr.sliceBounds isSlice len cap lo hi mx).run P w = .ok (l, u, m) w := by
  unfold Instr.sliceBounds
  cases mx <;> cases hi <;> cases lo <;>
    simp only [Sem.run_pure, Sem.run_bind, run_stuck, Result.ok.injEq, and_true, reduceCtorEq, Option.isSome_none, Option.isSome_some, if_true, Bool.false_eq_true, if_false] at hm hh hl ⊢ <;>
    first | (subst hm; simp only [hh, hl, Result.andThen_ok]; done) | skip
  · subst hl; simp only [hm, hh, Result.andThen_ok]
  · simp only [hm, hh, hl, Result.andThen_ok]

/-- An optional operand's value, and the model's. -/
def ORel (ρ : Ren) (v v' : Option Value) : Prop := (v = none ∧ v' = none) ∨ ∃ u u', v = some u ∧ v' = some u' ∧ VRel ρ u u'

theorem evOpt_ok (T : TRel ρ s a) {x : Option Operand} {v : Option Value} (h : evOpt s x = .ok v) : ORel ρ v (x.map a.eval) := by
  cases x with
  | none => cases h; exact .inl ⟨rfl, rfl⟩
  | some o => obtain ⟨u, hu, h1⟩ := R.b_ok h; cases h1; exact .inr ⟨_, _, rfl, rfl, ev_ok T hu⟩

end
end Go.G

/- G against the model: slices, and what is built of parts. -/
namespace Go.G

section
variable {P : Program} {env : Env} {ρ : Ren} {s : Tmps} {a : Act}

theorem ORel.none_inv {v' : Option Value} (h : ORel ρ none v') : v' = none := by
  rcases h with ⟨_, h⟩ | ⟨_, _, h, _⟩
  · exact h
  · cases h

theorem ORel.some_inv {v : Value} {v' : Option Value} (h : ORel ρ (some v) v') : ∃ u, v' = some u ∧ VRel ρ v u := by
  rcases h with ⟨h, _⟩ | ⟨u, u', h, h', r⟩
  · cases h
  · cases h; exact ⟨u', h', r⟩

/-- The three bounds where there is no third one. -/
theorem bounds_two {isSlice : Bool} {len cap l u : Nat} {lo hi : Option Value} {w : World}
    (hh : (optRun hi cap len (if isSlice then .sliceAcap else .sliceAlen)).run P w = .ok u w) (hl : (optRun lo u 0 .sliceB).run P w = .ok l w) :
    (Instr.sliceBounds isSlice len cap lo hi none).run P w = .ok (l, u, cap) w := by
  refine sliceBounds_run rfl ?_ hl
  cases hi <;> exact hh

theorem bounds_three {len cap l u m : Nat} {lo : Option Value} {h m' : Value} {w : World}
    (hm : (Instr.sliceBound m' cap .slice3Acap).run P w = .ok m w) (hh : (Instr.sliceBound h m .slice3B).run P w = .ok u w)
    (hl : (optRun lo u 0 .slice3C).run P w = .ok l w) :
    (Instr.sliceBounds true len cap lo (some h) (some m')).run P w = .ok (l, u, m) w := sliceBounds_run hm hh hl

theorem sliceAt_slice {t e : Nat} {i : TI} (hu : P.underlying t = some (.slice e)) (T : TiOk P e i) {x : Option Addr} {len cap l u m : Nat} {lo hi mx : Option Value} {w : World}
    (hb : (Instr.sliceBounds true len cap lo hi mx).run P w = .ok (l, u, m) w) :
    (Instr.sliceAt t (.slice x len cap) lo hi mx).run P w = .ok (.slice (if m = l then x else x.map (·.add (l * i.size))) (u - l) (m - l)) w := by
  simp only [Instr.sliceAt, Sem.run_bind, run_und hu, Result.andThen_ok, Instr.slice, hb, T.run_size, Sem.run_pure]

theorem highFlex_ok {cells off size len n : Nat} {v v' : Value} (h : highFlex cells off size len v = .ok n) (hv : VRel ρ v v') :
    (n ≤ len ∨ off + n * size ≤ cells) ∧ ∀ (y : Nat) (c : BoundsCode) (w : World), n ≤ y → (Instr.sliceBound v' y c).run P w = .ok n w := by
  cases v with
  | int k m =>
    cases hv
    unfold highFlex at h
    rcases cond_ok h with ⟨e, h1⟩ | ⟨_, h1⟩
    · cases h1
      simp only [Bool.and_eq_true, Bool.or_eq_true, decide_eq_true_eq, Nat.ble_eq] at e
      refine ⟨?_, fun y c w hy => ?_⟩
      · rcases e.2 with e2 | e2
        · left; omega
        · exact .inr e2
      · have : m ≤ y := by omega
        simp [Instr.sliceBound, asIntOf, e.1, this]
    · cases h1
  | _ => cases h

theorem beq_false_of_ne {m l : Nat} (e : m ≠ l) : Nat.beq m l = false := by
  cases hb : Nat.beq m l with
  | false => rfl
  | true => exact absurd (Nat.eq_of_beq_eq_true hb) e

/-- A slice of a known capacity out of one that has so many. -/
theorem cut_rel {b off size l u m c : Nat} {L : Loc} {x : Addr} (hL : ρ b = some L) (hm : m < flexCap) (hu : u ≤ m) (hl : l ≤ u) (hmc : m ≤ c) (ha : x = ⟨L.b, L.base + off, none⟩ ∨ c = 0) :
    VRel ρ (.slice (some (cond (Nat.beq m l) ⟨b, off, none⟩ (addOff ⟨b, off, none⟩ (l * size)))) (u - l) (m - l))
      (.slice (if m = l then some x else (some x).map (·.add (l * size))) (u - l) (m - l)) := by
  by_cases e : m = l
  · subst e
    rw [if_pos rfl, Nat.beq_refl m, cond_true]
    exact .slice hL (by omega) (by omega) (.inr (by omega))
  · rw [if_neg e, beq_false_of_ne e, cond_false, addOff_eq, Addr.add_plain, Option.map_some]
    refine .slice hL (by omega) (by omega) (.inl ?_)
    rcases ha with rfl | h0
    · rw [Addr.add_plain, Nat.add_assoc]
    · omega

theorem cut_rel' {b off size l u m c : Nat} {L : Loc} {x : Addr} (hL : ρ b = some L) (hm : m < flexCap) (hu : u ≤ m) (hl : l ≤ u) (hmc : m ≤ c) (ha : x = ⟨L.b, L.base + off, none⟩ ∨ c = 0) :
    VRel ρ (.slice (cond (Nat.beq m l) (some ⟨b, off, none⟩) ((some ⟨b, off, none⟩ : Option Addr).map fun a => addOff a (l * size))) (u - l) (m - l))
      (.slice (if m = l then some x else (some x).map (·.add (l * size))) (u - l) (m - l)) := by
  have := cut_rel (size := size) hL hm hu hl hmc ha
  cases h : Nat.beq m l <;> rw [h] at this <;> exact this

theorem gSlice_ok (E : EnvOk P env) {h : Heap} {w : World} (K : Rel ρ h w.heap) {t : Nat} {x v x' : Value} {lo hi mx lo' hi' mx' : Option Value}
    (hg : gSlice env h t x lo hi mx = .ok v) (hx : VRel ρ x x') (hlo : ORel ρ lo lo') (hhi : ORel ρ hi hi') (hmx : ORel ρ mx mx') :
    ∃ v', VRel ρ v v' ∧ (Instr.sliceAt t x' lo' hi' mx').run P w = .ok v' w := by
  unfold gSlice at hg
  obtain ⟨d, hd, k⟩ := R.b_ok hg
  clear hg
  obtain ⟨D, g1, g2⟩ := Env.td_ok E hd
  split at k
  · -- a string
    cases tdOf_string g2.symm
    rename_i s
    cases mx with
    | some m => cases k
    | none =>
    cases hmx.none_inv
    obtain ⟨u, hu, k⟩ := R.b_ok k
    obtain ⟨l, hl, k⟩ := R.b_ok k
    cases k
    cases hx
    rw [← Lib.size_eq] at hu
    have h1 := fun c => optB_ok (P := P) hu hhi (Nat.le_refl _) c w
    have h2 := fun c => optB_ok (P := P) hl hlo (Nat.zero_le _) c w
    refine ⟨.string (s.extract l u), ?_, ?_⟩
    · rw [Lib.extract_eq]; exact .string _
    · simp only [Instr.sliceAt, Sem.run_bind, run_und g1, Result.andThen_ok, Instr.slice, Option.isSome_none, Bool.false_eq_true, if_false,
        bounds_two (isSlice := false) (h1 _).1 (h2 _).1, Sem.run_pure]
  · -- a slice
    cases tdOf_slice g2.symm
    rename_i e b len cap
    obtain ⟨i, hi0, k⟩ := R.b_ok k
    have T := Env.ti_ok E hi0
    rcases cond_ok k with ⟨hc, k⟩ | ⟨hc, k⟩
    · -- of a capacity that is not known
      have hc : cap = flexCap := Nat.eq_of_beq_eq_true hc
      subst hc
      split at k
      case h_2 => cases k
      rename_i bi off
      cases hx with
      | slice _ hlt _ _ => exact absurd hlt (Nat.lt_irrefl _)
      | flex hL heq hle ha =>
      rename_i c L a'
      cases mx with
      | some m =>
        obtain ⟨m', rfl, rm⟩ := hmx.some_inv
        obtain ⟨m1, hm1, k⟩ := R.b_ok k
        obtain ⟨_, hm2, k⟩ := R.b_ok k
        obtain ⟨u, hu, k⟩ := R.b_ok k
        obtain ⟨l, hl, k⟩ := R.b_ok k
        cases k
        cases hi with
        | none => cases hu
        | some hv =>
        obtain ⟨h', rfl, rh⟩ := hhi.some_inv
        have h1 := bound_ok (P := P) hm1 rm .slice3Acap w
        have hmc : (Instr.sliceBound m' c .slice3Acap).run P w = .ok m1 w := by
          cases m with
          | int k0 n0 =>
            cases rm
            unfold bound at hm1
            rcases cond_ok hm1 with ⟨e, q⟩ | ⟨_, q⟩
            · cases q
              simp only [Bool.and_eq_true, decide_eq_true_eq] at e
              have : n0 ≤ c := by omega
              simp [Instr.sliceBound, asIntOf, e.1, this]
            · cases q
          | _ => cases hm1
        have h2 := bound_ok (P := P) (show bound hv m1 = .ok u from hu) rh .slice3B w
        have h3 := optB_ok (P := P) hl hlo (Nat.zero_le _) .slice3C w
        have hml : m1 < flexCap := by have := R.must_ok hm2; rwa [Nat.blt_eq] at this
        exact ⟨_, cut_rel hL hml h2.2 h3.2 (Nat.le_trans h1.2 hle) ha, sliceAt_slice g1 T (bounds_three hmc h2.1 h3.1)⟩
      | none =>
        cases hmx.none_inv
        obtain ⟨p, hp, k⟩ := R.b_ok k
        obtain ⟨_, hm2, k⟩ := R.b_ok k
        obtain ⟨u, hu, k⟩ := R.b_ok k
        obtain ⟨l, hl, k⟩ := R.b_ok k
        cases k
        have hm3 := R.must_ok hm2
        simp only [Bool.and_eq_true, Bool.not_eq_true'] at hm3
        obtain ⟨M, arr, el, lo0, hi1, q1, q2, q3, q4, q5, q6⟩ := K.cells (Heap.cells_ok hp)
        rw [hL] at q1; cases q1
        have hes : L.esz = i.size := by rw [q4]; exact Nat.eq_of_beq_eq_true hm3.1
        have hs0 : 0 < i.size := by
          rcases Nat.eq_zero_or_pos i.size with h0 | h0
          · rw [h0] at hm3; exact absurd hm3.2 (by decide)
          · exact h0
        have hend : p.2.length = 0 ∨ L.base + p.2.length ≤ L.tot := by
          rcases Nat.eq_zero_or_pos p.2.length with h0 | h0
          · exact .inl h0
          · obtain ⟨v', a1, _⟩ := q6 (p.2.length - 1) p.2[p.2.length - 1] (List.getElem?_eq_getElem (by omega))
            have := (Array.getElem?_eq_some_iff.1 a1).1
            right; omega
        rw [hes] at heq
        have huc : u ≤ c := by
          cases hi with
          | none => cases hu; exact hle
          | some hv =>
            obtain ⟨h', _, rh⟩ := hhi.some_inv
            rcases (highFlex_ok (P := P) (show highFlex _ _ _ _ hv = .ok u from hu) rh).1 with h1 | h1
            · omega
            · rcases hend with h0 | h0
              · have : u * i.size = 0 := by omega
                rcases Nat.mul_eq_zero.1 this with h2 | h2 <;> omega
              · have : u * i.size ≤ c * i.size := by omega
                exact Nat.le_of_mul_le_mul_right this hs0
        have hh : (optRun hi' c len .sliceAcap).run P w = .ok u w := by
          cases hi with
          | none => cases hhi.none_inv; cases hu; rfl
          | some hv =>
            obtain ⟨h', rfl, rh⟩ := hhi.some_inv
            exact (highFlex_ok (P := P) (show highFlex _ _ _ _ hv = .ok u from hu) rh).2 _ _ _ huc
        have h3 := optB_ok (P := P) hl hlo (Nat.zero_le _) .sliceB w
        refine ⟨_, ?_, sliceAt_slice g1 T (bounds_two (isSlice := true) hh h3.1)⟩
        rw [addOff_eq, Addr.add_plain]
        have hmul : l * i.size + (c - l) * i.size = c * i.size := by rw [← Nat.add_mul, Nat.add_sub_cancel' (Nat.le_trans h3.2 huc)]
        by_cases e : c = l
        · rw [if_pos e]
          exact .flex hL (by rw [hes]; omega) (by omega) (.inr (by omega))
        · rw [if_neg e, Option.map_some]
          refine .flex hL (by rw [hes]; omega) (by omega) (.inl ?_)
          rcases ha with rfl | h0
          · rw [Addr.add_plain, Nat.add_assoc]
          · omega
    · -- of a known one
      cases mx with
      | some m =>
        obtain ⟨m', rfl, rm⟩ := hmx.some_inv
        obtain ⟨m1, hm1, k⟩ := R.b_ok k
        obtain ⟨u, hu, k⟩ := R.b_ok k
        obtain ⟨l, hl, k⟩ := R.b_ok k
        cases k
        cases hi with
        | none => cases hu
        | some hv =>
        obtain ⟨h', rfl, rh⟩ := hhi.some_inv
        have h1 := bound_ok (P := P) hm1 rm .slice3Acap w
        have h2 := bound_ok (P := P) (show bound hv m1 = .ok u from hu) rh .slice3B w
        have h3 := optB_ok (P := P) hl hlo (Nat.zero_le _) .slice3C w
        cases hx with
        | sliceNil =>
          refine ⟨_, ?_, sliceAt_slice g1 T (bounds_three h1.1 h2.1 h3.1)⟩
          have e1 : u - l = 0 := by omega
          have e2 : m1 - l = 0 := by omega
          rw [e1, e2]
          split <;> cases Nat.beq m1 l <;> exact .sliceNil
        | slice hL hlt hn ha =>
          refine ⟨_, ?_, sliceAt_slice g1 T (bounds_three h1.1 h2.1 h3.1)⟩
          exact cut_rel' hL (Nat.lt_of_le_of_lt h1.2 hlt) h2.2 h3.2 h1.2 ha
        | flex _ _ _ _ => exact absurd hc (by decide)
      | none =>
        cases hmx.none_inv
        obtain ⟨u, hu, k⟩ := R.b_ok k
        obtain ⟨l, hl, k⟩ := R.b_ok k
        cases k
        have h3 := optB_ok (P := P) hl hlo (Nat.zero_le _) .sliceB w
        cases hx with
        | sliceNil =>
          have h2 := optB'_ok (P := P) hu hhi .sliceAcap w
          refine ⟨_, ?_, sliceAt_slice g1 T (bounds_two (isSlice := true) h2.1 h3.1)⟩
          have e1 : u - l = 0 := by omega
          have e2 : 0 - l = 0 := by omega
          rw [e1, e2]
          split <;> cases Nat.beq 0 l <;> exact .sliceNil
        | slice hL hlt hn ha =>
          have h2 := optB'_ok (P := P) hu hhi .sliceAcap w
          refine ⟨_, ?_, sliceAt_slice g1 T (bounds_two (isSlice := true) h2.1 h3.1)⟩
          exact cut_rel' hL hlt h2.2 h3.2 (Nat.le_refl _) ha
        | flex _ _ _ _ => exact absurd hc (by decide)
  · -- an array
    cases tdOf_array g2.symm
    rename_i n e a0
    obtain ⟨i, hi0, k⟩ := R.b_ok k
    have T := Env.ti_ok E hi0
    cases mx with
    | some m => cases k
    | none =>
    cases hmx.none_inv
    obtain ⟨_, hn, k⟩ := R.b_ok k
    obtain ⟨u, hu, k⟩ := R.b_ok k
    obtain ⟨l, hl, k⟩ := R.b_ok k
    cases k
    obtain ⟨b, off, L, rfl, hL, rfl⟩ := hx.ptr_inv
    have h2 := optB_ok (P := P) hu hhi (Nat.le_refl _) .sliceAlen w
    have h3 := optB_ok (P := P) hl hlo (Nat.zero_le _) .sliceB w
    have hn' := R.must_ok hn
    rw [Nat.blt_eq] at hn'
    have := cut_rel (size := i.size) (c := n) (x := ⟨L.b, L.base + off, none⟩) hL hn' h2.2 h3.2 (Nat.le_refl _) (.inl rfl)
    refine ⟨_, this, ?_⟩
    simp only [Instr.sliceAt, Sem.run_bind, run_und g1, Result.andThen_ok, Instr.sureAddr, Sem.run_pure, bounds_two (isSlice := false) h2.1 h3.1, T.run_size]
    congr 2
    split <;> rfl
  · cases k

end
end Go.G

/- G against the model: what is built of parts; maps' keys. -/
namespace Go.G

section
variable {P : Program} {env : Env} {ρ : Ren} {s : Tmps} {a : Act}

theorem overwrite_ok : ∀ {cs vs r : List Value}, overwrite cs vs = .ok r → vs.length ≤ cs.length ∧ r.length = cs.length ∧ ∀ k, r[k]? = if k < vs.length then vs[k]? else cs[k]?
  | cs, [], r, h => by
    have : r = cs := by cases cs <;> (cases h; rfl)
    subst this
    exact ⟨by simp, rfl, fun k => by simp⟩
  | [], v :: vs, r, h => by cases h
  | c :: cs, v :: vs, r, h => by
    obtain ⟨l, hl, h1⟩ := R.b_ok h
    cases h1
    obtain ⟨g1, g2, g3⟩ := overwrite_ok hl
    refine ⟨by simpa using g1, by simpa using g2, fun k => ?_⟩
    cases k with
    | zero => simp
    | succ k => simp [g3 k]

theorem writeAt_ok : ∀ {n : Nat} {cs vs r : List Value}, writeAt n cs vs = .ok r →
    r.length = cs.length ∧ (vs ≠ [] → n + vs.length ≤ cs.length) ∧ ∀ k, r[k]? = if n ≤ k ∧ k < n + vs.length then vs[k - n]? else cs[k]?
  | 0, cs, vs, r, h => by
    obtain ⟨g1, g2, g3⟩ := overwrite_ok (show overwrite cs vs = .ok r from h)
    refine ⟨g2, fun _ => by omega, fun k => ?_⟩
    rw [g3]
    by_cases hk : k < vs.length
    · rw [if_pos hk, if_pos (by omega)]; rfl
    · rw [if_neg hk, if_neg (by omega)]
  | n + 1, [], vs, r, h => by
    cases vs with
    | nil => cases h; exact ⟨rfl, fun h => absurd rfl h, fun k => by simp⟩
    | cons v vs => cases h
  | n + 1, c :: cs, vs, r, h => by
    obtain ⟨l, hl, h1⟩ := R.b_ok h
    cases h1
    obtain ⟨g1, g2, g3⟩ := writeAt_ok hl
    refine ⟨by simpa using g1, fun hv => by have := g2 hv; simp; omega, fun k => ?_⟩
    cases k with
    | zero => rw [if_neg (by omega)]; rfl
    | succ k =>
      rw [List.getElem?_cons_succ, g3 k, List.getElem?_cons_succ]
      by_cases hk : n ≤ k ∧ k < n + vs.length
      · rw [if_pos hk, if_pos (by omega)]
        congr 1
        omega
      · rw [if_neg hk, if_neg (by omega)]

/-- Cells written on both sides. -/
theorem LRel.write {cs cs' vs vs' r : List Value} {n : Nat} (hc : LRel ρ cs cs') (hv : LRel ρ vs vs') (hn : n + vs.length ≤ cs.length) (h : writeAt n cs vs = .ok r) :
    LRel ρ r (wr ⟨cs'⟩ n vs').toList := by
  obtain ⟨g1, _, g3⟩ := writeAt_ok h
  refine ⟨by rw [g1, hc.1]; have := wr_size vs' ⟨cs'⟩ n; simpa using this.symm, fun k v v' h1 h2 => ?_⟩
  rw [g3] at h1
  rw [Array.getElem?_toList, wr_get vs' ⟨cs'⟩ n (by rw [← hv.1]; show _ ≤ cs'.length; rw [← hc.1]; exact hn)] at h2
  rw [← hv.1] at h2
  split at h1
  · rename_i hk
    rw [if_pos hk] at h2
    exact hv.2 _ _ _ h1 h2
  · rename_i hk
    rw [if_neg hk] at h2
    exact hc.2 _ _ _ h1 (by simpa using h2)

theorem foldl_wr : ∀ (vs : List Value) (k : Nat) (off : Nat) (arr : Array Value), (vs.zipIdx k).foldl (fun cs (p : Value × Nat) => cs.setIfInBounds (off + p.2) p.1) arr = wr arr (off + k) vs
  | [], _, _, _ => rfl
  | v :: vs, k, off, arr => by
    simp only [List.zipIdx_cons, List.foldl_cons, wr]
    exact foldl_wr vs (k + 1) off _

theorem foldl_wr_array (v : Array Value) (off : Nat) (arr : Array Value) : v.zipIdx.foldl (fun cs (p : Value × Nat) => cs.setIfInBounds (off + p.2) p.1) arr = wr arr off v.toList := by
  rw [← Array.foldl_toList, Array.toList_zipIdx]
  exact foldl_wr v.toList 0 off arr

def PRel (ρ : Ren) : List (Nat × Value) → List (Nat × Value) → Prop
  | [], [] => True
  | (i, v) :: l, (j, v') :: l' => i = j ∧ VRel ρ v v' ∧ PRel ρ l l'
  | _, _ => False

theorem evParts_ok (T : TRel ρ s a) : ∀ {ps : List (Nat × Operand)} {vs : List (Nat × Value)}, evParts s ps = .ok vs → PRel ρ vs (ps.map fun p => (p.1, a.eval p.2))
  | [], vs, h => by cases h; trivial
  | (i, o) :: l, vs, h => by
    obtain ⟨v, hv, h1⟩ := R.b_ok h
    obtain ⟨us, hu, h2⟩ := R.b_ok h1
    cases h2
    exact ⟨rfl, ev_ok T hv, evParts_ok T hu⟩

theorem cellsV_eq (v : Value) : cellsV v = v.cells.toList := by cases v <;> rfl

theorem gFill_ok {pl pl' : Nat → Option (Nat × Nat)} (hp : ∀ i p, pl i = some p → pl' i = some p) : ∀ {vs vs' : List (Nat × Value)} {cs r : List Value} {cs' : List Value}, gFill pl cs vs = .ok r → PRel ρ vs vs' → LRel ρ cs cs' →
    ∃ r', Instr.fill pl' ⟨cs'⟩ vs' = some r' ∧ LRel ρ r r'.toList
  | [], [], cs, r, cs', h, _, hc => by cases h; exact ⟨⟨cs'⟩, rfl, hc⟩
  | [], _ :: _, _, _, _, _, h, _ => h.elim
  | _ :: _, [], _, _, _, _, h, _ => by cases h
  | (i, v) :: l, (j, v') :: l', cs, r, cs', h, hv, hc => by
    obtain ⟨rfl, hv, hl⟩ := hv
    simp only [gFill] at h
    split at h
    · cases h
    · rename_i off size he
      obtain ⟨_, hm, h⟩ := R.b_ok h
      obtain ⟨c, hw, h⟩ := R.b_ok h
      have hm := R.must_ok hm
      simp only [Bool.and_eq_true, Nat.ble_eq] at hm
      have hvc := hv.cells
      have hlen : (cellsV v).length = v'.cells.size := by rw [hvc.1]; simp
      have h1 := LRel.write hc hvc hm.2 hw
      rw [show (wr ⟨cs'⟩ off v'.cells.toList) = ⟨(wr ⟨cs'⟩ off v'.cells.toList).toList⟩ from rfl] at h1
      obtain ⟨r', hr, rr⟩ := gFill_ok hp h hl h1
      refine ⟨r', ?_, rr⟩
      simp only [Instr.fill, hp _ _ he]
      have e1 : v'.cells.size = size := by rw [← hlen]; exact Nat.eq_of_beq_eq_true hm.1
      have e2 : ¬(off + v'.cells.size > cs'.length) := by rw [← hlen, ← hc.1]; omega
      rw [if_neg (by simp only [Bool.or_eq_true, decide_eq_true_eq, not_or]; exact ⟨by simpa using e1, by simpa using e2⟩)]
      rw [foldl_wr_array]
      exact hr

theorem sizes_ok (E : EnvOk P env) (w : World) : ∀ (fs : List Field) {pl : List (Nat × Nat)}, sizes env (fs.map fun f => (f.type, f.offset)) = .ok pl →
    (fs.mapM fun f => (do pure (f.offset, ← sizeOf f.type) : Sem (Nat × Nat))).run P w = .ok pl w
  | [], pl, h => by cases h; rfl
  | f :: fs, pl, h => by
    obtain ⟨i, hi, h1⟩ := R.b_ok h
    obtain ⟨r, hr, h2⟩ := R.b_ok h1
    cases h2
    have ih := sizes_ok E w fs hr
    simp only [List.mapM_cons, Sem.run_bind, (Env.ti_ok E hi).run_size, Result.andThen_ok, Sem.run_pure, ih]

theorem gBuild_ok (E : EnvOk P env) {t : Nat} {vs : List (Nat × Value)} {vs' : Array (Nat × Value)} {v : Value} (h : gBuild env t vs = .ok v) (hv : PRel ρ vs vs'.toList) (w : World) :
    ∃ v', VRel ρ v v' ∧ (Instr.build t vs').run P w = .ok v' w := by
  unfold gBuild at h
  obtain ⟨i, hi, k⟩ := R.b_ok h
  clear h
  have T := Env.ti_ok E hi
  obtain ⟨D, g1, g2, _, _⟩ := T.desc
  split at k
  · rename_i fs e
    rw [e] at g2
    obtain ⟨Fs, rfl, rfl⟩ := tdOf_struct g2.symm
    obtain ⟨pl, hpl, k⟩ := R.b_ok k
    obtain ⟨z, hz, k⟩ := R.b_ok k
    obtain ⟨c, hc, k⟩ := R.b_ok k
    cases k
    obtain ⟨zv, z1, z2, z3, _, _⟩ := T.run_zero (R.of_ok hz) w
    obtain ⟨r', hr, rr⟩ := gFill_ok (pl' := fun k => (pl.toArray)[k]?) (fun i p h => by simpa using h) hc hv (LRel.lits (ρ := ρ) z3)
    refine ⟨.agg r', by cases r'; exact .agg_of rr, ?_⟩
    have hp := sizes_ok E w Fs.toList hpl
    simp only [Instr.build, Sem.run_bind, z1, Result.andThen_ok, run_und g1, z2]
    rw [Array.mapM_eq_mapM_toList, Sem.run_map, hp]
    simp only [Result.andThen_ok]
    rw [hr]
    rfl
  · rename_i n el e
    rw [e] at g2
    cases tdOf_array g2.symm
    obtain ⟨j, hj, k⟩ := R.b_ok k
    obtain ⟨z, hz, k⟩ := R.b_ok k
    obtain ⟨c, hc, k⟩ := R.b_ok k
    cases k
    obtain ⟨zv, z1, z2, z3, _, _⟩ := T.run_zero (R.of_ok hz) w
    obtain ⟨r', hr, rr⟩ := gFill_ok (pl' := fun k => some (k * j.size, j.size)) (fun i p h => h) hc hv (LRel.lits (ρ := ρ) z3)
    refine ⟨.agg r', by cases r'; exact .agg_of rr, ?_⟩
    simp only [Instr.build, Sem.run_bind, z1, Result.andThen_ok, run_und g1, z2, (Env.ti_ok E hj).run_size, hr]
    rfl
  · cases k

end
end Go.G

/- G against the model: maps' keys. -/
namespace Go.G

section
variable {P : Program} {env : Env} {ρ : Ren} {s : Tmps} {a : Act}

theorem checkKey_basic {empty : Bool} {n t : Nat} {v : Value} {d : TypeDesc} (hu : P.underlying t = some d) (hb : basicTD (tdOf d) = true) (w : World) :
    (Instr.checkKey empty (n + 1) t v).run P w = .ok () w := by
  unfold Instr.checkKey
  rw [Sem.run_bind, run_und hu, Result.andThen_ok]
  cases d <;> first | (cases hb; done) | rfl

theorem keyFields_ok (E : EnvOk P env) {empty : Bool} {n : Nat} {cs cs' : List Value} (hc : LRel ρ cs cs') (w : World) : ∀ (fs : List Field) {u : Unit}, keyFields env cs (fs.map fun f => (f.type, f.offset)) = .ok u →
    Sem.run P (do
      for f in fs do
        if f.name ≠ "_" then Instr.checkKey empty (n + 1) f.type (← part f.type ⟨cs'⟩ f.offset)) w = .ok () w
  | [], _, _ => by simp
  | f :: fs, u, h => by
    simp only [List.map_cons, keyFields] at h
    obtain ⟨j, hj, h⟩ := R.b_ok h
    obtain ⟨_, hb, h⟩ := R.b_ok h
    obtain ⟨v, hv, h⟩ := R.b_ok h
    obtain ⟨v', _, hp⟩ := partV_ok E hv hc
    obtain ⟨D, g1, g2, _, _⟩ := (Env.ti_ok E hj).desc
    have ih := keyFields_ok E hc (empty := empty) (n := n) w fs h
    have hk : (Instr.checkKey empty (n + 1) f.type v').run P w = .ok () w := checkKey_basic g1 (by rw [← g2]; exact R.must_ok hb) w
    by_cases hn : f.name = "_"
    · simp only [List.forIn_cons, hn, ne_eq, not_true_eq_false, if_false, pure_bind] at ih ⊢
      simpa using ih
    · simp only [List.forIn_cons, hn, ne_eq, not_false_eq_true, if_true, pure_bind, bind_assoc, Sem.run_bind, hp, hk, Result.andThen_ok] at ih ⊢
      simpa using ih

theorem keyCheck_ok (E : EnvOk P env) {empty : Bool} {kt : Nat} {k k' : Value} {u : Unit} (h : keyCheck env kt k = .ok u) (hk : VRel ρ k k') (w : World) :
    (Instr.checkKey empty 10000 kt k').run P w = .ok () w := by
  unfold keyCheck at h
  obtain ⟨i, hi, q⟩ := R.b_ok h
  clear h
  obtain ⟨D, g1, g2, _, _⟩ := (Env.ti_ok E hi).desc
  split at q
  · rename_i e; rw [e] at g2; exact checkKey_basic g1 (by rw [← g2]; rfl) w
  · rename_i e; rw [e] at g2; exact checkKey_basic g1 (by rw [← g2]; rfl) w
  · rename_i e; rw [e] at g2; exact checkKey_basic g1 (by rw [← g2]; rfl) w
  · rename_i fs cs e
    rw [e] at g2
    obtain ⟨Fs, rfl, rfl⟩ := tdOf_struct g2.symm
    obtain ⟨_, _, q⟩ := R.b_ok q
    cases cs with | mk cs =>
    obtain ⟨cs', rfl, rc⟩ := hk.agg_inv
    have hf := keyFields_ok E (empty := empty) (n := 9998) rc w Fs.toList q
    show (Instr.checkKey empty (9999 + 1) kt _).run P w = _
    unfold Instr.checkKey
    rw [Sem.run_bind, run_und g1, Result.andThen_ok]
    simpa using hf
  · cases q

/-- What a search says: its place, and the value. -/
def FRel (ρ : Ren) : Option (Nat × Value) → Option (Nat × Value) → Prop
  | none, none => True
  | some (i, v), some (j, v') => i = j ∧ VRel ρ v v'
  | _, _ => False

theorem EsRel.cons_inv {e : MapEntry} {es zs : List MapEntry} (h : EsRel ρ (e :: es) zs) : ∃ e' es', zs = e' :: es' ∧ ERel ρ e e' ∧ EsRel ρ es es' := by
  cases zs with
  | nil => exact absurd h.1 (by simp)
  | cons e' es' => exact ⟨e', es', rfl, h.2 0 e e' rfl rfl, ⟨by simpa using h.1, fun i x y hx hy => h.2 (i + 1) x y (by simpa using hx) (by simpa using hy)⟩⟩

theorem EsRel.nil_inv {zs : List MapEntry} (h : EsRel ρ [] zs) : zs = [] := by
  cases zs with
  | nil => rfl
  | cons _ _ => exact absurd h.1 (by simp)

theorem asking_ok (E : EnvOk P env) {kt : Nat} {k k' : Value} (hk : VRel ρ k k') (w : World) : ∀ {es es' : List MapEntry} {i : Nat} {r : Option (Nat × Value)}, findKey env kt k es i = .ok r → EsRel ρ es es' →
    ∃ r', FRel ρ r r' ∧ (Instr.findAsking kt k' es' i).run P w = .ok r' w
  | [], es', i, r, h, he => by cases he.nil_inv; cases h; exact ⟨none, trivial, rfl⟩
  | e :: es, es', i, r, h, he => by
    obtain ⟨e', l, rfl, r1, r2⟩ := he.cons_inv
    simp only [findKey] at h
    obtain ⟨q, hq, h⟩ := R.b_ok h
    have hrun := equal_ok E hq hk r1.key w
    rcases cond_ok h with ⟨c, h⟩ | ⟨c, h⟩
    · subst c
      cases h
      exact ⟨some (i, e'.val), ⟨rfl, r1.val⟩, by simp [Instr.findAsking, hrun]⟩
    · subst c
      obtain ⟨r', f1, f2⟩ := asking_ok E hk w h r2
      exact ⟨r', f1, by simp [Instr.findAsking, hrun, f2]⟩

theorem sameNow_ok (E : EnvOk P env) {kt : Nat} {D : TypeDesc} (hu : P.underlying kt = some D) {x y x' y' : Value} {q b : Bool} (h : gEq env 20 kt x y = .ok q) (hx : VRel ρ x x') (hy : VRel ρ y y')
    (hs : Instr.sameNow D x' y' = some b) : b = q := by
  have h : eqStep env (gEq env 19) kt x y = .ok q := h
  simp only [eqStep] at h
  obtain ⟨i, hi, k⟩ := R.b_ok h
  clear h
  obtain ⟨D', g1, g2, _, _⟩ := (Env.ti_ok E hi).desc
  rw [hu] at g1; cases g1
  unfold Instr.sameNow at hs
  split at hs
  · split at hs
    · cases hs
      cases hx; cases hy
      rw [g2] at k
      simp only [tdOf] at k
      rcases cond_ok k with ⟨_, k⟩ | ⟨_, k⟩
      · cases k; rfl
      · cases k
    · cases hs
  · cases hs
    cases hx; cases hy
    rw [g2] at k
    cases k
    exact toList_inj.symm
  · cases hs
    cases hx; cases hy
    rw [g2] at k
    cases k
    rfl
  · cases hs

theorem now_ok (E : EnvOk P env) {kt : Nat} {D : TypeDesc} (hu : P.underlying kt = some D) {k k' : Value} (hk : VRel ρ k k') : ∀ {es es' : List MapEntry} {i : Nat} {r : Option (Nat × Value)} {r' : Option (Nat × Value)},
    findKey env kt k es i = .ok r → EsRel ρ es es' → Instr.findNow D k' es' i = some r' → FRel ρ r r'
  | [], es', i, r, r', h, he, hf => by cases he.nil_inv; cases h; cases hf; trivial
  | e :: es, es', i, r, r', h, he, hf => by
    obtain ⟨e', l, rfl, r1, r2⟩ := he.cons_inv
    simp only [findKey] at h
    obtain ⟨q, hq, h⟩ := R.b_ok h
    simp only [Instr.findNow] at hf
    split at hf
    · rename_i hs
      have := sameNow_ok E hu hq hk r1.key hs
      subst this
      cases h
      cases hf
      exact ⟨rfl, r1.val⟩
    · rename_i hs
      have := sameNow_ok E hu hq hk r1.key hs
      subst this
      exact now_ok E hu hk h r2 hf
    · cases hf

theorem findKey_ok (E : EnvOk P env) {kt : Nat} {k k' : Value} {es es' : List MapEntry} {r : Option (Nat × Value)} {D : TypeDesc} (hu : P.underlying kt = some D) (h : findKey env kt k es 0 = .ok r) (hk : VRel ρ k k') (he : EsRel ρ es es') (w : World) :
    ∃ r', FRel ρ r r' ∧ (Instr.findKey kt k' es').run P w = .ok r' w := by
  unfold Instr.findKey
  rw [Sem.run_bind, run_und hu, Result.andThen_ok]
  cases hf : Instr.findNow D k' es' 0 with
  | some r' => exact ⟨r', now_ok E hu hk h he hf, rfl⟩
  | none => exact asking_ok E hk w h he

theorem keyCheck_und (E : EnvOk P env) {kt : Nat} {k : Value} {u : Unit} (h : keyCheck env kt k = .ok u) : ∃ D, P.underlying kt = some D := by
  unfold keyCheck at h
  obtain ⟨i, hi, _⟩ := R.b_ok h
  obtain ⟨D, g1, _⟩ := (Env.ti_ok E hi).desc
  exact ⟨D, g1⟩

theorem valOf_ok {t : Nat} {i : TI} (T : TiOk P t i) {v : Value} (h : valOf i = .ok v) (w : World) : VRel ρ v v ∧ (zeroValue t).run P w = .ok v w := by
  unfold valOf at h
  obtain ⟨z, hz, h1⟩ := R.b_ok h
  obtain ⟨v', z1, _, z3, z4, z5⟩ := T.run_zero (R.of_ok hz) w
  rcases cond_ok h1 with ⟨e, h2⟩ | ⟨e, h2⟩
  · cases h2
    rw [z4 e] at z1
    exact ⟨.agg_of (LRel.lits z3), z1⟩
  · obtain ⟨rfl, hl⟩ := z5 e
    cases h2
    exact ⟨.lit hl, z1⟩

end
end Go.G

/- G against the model: the quiet operations. -/
namespace Go.G

section
variable {P : Program} {env : Env} {ρ : Ren} {s : Tmps} {a : Act}

theorem run_v {x : Sem Value} {v : Value} {w w' : World} (h : x.run P w = .ok v w') : (do pure (Next.value (← x)) : Sem Next).run P w = .ok (.value v) w' := by
  rw [Sem.run_bind, h]; rfl

theorem bytesOf_ok : ∀ {cs cs' : List Value} {bs : List UInt8}, bytesOf cs = .ok bs → LRel ρ cs cs' → ∃ ns : List Int, cs = ns.map (.int .u8) ∧ cs' = cs ∧ bs = ns.map fun n => UInt8.ofNat n.toNat
  | [], cs', bs, h, hc => by cases h; cases hc.nil_inv; exact ⟨[], rfl, rfl, rfl⟩
  | v :: cs, cs', bs, h, hc => by
    obtain ⟨v', ys, rfl, r1, r2⟩ := hc.cons_inv
    cases v with
    | int k n =>
      cases k with
      | u8 =>
        obtain ⟨r, hr, h1⟩ := R.b_ok (show (bytesOf cs).b _ = .ok bs from h)
        cases h1
        cases r1
        obtain ⟨ns, e1, e2, e3⟩ := bytesOf_ok hr r2
        subst e1; subst e2; subst e3
        exact ⟨n :: ns, rfl, rfl, rfl⟩
      | _ => cases h
    | _ => cases h

theorem fold_push : ∀ (ns : List Int) (b : ByteArray), (ns.map fun n => UInt8.ofNat n.toNat).foldl ByteArray.push b = ⟨⟨b.data.toList ++ ns.map fun n => UInt8.ofNat n.toNat⟩⟩
  | [], b => by simp
  | n :: ns, b => by
    simp only [List.map_cons, List.foldl_cons]
    rw [fold_push ns]
    congr 2
    simp

theorem bytesToString_run {w : World} {x : Addr} {n c : Nat} {ns : List Int} (hl : (loadCells x n).run P w = .ok ⟨ns.map (.int .u8)⟩ w) :
    (Conv.bytesToString (.slice (some x) n c)).run P w = .ok (.string ⟨⟨ns.map fun n => UInt8.ofNat n.toNat⟩⟩) w := by
  have key : ∀ (ns : List Int) (b : ByteArray), (forIn (ns.map (Value.int .u8)) b fun c r => (do
      let .int .u8 n := c | stuck "bytesToString byte expected"
      pure (ForInStep.yield (r.push (UInt8.ofNat n.toNat))) : Sem (ForInStep ByteArray))).run P w = .ok ((ns.map fun n => UInt8.ofNat n.toNat).foldl ByteArray.push b) w := by
    intro ns
    induction ns with
    | nil => intro b; simp
    | cons n ns ih => intro b; simp only [List.map_cons, List.forIn_cons, Sem.run_bind, Sem.run_pure, Result.andThen_ok, List.foldl_cons]; exact ih _
  have h := key ns ByteArray.empty
  rw [fold_push] at h
  simp only [Conv.bytesToString, Sem.run_bind, hl, Result.andThen_ok]
  simpa using h

theorem min2_ok {x y v x' y' : Value} (h : min2 x y = .ok v) (hx : VRel ρ x x') (hy : VRel ρ y y') (w : World) : (Builtin.min2 x' y').run P w = .ok v w ∧ VRel ρ v v := by
  unfold min2 at h
  split at h
  · cases hx; cases hy
    rcases cond_ok h with ⟨e, h⟩ | ⟨_, h⟩
    · cases h; exact ⟨rfl, .int _ _⟩
    · cases h
  · cases h

theorem max2_ok {x y v x' y' : Value} (h : max2 x y = .ok v) (hx : VRel ρ x x') (hy : VRel ρ y y') (w : World) : (Builtin.max2 x' y').run P w = .ok v w ∧ VRel ρ v v := by
  unfold max2 at h
  split at h
  · cases hx; cases hy
    rcases cond_ok h with ⟨e, h⟩ | ⟨_, h⟩
    · cases h; exact ⟨rfl, .int _ _⟩
    · cases h
  · cases h

theorem foldR_ok {f : Value → Value → R Value} {g : Value → Value → Sem Value} {w : World} (hfg : ∀ x y v x' y', f x y = .ok v → VRel ρ x x' → VRel ρ y y' → (g x' y').run P w = .ok v w ∧ VRel ρ v v) :
    ∀ {l l' : List Value} {x x' v : Value}, foldR f x l = .ok v → VRel ρ x x' → LRel ρ l l' → ∃ v', VRel ρ v v' ∧ (l'.foldlM g x').run P w = .ok v' w
  | [], l', x, x', v, h, hx, hl => by cases hl.nil_inv; cases h; exact ⟨x', hx, rfl⟩
  | y :: l, l', x, x', v, h, hx, hl => by
    obtain ⟨y', ys, rfl, r1, r2⟩ := hl.cons_inv
    obtain ⟨z, hz, h1⟩ := R.b_ok h
    obtain ⟨g1, g2⟩ := hfg _ _ _ _ _ hz hx r1
    obtain ⟨v', q1, q2⟩ := foldR_ok hfg h1 g2 r2
    exact ⟨v', q1, by simp only [List.foldlM_cons, Sem.run_bind, g1, Result.andThen_ok]; exact q2⟩

theorem find_rel {es es' : List MapEntry} {st : Nat} {e : MapEntry} (h : es.find? (fun e => Nat.beq e.born st) = some e) (he : EsRel ρ es es') : ∃ e', es'.find? (fun e => e.born == st) = some e' ∧ ERel ρ e e' := by
  induction es generalizing es' with
  | nil => cases h
  | cons x es ih =>
    obtain ⟨x', l, rfl, r1, r2⟩ := he.cons_inv
    rw [List.find?_cons] at h ⊢
    have hb : Nat.beq x.born st = (x'.born == st) := by rw [r1.born, Bool.eq_iff_iff, Nat.beq_eq, beq_iff_eq]
    rw [← hb]
    cases hc : Nat.beq x.born st with
    | true => rw [hc] at h; cases h; exact ⟨x', rfl, r1⟩
    | false => rw [hc] at h; exact ih h r2

end
end Go.G
