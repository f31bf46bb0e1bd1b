/-
  An evaluator of the model's programs over an abstract heap, and its soundness: part Ev1.
-/
import Derived.Calls
import Derived.Below
import Derived.Laws.Sem
import Derived.Laws.Entries
import Derived.Laws.Tables
import Derived.ChangeKeysEq
import Derived.Laws.StructEq
/-
  An abstract machine over an abstract heap: definitions.
-/
namespace Go.Ev

/-! ## A trie keyed by numbers -/
inductive Tr (α : Type) where
  | leaf
  | node (l : Tr α) (v : Option α) (r : Tr α)
namespace Tr
variable {α : Type}
def get : Tr α → Nat → Option α
  | .leaf, _ => none
  | .node l v r, n => bif Nat.beq n 0 then v else bif Nat.beq (Nat.mod n 2) 1 then l.get (Nat.div n 2) else r.get (Nat.sub (Nat.div n 2) 1)
def single (x : Option α) : Nat → Nat → Tr α
  | 0, _ => .leaf
  | f + 1, n => bif Nat.beq n 0 then .node .leaf x .leaf
    else bif Nat.beq (Nat.mod n 2) 1 then .node (single x f (Nat.div n 2)) none .leaf
    else .node .leaf none (single x f (Nat.sub (Nat.div n 2) 1))
def set (x : Option α) : Tr α → Nat → Tr α
  | .leaf, n => single x (n + 1) n
  | .node l v r, n => bif Nat.beq n 0 then .node l x r else bif Nat.beq (Nat.mod n 2) 1 then .node (l.set x (Nat.div n 2)) v r else .node l v (r.set x (Nat.sub (Nat.div n 2) 1))
def ofList : List α → Nat → Tr α → Tr α
  | [], _, t => t
  | x :: xs, i, t => ofList xs (i + 1) (t.set (some x) i)
end Tr

/-! ## Abstract values -/
inductive AV where
  | bool (b : Bool)
  | int (k : IntKind) (n : Int)
  | str (s : List UInt8)
  | ptr (a : Option (Nat × Nat))
  | gptr (g off : Nat)
  | slice (a : Option (Nat × Nat)) (len cap : Nat) (ex : Bool) (es : Nat)
  | map (r : Option Nat)
  | func (f : Fn) (first captured : List AV)
  | yieldF (l : Nat)
  | nilFunc
  | iface (t : TypeId) (v : AV)
  | nilIface
  | agg (cells : List AV)
  | tuple (vs : List AV)
  deriving Inhabited

def mapO {α β : Type} (f : α → Option β) : List α → Option (List β)
  | [] => some []
  | x :: xs => match f x with
    | none => none
    | some y => match mapO f xs with
      | none => none
      | some ys => some (y :: ys)

def listBeq {α : Type} (f : α → α → Bool) : List α → List α → Bool
  | [], [] => true
  | x :: xs, y :: ys => bif f x y then listBeq f xs ys else false
  | _, _ => false

def optBeq (a b : Option (Nat × Nat)) : Bool :=
  match a, b with
  | none, none => true
  | some (x, y), some (u, v) => Nat.beq x u && Nat.beq y v
  | _, _ => false
/-- Equality of abstract values, to a depth. -/
def AV.beq : Nat → AV → AV → Bool
  | 0, _, _ => false
  | _ + 1, .bool a, .bool b => a == b
  | _ + 1, .int k a, .int l b => decide (k = l) && decide (a = b)
  | _ + 1, .str a, .str b => decide (a = b)
  | _ + 1, .ptr a, .ptr b => optBeq a b
  | _ + 1, .gptr a b, .gptr c d => Nat.beq a c && Nat.beq b d
  | _ + 1, .slice a l c e s, .slice a' l' c' e' s' => optBeq a a' && Nat.beq l l' && Nat.beq c c' && (e == e') && Nat.beq s s'
  | _ + 1, .map none, .map none => true
  | _ + 1, .map (some a), .map (some b) => Nat.beq a b
  | n + 1, .func f a b, .func g c d => decide (f = g) && listBeq (AV.beq n) a c && listBeq (AV.beq n) b d
  | _ + 1, .yieldF a, .yieldF b => Nat.beq a b
  | _ + 1, .nilFunc, .nilFunc => true
  | n + 1, .iface t v, .iface u w => Nat.beq t u && AV.beq n v w
  | _ + 1, .nilIface, .nilIface => true
  | n + 1, .agg a, .agg b => listBeq (AV.beq n) a b
  | n + 1, .tuple a, .tuple b => listBeq (AV.beq n) a b
  | _, _, _ => false

def ofConst : Nat → Value → Option AV
  | 0, _ => none
  | _ + 1, .bool b => some (.bool b)
  | _ + 1, .int k n => some (.int k n)
  | _ + 1, .string s => some (.str s.data.toList)
  | _ + 1, .pointer none => some (.ptr none)
  | _ + 1, .slice none 0 0 => some (.slice none 0 0 true 0)
  | _ + 1, .map none => some (.map none)
  | _ + 1, .nilFunc => some .nilFunc
  | _ + 1, .nilIface => some .nilIface
  | n + 1, .agg cs => match mapO (ofConst n) cs.toList with | some l => some (.agg l) | none => none
  | n + 1, .tuple cs => match mapO (ofConst n) cs.toList with | some l => some (.tuple l) | none => none
  | _, _ => none
def constDepth : Nat := 32

/-! ## Abstract memory -/
inductive AObj where
  | cells (c : List AV) (elem : TypeId) (fz : Bool)
  | map (es : List (AV × AV × Nat)) (clock : Nat)
  | strIter (s : List UInt8) (pos : Nat)
  | mapIter (m : Nat) (since : Nat) (seen : List Nat) (stepped : Nat)
  | loop (st : LoopState) (pending : Option Code) (fn : FuncId) (nt : Nat) (tmps : Tr AV) (params : Array Tmp) (assign body : Code) (defers : Nat)
  | deferred (some : Bool)
structure AH where
  t : Tr AObj
  n : Nat
  /-- package-level variables that are read and never written: their cells -/
  gl : Tr (List AV)
  /-- blocks that stand for whole ones -/
  z : Tr Bool
def AH.get (H : AH) (i : Nat) : Option AObj := H.t.get i
def AH.put (H : AH) (i : Nat) (o : AObj) : AH := { H with t := H.t.set (some o) i }
def AH.kill (H : AH) (i : Nat) : AH := { H with t := H.t.set none i }
/-- The next block. -/
def AH.new (H : AH) (o : AObj) : AH := { H with t := H.t.set (some o) H.n, n := H.n + 1 }

def AH.whole (H : AH) (i : Nat) : Bool := match H.z.get i with | some b => b | none => false
def AH.newA (H : AH) (o : AObj) : AH := { H with t := H.t.set (some o) H.n, n := H.n + 1, z := H.z.set (some true) H.n }
def AH.putA (H : AH) (i : Nat) (o : AObj) : AH := { H with t := H.t.set (some o) i, z := H.z.set (some true) i }

/-! ## The context: the program and its tables -/
structure Ctx where
  P : Program
  tt : Tr TypeInfo
  ft : Tr Func
  /-- functions whose answer is given by a contract of its own -/
  ov : FuncId → Option (List AV → AH → Option (AV × AH))

variable (C : Ctx)
def ti (t : TypeId) : Option TypeInfo := C.tt.get t
def und (t : TypeId) : Option TypeDesc :=
  match C.tt.get t with
  | some i => match i.desc with
    | .named _ u => match C.tt.get u with | some j => some j.desc | none => none
    | d => some d
  | none => none
def sizeT (t : TypeId) : Option Nat := match C.tt.get t with | some i => some i.size | none => none
def zeroV (t : TypeId) : Option AV :=
  match C.tt.get t with
  | some i => match i.zero with | some v => ofConst constDepth v | none => none
  | none => none
def isAggD : TypeDesc → Bool
  | .struct _ | .array _ _ => true
  | _ => false
def AV.cells : AV → List AV
  | .agg cs => cs
  | v => [v]
def AV.one : AV → Bool
  | .agg _ | .tuple _ => false
  | _ => true
def undefA : AV := .tuple []

/-- n elements from off on; none if there are not so many. -/
def sub {α : Type} (l : List α) (off n : Nat) : Option (List α) :=
  let r := (l.drop off).take n
  bif Nat.beq r.length n then some r else none
/-- l with xs written from off on; none if they don't fit. -/
def over {α : Type} (l : List α) (off : Nat) (xs : List α) : Option (List α) :=
  bif Nat.ble (off + xs.length) l.length then some (l.take off ++ (xs ++ l.drop (off + xs.length))) else none

def loadC (c : List AV) (t : TypeId) (off : Nat) : Option AV :=
  match und C t with
  | some d =>
    bif isAggD d then
      match sizeT C t with
      | some n => match sub c off n with | some l => some (.agg l) | none => none
      | none => none
    else c[off]?
  | none => none
def loadV (H : AH) (t : TypeId) (id off : Nat) : Option AV :=
  match H.get id with
  | some (.cells c _ _) => loadC C c t off
  | _ => none
def loadG (H : AH) (t : TypeId) (g off : Nat) : Option AV :=
  match H.gl.get g with
  | some c => loadC C c t off
  | none => none

def storeL (H : AH) (id off : Nat) (xs : List AV) : Option AH :=
  match H.get id with
  | some (.cells c e false) =>
    bif xs.all AV.one then match over c off xs with | some c' => some (H.put id (.cells c' e false)) | none => none
    else none
  | _ => none
def storeV (H : AH) (t : TypeId) (id off : Nat) (v : AV) : Option AH :=
  match sizeT C t with
  | some n => bif Nat.beq v.cells.length n then storeL H id off v.cells else none
  | none => none

/-- the wrap of a kind, fast where nothing is to be done -/
def fwrap (k : IntKind) (n : Int) : Int :=
  match k with
  | .i64 => match n with
    | .ofNat m => bif Nat.ble m 9223372036854775807 then n else IntKind.wrap k n
    | .negSucc m => bif Nat.ble m 9223372036854775807 then n else IntKind.wrap k n
  | .u64 => match n with
    | .ofNat m => .ofNat (Nat.mod m 18446744073709551616)
    | _ => IntKind.wrap k n
  | .u32 => match n with
    | .ofNat m => .ofNat (Nat.mod m 4294967296)
    | _ => IntKind.wrap k n
  | .u16 => match n with
    | .ofNat m => .ofNat (Nat.mod m 65536)
    | _ => IntKind.wrap k n
  | .u8 => match n with
    | .ofNat m => .ofNat (Nat.mod m 256)
    | _ => IntKind.wrap k n
  | k => IntKind.wrap k n

def kmax : IntKind → Nat
  | .i8 => 127 | .i16 => 32767 | .i32 => 2147483647 | .i64 => 9223372036854775807
  | .u8 => 255 | .u16 => 65535 | .u32 => 4294967295 | .u64 => 18446744073709551615
def intBitsSlow (op : BinOp) (k : IntKind) (x y : Int) : Option Int :=
  let a := BitVec.ofInt k.bits x
  let b := BitVec.ofInt k.bits y
  match op with
  | .and => some (k.wrap (a &&& b).toNat)
  | .or => some (k.wrap (a ||| b).toNat)
  | .xor => some (k.wrap (a ^^^ b).toNat)
  | .andNot => some (k.wrap (a &&& ~~~b).toNat)
  | _ => none
def intBits (op : BinOp) (k : IntKind) (x y : Int) : Option Int :=
  match x, y with
  | .ofNat a, .ofNat b => bif Nat.ble a (kmax k) && Nat.ble b (kmax k) then
      match op with
      | .and => some (.ofNat (Nat.land a b))
      | .or => some (.ofNat (Nat.lor a b))
      | .xor => some (.ofNat (Nat.xor a b))
      | op => intBitsSlow op k x y
    else intBitsSlow op k x y
  | x, y => intBitsSlow op k x y

def intBin (op : BinOp) (k : IntKind) (x : Int) (yk : IntKind) (y : Int) : Option AV :=
  match op with
  | .shl => match y with
    | .ofNat s => some (.int k (fwrap k (x * Int.ofNat (Nat.pow 2 (Nat.min s k.bits)))))
    | _ => none
  | .shr => match y with
    | .ofNat s => some (.int k (Int.fdiv x (Int.ofNat (Nat.pow 2 (Nat.min s k.bits)))))
    | _ => none
  | op =>
    bif decide (k = yk) then
      match op with
      | .add => some (.int k (fwrap k (x + y)))
      | .sub => some (.int k (fwrap k (x - y)))
      | .mul => some (.int k (fwrap k (x * y)))
      | .quo => bif decide (y = 0) then none else some (.int k (fwrap k (x.tdiv y)))
      | .rem => bif decide (y = 0) then none else some (.int k (x.tmod y))
      | .eql => some (.bool (decide (x = y)))
      | .neq => some (.bool (!decide (x = y)))
      | .lss => some (.bool (decide (x < y)))
      | .leq => some (.bool (decide (x ≤ y)))
      | .gtr => some (.bool (decide (x > y)))
      | .geq => some (.bool (decide (x ≥ y)))
      | op => match intBits op k x y with | some r => some (.int k r) | none => none
    else none

def strBin (op : BinOp) (x y : List UInt8) : Option AV :=
  match op with
  | .add => bif Nat.ble (x.length + y.length) 1000000000 then some (.str (x ++ y)) else none
  | .eql => some (.bool (decide (x = y)))
  | .neq => some (.bool (!decide (x = y)))
  | .lss => some (.bool (Op.bytesLess x y))
  | .leq => some (.bool (Op.bytesLess x y || decide (x = y)))
  | .gtr => some (.bool (!(Op.bytesLess x y || decide (x = y))))
  | .geq => some (.bool (!Op.bytesLess x y))
  | _ => none

/-- a part of an aggregate -/
def part (t : TypeId) (cs : List AV) (off : Nat) : Option AV :=
  match und C t with
  | some d =>
    bif isAggD d then
      match sizeT C t with
      | some n => match sub cs off n with | some l => some (.agg l) | none => none
      | none => none
    else cs[off]?
  | none => none

def eqFields (eq : TypeId → AV → AV → Option Bool) (xs ys : List AV) : List Field → Option Bool
  | [] => some true
  | f :: fs => bif f.name == "_" then eqFields eq xs ys fs else
    match part C f.type xs f.offset, part C f.type ys f.offset with
    | some x, some y => match eq f.type x y with
      | some true => eqFields eq xs ys fs
      | some false => some false
      | none => none
    | _, _ => none
def eqElems (eq : TypeId → AV → AV → Option Bool) (e : TypeId) (n : Nat) (xs ys : List AV) : Nat → Nat → Option Bool
  | 0, _ => some true
  | len + 1, i =>
    match part C e xs (i * n), part C e ys (i * n) with
    | some x, some y => match eq e x y with
      | some true => eqElems eq e n xs ys len (i + 1)
      | some false => some false
      | none => none
    | _, _ => none
/-- Equality of plain values by their type. -/
def aeq : Nat → TypeId → AV → AV → Option Bool
  | 0, _, _, _ => none
  | d + 1, t, x, y =>
    match und C t with
    | none => none
    | some D =>
    match D, x, y with
    | .bool, .bool a, .bool b => some (a == b)
    | .int _, .int k a, .int l b => bif decide (k = l) then some (decide (a = b)) else none
    | .string, .str a, .str b => some (decide (a = b))
    | .pointer _, .ptr none, .ptr b => some b.isNone
    | .pointer _, .ptr _, .ptr none => some false
    | .pointer e, .ptr (some (i, o)), .ptr (some (j, q)) => match sizeT C e with
      | some (_ + 1) => bif Nat.beq i j then some (Nat.beq o q) else none
      | _ => none
    | .slice _, .slice none _ _ _ _, .slice b _ _ _ _ => some b.isNone
    | .slice _, .slice _ _ _ _ _, .slice none _ _ _ _ => some false
    | .map _ _, .map none, .map b => some b.isNone
    | .map _ _, .map _, .map none => some false
    | .func _ _ _, .nilFunc, .nilFunc => some true
    | .func _ _ _, .nilFunc, .func .. => some false
    | .func _ _ _, .func .., .nilFunc => some false
    | .interface _, .nilIface, .nilIface => some true
    | .interface _, .nilIface, .iface _ _ => some false
    | .interface _, .iface _ _, .nilIface => some false
    | .struct fs, .agg xs, .agg ys => bif C.P.stoodInHeld t then none else eqFields C (aeq d) xs ys fs.toList
    | .array len e, .agg xs, .agg ys => match sizeT C e with | some n => eqElems C (aeq d) e n xs ys len 0 | none => none
    | _, _, _ => none
def eqDepth : Nat := 16

end Go.Ev

/-
  An abstract machine over an abstract heap: operations and the machine.
-/
namespace Go.Ev
variable (C : Ctx)

def eval (tm : Tr AV) : Operand → Option AV
  | .tmp t => tm.get t
  | .const v => ofConst constDepth v
  | .func f => some (.func (.func f) [] [])
  | .global g => some (.gptr g 0)

def evalO (tm : Tr AV) : Option Operand → Option (Option AV)
  | none => some none
  | some x => match eval tm x with | some v => some (some v) | none => none

def toI : AV → Option Int
  | .int _ n => some n
  | _ => none
/-- a natural number that an int stands for, at most m -/
def toN (m : Nat) : AV → Option Nat
  | .int _ (.ofNat n) => bif Nat.ble n m then some n else none
  | _ => none

def fillA (place : Nat → Option (Nat × Nat)) (cells : List AV) : List (Nat × AV) → Option (List AV)
  | [] => some cells
  | (i, v) :: rest =>
    match place i with
    | none => none
    | some (off, size) =>
      bif Nat.beq v.cells.length size then
        match over cells off v.cells with | some cs => fillA place cs rest | none => none
      else none

def parts (tm : Tr AV) (ps : Array (Nat × Operand)) : Option (List (Nat × AV)) :=
  mapO (fun (i, x) => match eval tm x with | some v => some (i, v) | none => none) ps.toList

def repl : Nat → List AV → List AV
  | 0, _ => []
  | n + 1, z => z ++ repl n z

/-- lower bound, higher bound, most; high and max default to len and cap -/
def bounds (len cap : Nat) (lo hi mx : Option AV) : Option (Nat × Nat × Nat) :=
  match (match mx with | some v => toN cap v | none => some cap) with
  | none => none
  | some m =>
    match (match hi, mx with | some v, some _ => toN m v | some v, none => toN m v | none, none => some len | none, some _ => none) with
    | none => none
    | some h => match (match lo with | some v => toN h v | none => some 0) with
      | none => none
      | some l => some (l, h, m)

def sliceS (s : List UInt8) (l h : Nat) : List UInt8 := (s.drop l).take (h - l)

/-- the first element of some whose key is k -/
def findA (kt : TypeId) (k : AV) : List (AV × AV × Nat) → Nat → Option (Option (Nat × AV))
  | [], _ => some none
  | (k', v, _) :: es, i => match aeq C eqDepth kt k k' with
    | some true => some (some (i, v))
    | some false => findA kt k es (i + 1)
    | none => none

def ckElems (ck : TypeId → AV → Bool) (e : TypeId) (n : Nat) (xs : List AV) : Nat → Nat → Bool
  | 0, _ => true
  | len + 1, i => match part C e xs (i * n) with | some x => ck e x && ckElems ck e n xs len (i + 1) | none => false
def ckFields (ck : TypeId → AV → Bool) (xs : List AV) : List Field → Bool
  | [] => true
  | f :: fs => bif f.name == "_" then ckFields ck xs fs else match part C f.type xs f.offset with | some x => ck f.type x && ckFields ck xs fs | none => false
/-- a key that can be hashed -/
def ckA : Nat → TypeId → AV → Bool
  | 0, _, _ => false
  | d + 1, t, x =>
    match und C t with
    | none => false
    | some D => match D, x with
      | .array len e, .agg xs => match sizeT C e with | some n => ckElems C (ckA d) e n xs len 0 | none => false
      | .struct fs, .agg xs => ckFields C (ckA d) xs fs.toList
      | .bool, .bool _ => true
      | .int _, .int _ _ => true
      | .string, .str _ => true
      | _, _ => false

def keyPlain : Nat → AV → Bool
  | 0, _ => false
  | _ + 1, .bool _ => true
  | _ + 1, .int _ _ => true
  | _ + 1, .str _ => true
  | n + 1, .agg cs => cs.all (keyPlain n)
  | _, _ => false

def minmax (mx : Bool) : AV → List AV → Option AV
  | x, [] => some x
  | .int k a, .int _ b :: rest => minmax mx (.int k (bif mx then (if b > a then b else a) else (if b < a then b else a))) rest
  | _, _ => none

def entryA (H : AH) (r : Nat) : Option AV :=
  match H.get r with
  | some (.mapIter m _ seen last) => match H.get m, seen.getLast? with
    | some (.map es clock), some stamp => bif Nat.beq clock last then
        match es.find? (fun e => Nat.beq e.2.2 stamp) with
        | some (k, v, _) => some (.tuple [k, v])
        | none => none
      else none
    | _, _ => none
  | _ => none

/-- aggregates of a type that bears interfaces are not compared here -/
def isConst : Operand → Bool
  | .const _ => true
  | _ => false
def eqGuardA (t : TypeId) (a b : Operand) : AV → AV → Bool
  | .agg _, .agg _ => C.P.eqGuardType C.P.depth t
  | .nilIface, .nilIface => !(isConst a || isConst b)
  | _, _ => false

/-- operations that write nothing and make nothing -/
def apure (tm : Tr AV) (H : AH) (o : Oper) : Option AV :=
  match o.op with
  | .move x | .assign x => eval tm x
  | .pick c a b => match eval tm c with
    | some (.bool t) => bif t then eval tm a else eval tm b
    | _ => none
  | .load t a => match eval tm a with
    | some (.ptr (some (id, off))) => loadV C H t id off
    | some (.gptr g off) => loadG C H t g off
    | _ => none
  | .nilCheck x => match eval tm x with
    | some (.ptr (some a)) => some (.ptr (some a))
    | some (.gptr g off) => some (.gptr g off)
    | some (.func (.func f) a b) => some (.func (.func f) a b)
    | some (.yieldF l) => some (.yieldF l)
    | some (.slice a l c e s) => some (.slice a l c e s)
    | some (.map r) => some (.map r)
    | _ => none
  | .binOp op t x y _ => match eval tm x, eval tm y with
    | some (.int k a), some (.int l b) => intBin op k a l b
    | some (.str a), some (.str b) => strBin op a b
    | some a, some b => bif eqGuardA C t x y a b then none else match op with
      | .eql => match aeq C eqDepth t a b with | some r => some (.bool r) | none => none
      | .neq => match aeq C eqDepth t a b with | some r => some (.bool (!r)) | none => none
      | _ => none
    | _, _ => none
  | .unOp op _ x => match op, eval tm x with
    | .neg, some (.int k n) => some (.int k (fwrap k (0 - n)))
    | .xor, some (.int k n) => match intBits .xor k (if k.signed then -1 else k.max) n with | some r => some (.int k r) | none => none
    | .not, some (.bool b) => some (.bool (!b))
    | _, _ => none
  | .convert src dst x => match und C src, und C dst, eval tm x with
    | some _, some (.int k), some (.int _ n) => some (.int k (fwrap k n))
    | some _, some .string, some (.str s) => some (.str s)
    | some (.pointer t), some .unsafePointer, some (.ptr (some (id, off))) => match sizeT C t, H.get id with
      | some (_ + 1), some (.cells c _ _) => bif Nat.blt off c.length then some (.ptr (some (id, off))) else none
      | _, _ => none
    | some .unsafePointer, some (.pointer u), some (.ptr (some (id, off))) => match sizeT C u, H.get id with
      | some (s + 1), some (.cells c e _) => bif Nat.beq u e && H.whole id && Nat.beq (Nat.mod off (s + 1)) 0 && Nat.ble (off + (s + 1)) c.length then some (.ptr (some (id, off))) else none
      | _, _ => none
    | some (.slice e), some .string, some (.slice none _ _ _ _) => match und C e with
      | some (.int .u8) => some (.str [])
      | _ => none
    | some (.slice e), some .string, some (.slice (some (id, off)) len _ _ _) => match und C e, H.get id with
      | some (.int .u8), some (.cells c _ _) => match sub c off len with
        | some l => match mapO (fun | .int .u8 (.ofNat n) => (some (UInt8.ofNat n) : Option UInt8) | _ => none) l with
          | some bs => some (.str bs)
          | none => none
        | none => none
      | _, _ => none
    | _, _, _ => none
  | .makeInterface t x => match und C t, eval tm x with
    | some (.interface _), _ => none
    | some _, some v => some (.iface t v)
    | _, _ => none
  | .makeFunc fn first captured => match fn, mapO (eval tm) first.toList, mapO (eval tm) captured.toList with
    | .yield _, _, _ => none
    | fn, some a, some b => some (.func fn a b)
    | _, _, _ => none
  | .slice t x lo hi mx =>
    match und C t, eval tm x, evalO tm lo, evalO tm hi, evalO tm mx with
    | some .string, some (.str s), some lo, some hi, some none =>
      match bounds s.length s.length lo hi none with
      | some (l, h, _) => some (.str (sliceS s l h))
      | none => none
    | some (.slice e), some (.slice a len cap ex es), some lo, some hi, some mx =>
      match sizeT C e, bounds len cap lo hi mx with
      | some n, some (l, h, m) =>
        match a with
        | none => some (.slice none (h - l) (m - l) true 0)
        | some (id, off) => bif Nat.beq n es then some (.slice (some (id, off + l * n)) (h - l) (m - l) (ex || mx.isSome) es) else none
      | _, _ => none
    | some (.array k e), some (.ptr (some (id, off))), some lo, some hi, some mx =>
      match sizeT C e, bounds k k lo hi mx with
      | some n, some (l, h, m) => some (.slice (some (id, off + l * n)) (h - l) (m - l) true n)
      | _, _ => none
    | _, _, _, _, _ => none
  | .fieldAddr s x f => match und C s, eval tm x with
    | some (.struct fs), some (.ptr (some (id, off))) => match fs.toList[f]? with
      | some fd => match sizeT C fd.type with
        | some (_ + 1) => some (.ptr (some (id, off + fd.offset)))
        | _ => none
      | none => none
    | some (.struct fs), some (.gptr g off) => match fs.toList[f]? with
      | some fd => match sizeT C fd.type with
        | some (_ + 1) => some (.gptr g (off + fd.offset))
        | _ => none
      | none => none
    | _, _ => none
  | .field t x f => match und C t, eval tm x with
    | some (.struct fs), some (.agg cs) => match fs.toList[f]? with
      | some fd => part C fd.type cs fd.offset
      | none => none
    | _, _ => none
  | .indexAddr t x i => match und C t, eval tm x, eval tm i with
    | some (.array len e), some (.ptr (some (id, off))), some (.int _ (.ofNat k)) =>
      match sizeT C e with
      | some n => bif Nat.blt k len then some (.ptr (some (id, off + k * n))) else none
      | none => none
    | some (.array len e), some (.gptr g off), some (.int _ (.ofNat k)) =>
      match sizeT C e with
      | some n => bif Nat.blt k len then some (.gptr g (off + k * n)) else none
      | none => none
    | some (.slice e), some (.slice (some (id, off)) len _ _ _), some (.int _ (.ofNat k)) =>
      match sizeT C e with
      | some n => bif Nat.blt k len then some (.ptr (some (id, off + k * n))) else none
      | none => none
    | _, _, _ => none
  | .index t x i => match und C t, eval tm x, eval tm i with
    | some (.array len e), some (.agg cs), some (.int _ (.ofNat k)) =>
      match sizeT C e with
      | some n => bif Nat.blt k len then part C e cs (k * n) else none
      | none => none
    | some .string, some (.str s), some (.int _ (.ofNat k)) => match s[k]? with
      | some b => some (.int .u8 (.ofNat b.toNat))
      | none => none
    | _, _, _ => none
  | .lookup t x i ok => match und C t, eval tm x, eval tm i with
    | some (.map kt et), some (.map r), some k =>
      match (match r with | none => some [] | some r => match H.get r with | some (.map es _) => some es | _ => none) with
      | none => none
      | some es =>
        bif ckA C eqDepth kt k then
          match findA C kt k es 0 with
          | some (some (_, v)) => some (bif ok then .tuple [v, .bool true] else v)
          | some none => match zeroV C et with | some z => some (bif ok then .tuple [z, .bool false] else z) | none => none
          | none => none
        else none
    | _, _, _ => none
  | .entry it => match eval tm it with
    | some (.ptr (some (r, 0))) => entryA H r
    | _ => none
  | .extract x i => match eval tm x with
    | some (.tuple vs) => vs[i]?
    | _ => none
  | .build t ps => match zeroV C t, und C t, parts tm ps with
    | some z, some (.struct fs), some ps =>
      match mapO (fun f : Field => match sizeT C f.type with | some n => some (f.offset, n) | none => none) fs.toList with
      | some places => match fillA (fun i => places[i]?) z.cells ps with | some cs => some (.agg cs) | none => none
      | none => none
    | some z, some (.array _ e), some ps => match sizeT C e with
      | some n => match fillA (fun i => some (i * n, n)) z.cells ps with | some cs => some (.agg cs) | none => none
      | none => none
    | _, _, _ => none
  | .call { callee := .builtin b, args, argTypes } =>
    match mapO (eval tm) args.toList with
    | some (x :: xs) => match b with
      | .len => match argTypes.toList with
        | t :: _ => match und C t, x with
          | some .string, .str s => some (.int .i64 (.ofNat s.length))
          | some (.array n _), _ => some (.int .i64 (.ofNat n))
          | some (.slice _), .slice _ n _ _ _ => some (.int .i64 (.ofNat n))
          | some (.map _ _), .map none => some (.int .i64 0)
          | some (.map _ _), .map (some r) => match H.get r with | some (.map es _) => some (.int .i64 (.ofNat es.length)) | _ => none
          | _, _ => none
        | [] => none
      | .cap => match argTypes.toList with
        | t :: _ => match und C t, x with
          | some (.slice _), .slice _ _ n true _ => some (.int .i64 (.ofNat n))
          | some (.array n _), _ => some (.int .i64 (.ofNat n))
          | _, _ => none
        | [] => none
      | .min => minmax false x xs
      | .max => minmax true x xs
      | _ => none
    | _ => none
  | _ => none

/-- operations that make one block and do nothing else: the block, and the value, by the block's number -/
def aalloc (tm : Tr AV) (o : Oper) : Option (AObj × (Nat → AV)) :=
  match o.op with
  | .alloc t => match zeroV C t with
    | some z => bif z.cells.all AV.one then some (.cells z.cells t false, fun id => .ptr (some (id, 0))) else none
    | none => none
  | .box t x => match eval tm x with
    | some v => bif v.cells.all AV.one then some (.cells v.cells t false, fun id => .ptr (some (id, 0))) else none
    | none => none
  | .buildSlice t len ps => match und C t, parts tm ps with
    | some (.slice e), some ps => match sizeT C e, zeroV C e with
      | some n, some z =>
        bif Nat.ble (len * n) 100000 && Nat.beq z.cells.length n then
          match fillA (fun i => some (i * n, n)) (repl len z.cells) ps with
          | some cs => bif cs.all AV.one then some (.cells cs e false, fun id => .slice (some (id, 0)) len len true n) else none
          | none => none
        else none
      | _, _ => none
    | _, _ => none
  | .makeSlice t l c => match und C t, eval tm l, eval tm c with
    | some (.slice e), some (.int _ (.ofNat l)), some (.int _ (.ofNat c)) => match C.tt.get e, zeroV C e with
      | some i, some z =>
        bif Nat.ble l c && Nat.ble c 1000000 && Nat.ble i.bytes 1000000 && Nat.beq z.cells.length i.size && z.cells.all AV.one then
          some (.cells (repl c z.cells) e false, fun id => .slice (some (id, 0)) l c true i.size)
        else none
      | _, _ => none
    | _, _, _ => none
  | .makeMap t r => match und C t, evalO tm r with
    | some (.map _ _), some none => some (.map [] 0, fun id => .map (some id))
    | some (.map _ _), some (some (.int _ _)) => some (.map [] 0, fun id => .map (some id))
    | _, _ => none
  | .convert src dst x => match und C src, und C dst, eval tm x with
    | some .string, some (.slice e), some (.str s) => match und C e, sizeT C e with
      | some (.int .u8), some 1 => some (.cells (s.map fun b => .int .u8 (.ofNat b.toNat)) e false, fun id => .slice (some (id, 0)) s.length s.length false 1)
      | _, _ => none
    | _, _, _ => none
  | .range t x => match und C t, eval tm x with
    | some .string, some (.str s) => some (.strIter s 0, fun id => .ptr (some (id, 0)))
    | _, _ => none
  | _ => none

/-- what an operation with effects comes to -/
inductive Eff where
  | val (v : AV) (H : AH)
  | call (f : FuncId) (args : List AV)
  | round (l : Nat) (args : List AV)

/-- the first n elements' cells of a slice or string -/
def firstA (H : AH) (es n : Nat) : AV → Option (List AV)
  | .slice none _ _ _ _ => some []
  | .slice (some (id, off)) _ _ _ _ => match H.get id with
    | some (.cells c _ _) => sub c off (n * es)
    | _ => none
  | .str s => some ((s.take n).map fun b => .int .u8 (.ofNat b.toNat))
  | _ => none
def lenA : AV → Option Nat
  | .slice _ n _ _ _ => some n
  | .str s => some s.length
  | _ => none

/-- how many elements are appended -/
def countA (zeros : Bool) (x : AV) : Option Nat :=
  bif zeros then match x with
    | .int _ (.ofNat n) => bif Nat.ble n 100000000 then some n else none
    | _ => none
  else lenA x
/-- their cells -/
def newA (H : AH) (zeros : Bool) (z : AV) (es n : Nat) (x : AV) : Option (List AV) :=
  bif zeros then some (repl n z.cells) else firstA H es n x
def appendA (H : AH) (t : TypeId) (s x : AV) (zeros : Bool) : Option (AV × AH) :=
  match und C t, s, countA zeros x with
  | some (.slice e), .slice a len cap ex es, some n =>
    match C.tt.get e, zeroV C e with
    | some i, some z =>
      bif !(Nat.beq z.cells.length i.size && Nat.ble i.bytes 100000 && Nat.ble (len + n) 100000000 && (!zeros || (Nat.blt 0 n && Nat.blt 0 i.size && Nat.blt 0 i.bytes && z.cells.all AV.one))) then none else
      bif Nat.ble (len + n) len then some (s, H) else      -- nothing is appended
      match newA H zeros z i.size n x with
      | none => none
      | some new =>
        bif !(new.all AV.one && Nat.beq new.length (n * i.size)) then none else
        match a with
        | none => some (.slice (some (H.n, 0)) (len + n) (len + n) false i.size, H.new (.cells new e false))
        | some (id, off) =>
          bif !Nat.beq es i.size then none else
          bif Nat.ble (len + n) cap then
            match storeL H id (off + len * es) new with
            | some H' => some (.slice a (len + n) cap ex es, H')
            | none => none
          else match H.get id with
            | some (.cells c e' fz) => match sub c off (len * es) with
              | some old =>
                bif ex then some (.slice (some (H.n, 0)) (len + n) (len + n) false es, H.new (.cells (old ++ new) e false))
                else bif fz || !Nat.beq e' e then none
                else some (.slice (some (H.n, 0)) (len + n) (len + n) false es, (H.kill id).new (.cells (old ++ new) e false))
              | none => none
            | _ => none
    | _, _ => none
  | _, _, _ => none

def isIntT (t : TypeId) : Option Bool := match und C t with | some (.int _) => some true | some _ => some false | none => none

/-- the value of a slot of a map, written -/
def setVal (es : List (AV × AV × Nat)) (i : Nat) (k v : AV) : List (AV × AV × Nat) :=
  es.modify i fun (_, _, b) => (k, v, b)

def updateA (H : AH) (t : TypeId) (m k v : AV) : Option AH :=
  match und C t, m with
  | some (.map kt _), .map (some r) => match H.get r with
    | some (.map es clock) =>
      bif ckA C eqDepth kt k then
        match findA C kt k es 0 with
        | some (some (i, _)) => match es[i]? with
          | some (k', _, _) => bif AV.beq eqDepth k' k && keyPlain eqDepth k then some (H.put r (.map (setVal es i k v) clock)) else none
          | none => none
        | some none => some (H.put r (.map (es ++ [(k, v, clock)]) (clock + 1)))
        | none => none
      else none
    | _ => none
  | _, _ => none

def copyA (H : AH) (t : TypeId) (d x : AV) : Option Eff :=
  match und C t, d, lenA x with
  | some (.slice e), .slice a len _ _ es, some n => match sizeT C e with
    | some size => match firstA H size (Nat.min n len) x with
      | some new => match a with
        | none => some (.val (.int .i64 (.ofNat (Nat.min n len))) H)
        | some (id, off) => bif Nat.beq es size && Nat.blt 0 (Nat.min n len) then
            match storeL H id off new with
            | some H' => some (.val (.int .i64 (.ofNat (Nat.min n len))) H')
            | none => none
            else bif Nat.beq (Nat.min n len) 0 then some (.val (.int .i64 0) H) else none
      | none => none
    | none => none
  | _, _, _ => none
def clearA (H : AH) (t : TypeId) (d : AV) : Option Eff :=
  match und C t, d with
  | some _, .map none => some (.val undefA H)
  | some _, .slice none _ _ _ _ => some (.val undefA H)
  | some _, .map (some r) => match H.get r with
    | some (.map _ clock) => some (.val undefA (H.put r (.map [] clock)))
    | _ => none
  | some (.slice e), .slice (some (id, off)) n _ _ es =>
    bif Nat.beq n 0 then some (.val undefA H) else
    match sizeT C e, zeroV C e with
    | some size, some z => bif Nat.beq size es && Nat.beq z.cells.length size then
        match storeL H id off (repl n z.cells) with | some H' => some (.val undefA H') | none => none
        else none
    | _, _ => none
  | _, _ => none
def stringA (H : AH) (pt : TypeId) (a : Option (Nat × Nat)) (n : Nat) : Option Eff :=
  bif Nat.beq n 0 then some (.val (.str []) H) else bif !Nat.ble n 1000000000 then none else
  match a, und C pt with
  | some (id, off), some (.pointer e) => match und C e, H.get id with
    | some (.int .u8), some (.cells c e' _) => match und C e', sizeT C e' with
      | some (.int .u8), some 1 => match sub c off n with
        | some l => match mapO (fun | .int .u8 (.ofNat n) => (some (UInt8.ofNat n) : Option UInt8) | _ => none) l with
          | some bs => some (.val (.str bs) (H.put id (.cells c e' true)))
          | none => none
        | none => none
      | _, _ => none
    | _, _ => none
  | _, _ => none

def rangeA (H : AH) (t : TypeId) (x : AV) : Option Eff :=
  match und C t, x with
  | some (.map _ _), .map (some m) => match H.get m with
    | some (.map _ clock) => some (.val (.ptr (some (H.n, 0))) (H.new (.mapIter m clock [] clock)))
    | _ => none
  | _, _ => none
def nextA (H : AH) (r : Nat) : Option Eff :=
  match H.get r with
  | some (.mapIter m since seen last) => match H.get m with
    | some (.map es clock) =>
      bif !seen.isEmpty && !es.isEmpty && es.all (fun e => Nat.ble last e.2.2) then none else
      match es.filter (fun e => !seen.contains e.2.2) with
      | [] => some (.val (.tuple [.bool false]) H)
      | [(k, v, b)] => bif Nat.blt b since then some (.val (.tuple [.bool true, k, v]) (H.put r (.mapIter m since (seen ++ [b]) clock))) else none
      | _ => none
    | _ => none
  | _ => none

/-- operations with effects -/
def aeff (tm : Tr AV) (H : AH) (o : Oper) : Option Eff :=
  match o.op with
  | .store t a x => match eval tm a, eval tm x with
    | some (.ptr (some (id, off))), some v => match storeV C H t id off v with | some H' => some (.val undefA H') | none => none
    | _, _ => none
  | .mapUpdate t m k x | .insert t m k x => match eval tm m, eval tm k, eval tm x with
    | some m, some k, some v => match updateA C H t m k v with | some H' => some (.val undefA H') | none => none
    | _, _, _ => none
  | .mapEntry t m k => match und C t, eval tm m, eval tm k with
    | some (.map kt et), some (.map (some r)), some k => match H.get r with
      | some (.map es clock) =>
        bif ckA C eqDepth kt k then
          match findA C kt k es 0 with
          | some (some (i, v)) => match es[i]? with
            | some (k', v', b) => bif AV.beq eqDepth k' k && keyPlain eqDepth k then
                some (.val (.tuple [v, .int .i64 (.ofNat b)]) (H.put r (.map (setVal es i k v') clock))) else none
            | none => none
          | some none => match zeroV C et with
            | some z => some (.val (.tuple [z, .int .i64 (.ofNat clock)]) (H.put r (.map (es ++ [(k, z, clock)]) (clock + 1))))
            | none => none
          | none => none
        else none
      | _ => none
    | _, _, _ => none
  | .entryStore _ m s x => match eval tm m, eval tm s, eval tm x with
    | some (.map (some r)), some (.int _ (.ofNat b)), some v => match H.get r with
      | some (.map es clock) => match es.findIdx? (fun e => Nat.beq e.2.2 b) with
        | some i => match es[i]? with
          | some (k, _, _) => some (.val undefA (H.put r (.map (setVal es i k v) clock)))
          | none => none
        | none => none
      | _ => none
    | _, _, _ => none
  | .range t x => match eval tm x with
    | some v => rangeA C H t v
    | none => none
  | .next it false => match eval tm it with
    | some (.ptr (some (r, 0))) => nextA H r
    | _ => none
  | .call { callee := .builtin b, args, argTypes } =>
    match mapO (eval tm) args.toList with
    | none => none
    | some vs => match b with
      | .append => match vs, argTypes.toList with
        | [s, x], t :: ts => match (match ts with | tx :: _ => isIntT C tx | [] => some false) with
          | some zs => match appendA C H t s x zs with | some (v, H') => some (.val v H') | none => none
          | none => none
        | _, _ => none
      | .copy => match vs, argTypes.toList with
        | [d, x], t :: _ => copyA C H t d x
        | _, _ => none
      | .clear => match vs, argTypes.toList with
        | [d], t :: _ => clearA C H t d
        | _, _ => none
      | .unsafeSliceData => match vs with
        | [.slice (some (id, off)) _ cap _ _] => bif Nat.ble 1 cap then some (.val (.ptr (some (id, off))) H) else none
        | [.slice none _ _ _ _] => some (.val (.ptr none) H)
        | _ => none
      | .unsafeString => match vs, argTypes.toList with
        | [.ptr a, .int _ (.ofNat n)], pt :: _ => stringA C H pt a n
        | _, _ => none
      | _ => none
  | .call { callee := .value f, args, .. } => match eval tm f, mapO (eval tm) args.toList with
    | some (.func (.func f) first captured), some args => some (.call f (first ++ args ++ captured))
    | some (.yieldF l), some args => some (.round l args)
    | _, _ => none
  | _ => none

inductive Kind where
  | pr | al | ef
  deriving DecidableEq
/-- the kind of an operation -/
def kindOf (C : Ctx) (o : Op) : Kind :=
  match o with
  | .alloc _ | .box _ _ | .buildSlice _ _ _ | .makeSlice _ _ _ | .makeMap _ _ => .al
  | .range t _ => match und C t with | some (.map _ _) => .ef | _ => .al
  | .convert _ dst _ => match und C dst with | some (.slice _) => .al | _ => .pr
  | .store _ _ _ | .mapUpdate _ _ _ _ | .insert _ _ _ _ | .mapEntry _ _ _ | .entryStore _ _ _ _ | .next _ _ => .ef
  | .call { callee := .builtin b, .. } => match b with
    | .len | .cap | .min | .max => .pr
    | _ => .ef
  | .call _ => .ef
  | _ => .pr

/-! ## Frames -/
structure Fr where
  fn : FuncId
  nt : Nat
  tm : Tr AV
  todo : List Item
  cols : List Nat
  ro : Option Nat

abbrev Cb := Fr → AH → Option (AV × AH)

def enterA (f : FuncId) (fn : Func) (c : Code) (args : List AV) : Fr :=
  { fn := f, nt := Nat.max fn.ntmps args.length, tm := Tr.ofList args 0 .leaf, todo := [.code c], cols := [], ro := none }

def callF (cb : Cb) (f : FuncId) (args : List AV) (H : AH) : Option (AV × AH) :=
  match C.ov f with
  | some g => g args H
  | none => match C.ft.get f with
    | some fn => match fn.body with
      | some c => cb (enterA f fn c args) H
      | none => none
    | none => none

def putAll : List Tmp → List AV → Nat → Tr AV → Option (Tr AV)
  | [], [], _, t => some t
  | p :: ps, a :: as, nt, t => bif Nat.blt p nt then putAll ps as nt (t.set (some a) p) else none
  | _, _, _, _ => none

def roundF (cb : Cb) (l : Nat) (args : List AV) (H : AH) : Option (AV × AH) :=
  match H.get l with
  | some (.loop _ _ fn nt tmps params asg body _) => match putAll params.toList args nt tmps with
    | some tm => cb { fn := fn, nt := nt, tm := tm, todo := [.code asg, .beginRound, .code body], cols := [], ro := some l } H
    | none => none
  | _ => none

/-- an operation with effects, carried out -/
def doEff (cb : Cb) (tm : Tr AV) (H : AH) (o : Oper) : Option (AV × AH) :=
  match aeff C tm H o with
  | some (.val v H') => some (v, H')
  | some (.call f args) => callF C cb f args H
  | some (.round l args) => roundF cb l args H
  | none => none

def doOp (cb : Cb) (tm : Tr AV) (H : AH) (o : Oper) : Option (AV × AH) :=
  match kindOf C o.op with
  | .pr => match apure C tm H o with | some v => some (v, H) | none => none
  | .al => match aalloc C tm o with | some (ob, v) => some (v H.n, H.newA ob) | none => none
  | .ef => doEff C cb tm H o

def putA (nt : Nat) (tm : Tr AV) (dst : Option Tmp) (v : AV) : Option (Tr AV) :=
  match dst with
  | none => some tm
  | some d => bif Nat.blt d nt then some (tm.set (some v) d) else none

/-- is an operation wanted? -/
def wantedA (ops : List Oper) (tm : Tr AV) (o : Oper) : Option Bool :=
  match o.guard with
  | none => some true
  | some (j, want) => match ops[j]? with
    | some oj => match oj.dst with
      | some d => match tm.get d with
        | some (.bool b) => some (b == want)
        | some (.tuple _) => some false
        | _ => none
      | none => none
    | none => none

def regS (cb : Cb) (ops : List Oper) (nt : Nat) : List Oper → Tr AV → AH → Option (Tr AV × AH)
  | [], tm, H => some (tm, H)
  | o :: rest, tm, H =>
    match wantedA ops tm o with
    | none => none
    | some false => match putA nt tm o.dst undefA with | some tm => regS cb ops nt rest tm H | none => none
    | some true => match doOp C cb tm H o with
      | none => none
      | some (v, H') => match putA nt tm o.dst v with | some tm' => regS cb ops nt rest tm' H' | none => none

/-! ## Regions whose order is drawn -/
/-- what must come before an operation, as a mask -/
def maskOf (masks : Tr Nat) (i : Nat) : List Edge → Nat → Option Nat
  | [], m => some m
  | e :: es, m =>
    bif Region.binds .any e then
      bif Nat.blt e.on i then match masks.get e.on with
        | some p => maskOf masks i es (Nat.lor (Nat.lor m p) (Nat.shiftLeft 1 e.on))
        | none => none
      else none
    else maskOf masks i es m
structure Step where
  o : Oper
  kind : Kind
  mask : Nat
  lo : Nat
  hi : Nat
def looks (ops : List Oper) (o : Oper) : List Tmp :=
  (o.op.operands.toList.filterMap fun | .tmp t => some t | _ => none) ++
  (match o.guard with
   | some (g, _) => match ops[g]? with | some og => og.dst.toList | none => []
   | none => [])
def apart (ops : List Oper) (x y : Oper) : Bool :=
  (match x.dst with
   | some d => !(looks ops y).contains d && decide (y.dst ≠ some d)
   | none => true) &&
  (match y.dst with
   | some d => !(looks ops x).contains d
   | none => true)
def masksFrom : List Oper → Nat → Tr Nat → Option (Tr Nat)
  | [], _, t => some t
  | o :: os, i, t => match maskOf t i o.after.toList 0 with
    | some m => masksFrom os (i + 1) (t.set (some m) i)
    | none => none
/-- the effects, in order -/
def effs (C : Ctx) : List Oper → Nat → List Nat
  | [], _ => []
  | o :: os, i => match kindOf C o.op with | .ef => i :: effs C os (i + 1) | _ => effs C os (i + 1)
def chained (masks : Tr Nat) : List Nat → Bool
  | [] => true
  | [_] => true
  | a :: b :: r => (match masks.get b with | some m => Nat.testBit m a | none => false) && chained masks (b :: r)
def countIn (m : Nat) : List Nat → Nat
  | [] => 0
  | e :: es => bif Nat.testBit m e then countIn m es + 1 else countIn m es
/-- how many effects may come before operation i -/
def mayBefore (masks : Tr Nat) (i : Nat) : List Nat → Nat
  | [] => 0
  | e :: es => bif (match masks.get e with | some m => Nat.testBit m i | none => false) then mayBefore masks i es else mayBefore masks i es + 1
def apartAll (ops : List Oper) (masks : Tr Nat) (x : Oper) (i : Nat) : List Oper → Nat → Bool
  | [], _ => true
  | y :: ys, j => (match masks.get j with | some m => Nat.testBit m i || apart ops x y | none => false) && apartAll ops masks x i ys (j + 1)
def apartPairs (ops : List Oper) (masks : Tr Nat) : List Oper → Nat → Bool
  | [], _ => true
  | x :: xs, i => apartAll ops masks x i xs (i + 1) && apartPairs ops masks xs (i + 1)
def steps (C : Ctx) (masks : Tr Nat) (es : List Nat) : List Oper → Nat → Option (List Step)
  | [], _ => some []
  | o :: os, i => match masks.get i, steps C masks es os (i + 1) with
    | some m, some r => some ({ o, kind := kindOf C o.op, mask := m, lo := countIn m es, hi := mayBefore masks i es } :: r)
    | _, _ => none
def plan (C : Ctx) (ops : List Oper) : Option (List Step) :=
  match masksFrom ops 0 .leaf with
  | none => none
  | some masks =>
    let es := effs C ops 0
    bif chained masks es && apartPairs ops masks ops 0 then steps C masks es ops 0 else none

/-- a block that an operation of the region has made; it is part of the versions behind version hi -/
structure Blk where
  i : Nat
  id : Nat
  ob : AObj
  hi : Nat
/-- the blocks of a mask, added to version v -/
def addBlks (mask v : Nat) : List Blk → AH → AH
  | [], H => H
  | b :: bs, H => bif Nat.testBit mask b.i && Nat.ble v b.hi then addBlks mask v bs (H.putA b.id b.ob) else addBlks mask v bs H
def addAll (v : Nat) : List Blk → AH → AH
  | [], H => H
  | b :: bs, H => bif Nat.ble v b.hi then addAll v bs (H.putA b.id b.ob) else addAll v bs H
/-- those that version v + 1 does not hold -/
def dropBlks (v : Nat) : List Blk → List Blk
  | [] => []
  | b :: bs => bif Nat.ble b.hi v then dropBlks v bs else b :: dropBlks v bs
/-- what is to be looked at once more: an operation that reads, its slots, what it needs, and the versions -/
structure Again where
  o : Oper
  tm : Tr AV
  blks : List Blk
  mask : Nat
  lo : Nat
  hi : Nat
  v : AV
/-- The walk over a region: versions of the heap (the newest first), blocks made and not yet part of the newest version. -/
structure RegSt where
  tm : Tr AV
  vs : List AH
  pend : List Blk
  again : List Again
def valDepth : Nat := 24
/-- version v of k + 1 ones, the newest of which is first -/
def version (vs : List AH) (v : Nat) : Option AH := vs[vs.length - 1 - v]?
/-- one operation of the region -/
def regOne (cb : Cb) (ops : List Oper) (nt base : Nat) (p : Step) (i : Nat) (s : RegSt) : Option RegSt :=
  match wantedA ops s.tm p.o with
  | none => none
  | some false => match putA nt s.tm p.o.dst undefA with
    | none => none
    | some tm => match p.kind with
      | .ef => match s.vs with
        | [] => none
        | H :: r => some { s with tm, vs := addBlks p.mask r.length s.pend H :: s.vs, pend := dropBlks r.length s.pend }
      | _ => some { s with tm }
  | some true =>
    match p.kind with
    | .pr =>
      match version s.vs p.lo with
      | none => none
      | some H => match apure C s.tm (addBlks p.mask p.lo s.pend H) p.o with
        | none => none
        | some v => match putA nt s.tm p.o.dst v with
          | some tm => some { s with tm, again := bif Nat.beq p.lo p.hi then s.again else { o := p.o, tm := s.tm, blks := s.pend, mask := p.mask, lo := p.lo, hi := p.hi, v } :: s.again }
          | none => none
    | .al => match aalloc C s.tm p.o with
      | none => none
      | some (ob, v) => match putA nt s.tm p.o.dst (v (base + i)) with
        | some tm => some { s with tm, pend := { i, id := base + i, ob, hi := p.hi } :: s.pend }
        | none => none
    | .ef => match s.vs with
      | [] => none
      | H :: r => match doEff C cb s.tm (addBlks p.mask r.length s.pend H) p.o with
        | none => none
        | some (v, H') => match putA nt s.tm p.o.dst v with
          | some tm => some { s with tm, vs := { H' with gl := H.gl } :: s.vs, pend := dropBlks r.length s.pend }
          | none => none
def regD (cb : Cb) (ops : List Oper) (nt base : Nat) : List Step → Nat → RegSt → Option RegSt
  | [], _, s => some s
  | p :: rest, i, s => match regOne C cb ops nt base p i s with
    | none => none
    | some s' => regD cb ops nt base rest (i + 1) s'
/-- an operation that reads answers the same at the versions lo + 1 to lo + n -/
def stable (vs : List AH) (a : Again) : Nat → Bool
  | 0 => true
  | n + 1 => (match version vs (a.lo + (n + 1)) with
      | some H => match apure C a.tm (addBlks a.mask (a.lo + (n + 1)) a.blks H) a.o with
        | some v => AV.beq valDepth v a.v
        | none => false
      | none => false) && stable vs a n
def regDraw (cb : Cb) (ops : List Oper) (nt : Nat) (tm : Tr AV) (H : AH) : Option (Tr AV × AH) :=
  match plan C ops with
  | none => none
  | some ps =>
    match regD C cb ops nt H.n ps 0 { tm, vs := [{ H with n := H.n + ops.length }], pend := [], again := [] } with
    | none => none
    | some s => match s.vs with
      | [] => none
      | H' :: r => bif s.again.all fun a => stable C s.vs a (a.hi - a.lo) then some (s.tm, addAll r.length s.pend H') else none

/-! ## The machine -/
inductive Res where
  | go (fr : Fr) (H : AH)
  | out (v : AV) (H : AH)

def unwindA : List Nat → AH → Option AH
  | [], H => some H
  | c :: cs, H => match H.get c with
    | some (.deferred true) => unwindA cs (H.put c (.deferred false))
    | _ => none
def resultsA (H : AH) (tm : Tr AV) : List ResultVar → Option (List AV)
  | [] => some []
  | .tmp t :: rs => match tm.get t, resultsA H tm rs with | some v, some vs => some (v :: vs) | _, _ => none
  | .cell a t :: rs => match tm.get a with
    | some (.ptr (some (id, off))) => match loadV C H t id off, resultsA H tm rs with | some v, some vs => some (v :: vs) | _, _ => none
    | _ => none
def oneOf : List AV → AV
  | [v] => v
  | vs => .tuple vs
/-- A frame leaves; of a round: with a jump. -/
def leaveA (fr : Fr) (jump : Option Code) (H : AH) : Option Res :=
  match fr.ro with
  | none => match jump with
    | none | some .ret => match unwindA fr.cols H with
      | some H => match C.ft.get fr.fn with
        | some fn => match resultsA C H fr.tm fn.results.toList with | some vs => some (.out (oneOf vs) H) | none => none
        | none => none
      | none => none
    | _ => none
  | some l => match fr.cols, H.get l with
    | [], some (.loop _ _ fn nt tmps params asg body d) =>
      some (.out (.bool jump.isNone) (H.put l (.loop (if jump.isNone then .ready else .done) jump fn nt tmps params asg body d)))
    | _, _ => none

def stepA (cb : Cb) (fr : Fr) (H : AH) : Option Res :=
  match fr.todo with
  | [] => leaveA C fr none H
  | .code .ret :: _ => leaveA C fr (some .ret) H
  | .code .skip :: k => some (.go { fr with todo := k } H)
  | .code (.label _) :: k => some (.go { fr with todo := k } H)
  | .inBlock _ :: k => some (.go { fr with todo := k } H)
  | .inScope _ :: k => some (.go { fr with todo := k } H)
  | .code (.seq a b) :: k => some (.go { fr with todo := .code a :: .code b :: k } H)
  | .code (.cond c a b) :: k => match eval fr.tm c with
    | some (.bool t) => some (.go { fr with todo := .code (bif t then a else b) :: k } H)
    | _ => none
  | .code (.block id body) :: k => some (.go { fr with todo := .code body :: .inBlock id :: k } H)
  | .code (.loop body) :: k => some (.go { fr with todo := .code body :: .inLoop body :: k } H)
  | .inLoop body :: k => some (.go { fr with todo := .code body :: .inLoop body :: k } H)
  | .code (.scope body) :: k => some (.go { fr with todo := .code body :: .inScope body :: k } H)
  | .code (.exit id) :: k => match exitTo id k with
    | some k' => some (.go { fr with todo := k' } H)
    | none => leaveA C fr (some (.exit id)) H
  | .code (.goto l) :: k => match gotoIn l k with
    | some k' => some (.go { fr with todo := k' } H)
    | none => leaveA C fr (some (.goto l)) H
  | .code (.region _ ops draw) :: k =>
    match (bif draw then regDraw C cb ops.toList fr.nt fr.tm H else regS C cb ops.toList fr.nt ops.toList fr.tm H) with
    | some (tm, H') => some (.go { fr with tm, todo := k } H')
    | none => none
  | .code (.rangeFunc f params asg body) :: k =>
    match (match fr.ro with
      | none => some (H.n, [H.n], H.new (.deferred true))
      | some l => match H.get l with | some (.loop _ _ _ _ _ _ _ _ d) => some (d, [], H) | _ => none) with
    | none => none
    | some (d, mark, H1) =>
      let l := H1.n
      let H2 := H1.new (.loop .ready none fr.fn fr.nt fr.tm params asg body d)
      match eval fr.tm f with
      | some (.func (.func f) first captured) => match callF C cb f (first ++ [.yieldF l] ++ captured) H2 with
        | some (_, H3) => match H3.get l with
          | some (.loop st pending fn nt tmps params asg body d) =>
            match st with
            | .busy => none
            | _ => some (.go { fr with todo := (pending.map Item.code).toList ++ k, cols := mark ++ fr.cols } (H3.put l (.loop .exhausted pending fn nt tmps params asg body d)))
          | _ => none
        | none => none
      | _ => none
  | .beginRound :: k => match fr.ro with
    | some l => match H.get l with
      | some (.loop .ready p fn nt tmps params asg body d) => some (.go { fr with todo := k } (H.put l (.loop .busy p fn nt tmps params asg body d)))
      | _ => none
    | none => none
  | _ => none

def run : Nat → Cb
  | 0, _, _ => none
  | n + 1, fr, H => match stepA C (run n) fr H with
    | none => none
    | some (.go fr' H') => run n fr' H'
    | some (.out v H') => some (v, H')

def AH.empty : AH := { t := .leaf, n := 0, gl := .leaf, z := .leaf }
def callA (n : Nat) (f : FuncId) (args : List AV) (H : AH) : Option (AV × AH) := callF C (run C n) f args H

end Go.Ev

/-
  The relation between abstract values and memory and the machine's; first laws.
-/
namespace Go.Ev

/-! ## The trie -/
namespace Tr
variable {α : Type}
theorem bif_eq {β : Type} (b : Bool) (x y : β) : (bif b then x else y) = if b = true then x else y := by cases b <;> rfl
theorem get_leaf (n : Nat) : (leaf : Tr α).get n = none := rfl
theorem get_single (x : Option α) : ∀ (f n m : Nat), n < f → (single x f n).get m = if n = m then x else none
  | 0, n, m, h => by omega
  | f + 1, n, m, h => by
    unfold single
    by_cases h0 : n = 0
    · subst h0
      simp only [Nat.beq_refl, bif_eq, if_true]
      by_cases hm : m = 0
      · subst hm; simp [get]
      · have hm' : Nat.beq m 0 = false := by cases h : Nat.beq m 0 with | false => rfl | true => exact absurd (Nat.eq_of_beq_eq_true h) hm
        have hne : (0 = m) = False := by simp; omega
        simp only [get, hm', bif_eq, hne, if_false]; split <;> simp_all [get]
    · have h0' : Nat.beq n 0 = false := by cases h : Nat.beq n 0 with | false => rfl | true => exact absurd (Nat.eq_of_beq_eq_true h) h0
      have e1 : Nat.div n 2 = n / 2 := rfl
      have e2 : Nat.mod n 2 = n % 2 := rfl
      have e3 : Nat.sub (n / 2) 1 = n / 2 - 1 := rfl
      have f1 : Nat.div m 2 = m / 2 := rfl
      have f2 : Nat.mod m 2 = m % 2 := rfl
      have f3 : Nat.sub (m / 2) 1 = m / 2 - 1 := rfl
      simp only [h0', bif_eq, Bool.false_eq_true, if_false, e1, e2, e3]
      by_cases hp : n % 2 = 1
      · have hp' : Nat.beq (n % 2) 1 = true := by rw [hp]; rfl
        simp only [hp', if_true, get, bif_eq, f1, f2, f3]
        by_cases hm : m = 0
        · subst hm; simp; omega
        · have hm' : Nat.beq m 0 = false := by cases h : Nat.beq m 0 with | false => rfl | true => exact absurd (Nat.eq_of_beq_eq_true h) hm
          simp only [hm', Bool.false_eq_true, if_false]
          by_cases hq : m % 2 = 1
          · have hq' : Nat.beq (m % 2) 1 = true := by rw [hq]; rfl
            rw [if_pos hq', get_single x f (n / 2) (m / 2) (by omega)]
            by_cases he : n = m
            · subst he; simp
            · rw [if_neg (by omega), if_neg he]
          · have hq' : ¬ Nat.beq (m % 2) 1 = true := fun h => hq (Nat.eq_of_beq_eq_true h)
            rw [if_neg hq', if_neg (by omega)]
      · have hp' : ¬ Nat.beq (n % 2) 1 = true := fun h => hp (Nat.eq_of_beq_eq_true h)
        simp only [if_neg hp', get, bif_eq, f1, f2, f3]
        by_cases hm : m = 0
        · subst hm; simp; omega
        · have hm' : Nat.beq m 0 = false := by cases h : Nat.beq m 0 with | false => rfl | true => exact absurd (Nat.eq_of_beq_eq_true h) hm
          simp only [hm', Bool.false_eq_true, if_false]
          by_cases hq : m % 2 = 1
          · have hq' : Nat.beq (m % 2) 1 = true := by rw [hq]; rfl
            rw [if_pos hq', if_neg (by omega)]
          · have hq' : ¬ Nat.beq (m % 2) 1 = true := fun h => hq (Nat.eq_of_beq_eq_true h)
            rw [if_neg hq', get_single x f (n / 2 - 1) (m / 2 - 1) (by omega)]
            by_cases he : n = m
            · subst he; simp
            · rw [if_neg (by omega), if_neg he]
theorem get_set (x : Option α) : ∀ (t : Tr α) (n m : Nat), (t.set x n).get m = if n = m then x else t.get m
  | .leaf, n, m => by simp only [set]; rw [get_single x (n + 1) n m (by omega)]; simp [get]
  | .node l v r, n, m => by
    have e1 : Nat.div n 2 = n / 2 := rfl
    have e2 : Nat.mod n 2 = n % 2 := rfl
    have e3 : Nat.sub (n / 2) 1 = n / 2 - 1 := rfl
    have f1 : Nat.div m 2 = m / 2 := rfl
    have f2 : Nat.mod m 2 = m % 2 := rfl
    have f3 : Nat.sub (m / 2) 1 = m / 2 - 1 := rfl
    have beq0 : ∀ k, Nat.beq k 0 = decide (k = 0) := fun k => by cases k <;> rfl
    have beq1 : ∀ k, Nat.beq k 1 = decide (k = 1) := fun k => by
      cases h : Nat.beq k 1 with
      | true => have := Nat.eq_of_beq_eq_true h; simp [this]
      | false => have : k ≠ 1 := fun e => by rw [e] at h; cases h
                 simp [this]
    unfold set
    simp only [e1, e2, e3, bif_eq, beq0, beq1, decide_eq_true_eq]
    by_cases h0 : n = 0
    · subst h0
      simp only [if_true, get, f1, f2, f3, bif_eq, beq0, beq1, decide_eq_true_eq]
      by_cases hm : m = 0
      · subst hm; simp
      · have hne : ¬ 0 = m := fun h => hm h.symm
        simp only [if_neg hm, if_neg hne]
    · rw [if_neg h0]
      by_cases hp : n % 2 = 1
      · rw [if_pos hp]
        simp only [get, f1, f2, f3, bif_eq, beq0, beq1, decide_eq_true_eq]
        by_cases hm : m = 0
        · subst hm; simp [h0]
        · simp only [if_neg hm]
          by_cases hq : m % 2 = 1
          · simp only [if_pos hq]; rw [get_set x l]
            by_cases he : n = m
            · subst he; simp
            · rw [if_neg (by omega), if_neg he]
          · simp only [if_neg hq]; rw [if_neg (by omega)]
      · rw [if_neg hp]
        simp only [get, f1, f2, f3, bif_eq, beq0, beq1, decide_eq_true_eq]
        by_cases hm : m = 0
        · subst hm; simp [h0]
        · simp only [if_neg hm]
          by_cases hq : m % 2 = 1
          · simp only [if_pos hq]; rw [if_neg (by omega)]
          · simp only [if_neg hq]; rw [get_set x r]
            by_cases he : n = m
            · subst he; simp
            · rw [if_neg (by omega), if_neg he]
theorem get_ofList : ∀ (l : List α) (i : Nat) (t : Tr α) (n : Nat), (ofList l i t).get n = if i ≤ n ∧ n < i + l.length then l[n - i]? else t.get n
  | [], i, t, n => by simp [ofList]; intro h1 h2; omega
  | x :: xs, i, t, n => by
    rw [ofList, get_ofList xs (i + 1), get_set]
    by_cases h : i = n
    · subst h; simp; intro h3; omega
    · by_cases h2 : i + 1 ≤ n ∧ n < i + 1 + xs.length
      · rw [if_pos h2, if_pos (by simp; omega)]
        obtain ⟨k, rfl⟩ : ∃ k, n = i + 1 + k := ⟨n - (i + 1), by omega⟩
        rw [show i + 1 + k - (i + 1) = k from by omega, show i + 1 + k - i = k + 1 from by omega]; simp
      · rw [if_neg h2, if_neg h, if_neg (by simp; omega)]
theorem ofList_some {l : List α} {n : Nat} {a : α} (h : (ofList l 0 leaf).get n = some a) : l[n]? = some a := by
  rw [get_ofList] at h
  split at h
  · simpa using h
  · simp [get] at h
end Tr

/-! ## Places and the relation on values -/
structure Place where
  b : Nat
  base : Nat
  S : Nat
abbrev Phi := Nat → Option Place
def Phi.le (φ ψ : Phi) : Prop := ∀ i p, φ i = some p → ψ i = some p
theorem Phi.le_refl (φ : Phi) : φ.le φ := fun _ _ h => h
theorem Phi.le_trans {φ ψ χ : Phi} (h : φ.le ψ) (k : ψ.le χ) : φ.le χ := fun i p e => k i p (h i p e)

mutual
inductive VR (φ : Phi) : AV → Value → Prop
  | bool (b : Bool) : VR φ (.bool b) (.bool b)
  | int (k : IntKind) (n : Int) : VR φ (.int k n) (.int k n)
  | str (b : ByteArray) : VR φ (.str b.data.toList) (.string b)
  | ptrNil : VR φ (.ptr none) (.pointer none)
  | ptr (id off : Nat) (p : Place) (h : φ id = some p) : VR φ (.ptr (some (id, off))) (.pointer (some ⟨p.b, p.base + off, none⟩))
  | gptr (g off : Nat) : VR φ (.gptr g off) (.pointer (some ⟨g, off, none⟩))
  | sliceNil (ex : Bool) (es : Nat) : VR φ (.slice none 0 0 ex es) (.slice none 0 0)
  | slice (id off len cap : Nat) (ex : Bool) (es : Nat) (a : Addr) (cap' : Nat) (hl : len ≤ cap) (hc : cap ≤ cap') (hx : ex = true → cap' = cap)
      (ha : 0 < cap' → ∃ p, φ id = some p ∧ a = ⟨p.b, p.base + off, none⟩ ∧ (ex = true ∨ p.base + off + cap' * es ≤ p.S)) : VR φ (.slice (some (id, off)) len cap ex es) (.slice (some a) len cap')
  | mapNil : VR φ (.map none) (.map none)
  | map (r : Nat) (p : Place) (h : φ r = some p) : VR φ (.map (some r)) (.map (some p.b))
  | func (f : Fn) (xs ys : List AV) (as bs : Array Value) (hf : ∀ l, f ≠ .yield l) (hx : LR φ xs as.toList) (hy : LR φ ys bs.toList) : VR φ (.func f xs ys) (.func f as bs)
  | yieldF (l : Nat) (p : Place) (h : φ l = some p) : VR φ (.yieldF l) (.func (.yield p.b) #[] #[])
  | nilFunc : VR φ .nilFunc .nilFunc
  | iface (t : TypeId) (x : AV) (v : Value) (h : VR φ x v) : VR φ (.iface t x) (.iface t v)
  | nilIface : VR φ .nilIface .nilIface
  | agg (xs : List AV) (vs : Array Value) (h : LR φ xs vs.toList) : VR φ (.agg xs) (.agg vs)
  | tuple (xs : List AV) (vs : Array Value) (h : LR φ xs vs.toList) : VR φ (.tuple xs) (.tuple vs)
inductive LR (φ : Phi) : List AV → List Value → Prop
  | nil : LR φ [] []
  | cons {x : AV} {v : Value} {xs : List AV} {vs : List Value} (h : VR φ x v) (t : LR φ xs vs) : LR φ (x :: xs) (v :: vs)
end

mutual
theorem VR.mono {φ ψ : Phi} (h : φ.le ψ) : ∀ {x : AV} {v : Value}, VR φ x v → VR ψ x v
  | _, _, .bool b => .bool b
  | _, _, .int k n => .int k n
  | _, _, .str b => .str b
  | _, _, .ptrNil => .ptrNil
  | _, _, .ptr id off p hp => .ptr id off p (h _ _ hp)
  | _, _, .gptr g off => .gptr g off
  | _, _, .sliceNil ex es => .sliceNil ex es
  | _, _, .slice id off len cap ex es a cap' hl hc hx ha => .slice id off len cap ex es a cap' hl hc hx fun k => let ⟨p, h1, h2⟩ := ha k; ⟨p, h _ _ h1, h2⟩
  | _, _, .mapNil => .mapNil
  | _, _, .map r p hp => .map r p (h _ _ hp)
  | _, _, .func f xs ys as bs hf hx hy => .func f xs ys as bs hf (LR.mono h hx) (LR.mono h hy)
  | _, _, .yieldF l p hp => .yieldF l p (h _ _ hp)
  | _, _, .nilFunc => .nilFunc
  | _, _, .iface t x v hv => .iface t x v (VR.mono h hv)
  | _, _, .nilIface => .nilIface
  | _, _, .agg xs vs hv => .agg xs vs (LR.mono h hv)
  | _, _, .tuple xs vs hv => .tuple xs vs (LR.mono h hv)
theorem LR.mono {φ ψ : Phi} (h : φ.le ψ) : ∀ {xs : List AV} {vs : List Value}, LR φ xs vs → LR ψ xs vs
  | _, _, .nil => .nil
  | _, _, .cons hv ht => .cons (VR.mono h hv) (LR.mono h ht)
end

theorem LR.length {φ : Phi} : ∀ {xs : List AV} {vs : List Value}, LR φ xs vs → xs.length = vs.length
  | _, _, .nil => rfl
  | _, _, .cons _ t => by simp [LR.length t]
theorem LR.get {φ : Phi} : ∀ {xs : List AV} {vs : List Value}, LR φ xs vs → ∀ {i : Nat} {x : AV}, xs[i]? = some x → ∃ v, vs[i]? = some v ∧ VR φ x v
  | _, _, .nil, i, x, h => by simp at h
  | _, _, .cons hv ht, 0, x, h => by simp at h; subst h; exact ⟨_, rfl, hv⟩
  | _, _, .cons hv ht, i + 1, x, h => by simp at h; obtain ⟨v, h1, h2⟩ := LR.get ht h; exact ⟨v, by simpa using h1, h2⟩
theorem LR.append {φ : Phi} : ∀ {xs ys : List AV} {vs ws : List Value}, LR φ xs vs → LR φ ys ws → LR φ (xs ++ ys) (vs ++ ws)
  | _, _, _, _, .nil, k => k
  | _, _, _, _, .cons hv ht, k => .cons hv (LR.append ht k)
theorem LR.take {φ : Phi} : ∀ {xs : List AV} {vs : List Value} (n : Nat), LR φ xs vs → LR φ (xs.take n) (vs.take n)
  | _, _, 0, _ => by simp; exact .nil
  | _, _, n + 1, .nil => by simp; exact .nil
  | _, _, n + 1, .cons hv ht => by simp; exact .cons hv (LR.take n ht)
theorem LR.drop {φ : Phi} : ∀ {xs : List AV} {vs : List Value} (n : Nat), LR φ xs vs → LR φ (xs.drop n) (vs.drop n)
  | _, _, 0, h => h
  | _, _, n + 1, .nil => by simp; exact .nil
  | _, _, n + 1, .cons hv ht => by simpa using LR.drop n ht
theorem LR.of_get {φ : Phi} : ∀ {xs : List AV} {vs : List Value}, xs.length = vs.length → (∀ (i : Nat) (x : AV), xs[i]? = some x → ∃ v, vs[i]? = some v ∧ VR φ x v) → LR φ xs vs
  | [], [], _, _ => .nil
  | x :: xs, v :: vs, hl, h => by
    obtain ⟨v', h1, h2⟩ := h 0 x (by simp)
    simp at h1; subst h1
    exact .cons h2 (LR.of_get (by simpa using hl) fun i y hy => by simpa using h (i + 1) y (by simpa using hy))

/-- A constant without addresses stands for itself. -/
theorem mapO_some {α β : Type} {f : α → Option β} : ∀ {l : List α} {r : List β}, mapO f l = some r → l.length = r.length ∧ ∀ (i : Nat) (x : α), l[i]? = some x → ∃ y, f x = some y ∧ r[i]? = some y
  | [], r, h => by simp [mapO] at h; subst h; simp
  | x :: xs, r, h => by
    simp only [mapO] at h
    cases hx : f x with
    | none => simp [hx] at h
    | some y =>
      cases hr : mapO f xs with
      | none => simp [hx, hr] at h
      | some ys =>
        simp [hx, hr] at h; subst h
        obtain ⟨h1, h2⟩ := mapO_some hr
        refine ⟨by simp [h1], fun i z hz => ?_⟩
        cases i with
        | zero => simp at hz; subst hz; exact ⟨y, hx, rfl⟩
        | succ i => simpa using h2 i z (by simpa using hz)
theorem mapO_LR {φ : Phi} {f : Value → Option AV} (hf : ∀ v x, f v = some x → VR φ x v) : ∀ {l : List Value} {r : List AV}, mapO f l = some r → LR φ r l
  | [], r, h => by simp [mapO] at h; subst h; exact .nil
  | v :: vs, r, h => by
    simp only [mapO] at h
    cases hx : f v with
    | none => simp [hx] at h
    | some y =>
      cases hr : mapO f vs with
      | none => simp [hx, hr] at h
      | some ys => simp [hx, hr] at h; subst h; exact .cons (hf _ _ hx) (mapO_LR hf hr)
theorem ofConst_VR {φ : Phi} : ∀ (n : Nat) (v : Value) (x : AV), ofConst n v = some x → VR φ x v
  | 0, v, x, h => by simp [ofConst] at h
  | n + 1, v, x, h => by
    unfold ofConst at h
    split at h <;> simp_all
    case h_2 => subst h; exact .bool _
    case h_3 => subst h; exact .int _ _
    case h_4 => subst h; exact .str _
    case h_5 => subst h; exact .ptrNil
    case h_6 => subst h; exact .sliceNil _ _
    case h_7 => subst h; exact .mapNil
    case h_8 => subst h; exact .nilFunc
    case h_9 => subst h; exact .nilIface
    case h_10 =>
      split at h <;> simp at h
      rename_i hl; subst h; exact .agg _ _ (mapO_LR (ofConst_VR _) hl)
    case h_11 =>
      split at h <;> simp at h
      rename_i hl; subst h; exact .tuple _ _ (mapO_LR (ofConst_VR _) hl)
end Go.Ev

/-
  Operations that write nothing: what the abstract machine says is what the machine does.
-/
namespace Go.Ev

def ER (φ : Phi) (e : AV × AV × Nat) (m : MapEntry) : Prop := VR φ e.1 m.key ∧ VR φ e.2.1 m.val ∧ m.born = e.2.2
inductive ERs (φ : Phi) : List (AV × AV × Nat) → List MapEntry → Prop
  | nil : ERs φ [] []
  | cons {e : AV × AV × Nat} {m : MapEntry} {es : List (AV × AV × Nat)} {ms : List MapEntry} (h : ER φ e m) (t : ERs φ es ms) : ERs φ (e :: es) (m :: ms)
theorem ERs.mono {φ ψ : Phi} (h : φ.le ψ) {es : List (AV × AV × Nat)} {ms : List MapEntry} (k : ERs φ es ms) : ERs ψ es ms := by
  induction k with
  | nil => exact .nil
  | cons hh _ ih => exact .cons ⟨hh.1.mono h, hh.2.1.mono h, hh.2.2⟩ ih
theorem ERs.length {φ : Phi} {es : List (AV × AV × Nat)} {ms : List MapEntry} (k : ERs φ es ms) : es.length = ms.length := by
  induction k with
  | nil => rfl
  | cons _ _ ih => simp [ih]
theorem ERs.get {φ : Phi} {es : List (AV × AV × Nat)} {ms : List MapEntry} (k : ERs φ es ms) {i : Nat} {e : AV × AV × Nat} (h : es[i]? = some e) : ∃ m, ms[i]? = some m ∧ ER φ e m := by
  induction k generalizing i with
  | nil => simp at h
  | cons hh _ ih =>
    cases i with
    | zero => simp at h; subst h; exact ⟨_, rfl, hh⟩
    | succ i => simpa using ih (by simpa using h)

/-- slots of a frame -/
structure TR (φ : Phi) (nt : Nat) (tm : Tr AV) (ts : Array Value) : Prop where
  size : ts.size = nt
  get : ∀ t v, tm.get t = some v → ∃ v', ts[t]? = some v' ∧ VR φ v v'
theorem TR.mono {φ ψ : Phi} (h : φ.le ψ) {nt : Nat} {tm : Tr AV} {ts : Array Value} (k : TR φ nt tm ts) : TR ψ nt tm ts :=
  ⟨k.size, fun t v hv => let ⟨v', h1, h2⟩ := k.get t v hv; ⟨v', h1, h2.mono h⟩⟩
theorem TR.set {φ : Phi} {nt : Nat} {tm : Tr AV} {ts : Array Value} (k : TR φ nt tm ts) {d : Nat} {x : AV} {v : Value} (h : VR φ x v) (hd : d < nt) :
    TR φ nt (tm.set (some x) d) (ts.setIfInBounds d v) := by
  refine ⟨by simp [k.size], fun t y hy => ?_⟩
  rw [Tr.get_set] at hy
  by_cases he : d = t
  · subst he; simp at hy; subst hy
    exact ⟨v, by rw [Array.getElem?_setIfInBounds]; simp [k.size, hd], h⟩
  · rw [if_neg he] at hy
    obtain ⟨v', h1, h2⟩ := k.get t y hy
    exact ⟨v', by rw [Array.getElem?_setIfInBounds, if_neg he]; exact h1, h2⟩

/-- an object in its place -/
def OR (φ : Phi) (p : Place) (w : World) : AObj → Prop
  | .cells c e fz => ∃ cs fr, w.heap[p.b]? = some (.cells cs e fr) ∧ cs.size = p.S ∧ p.base + c.length ≤ p.S ∧
      (∀ (i : Nat) (x : AV), c[i]? = some x → x.one = true ∧ ∃ v, cs[p.base + i]? = some v ∧ VR φ x v) ∧
      (fz = false → ∀ i, p.base ≤ i → i < p.S → ¬ (fr.1 ≤ i ∧ i < fr.2))
  | .map es clock => ∃ ms, w.heap[p.b]? = some (.map ms clock) ∧ ERs φ es ms.toList
  | .strIter s pos => ∃ b : ByteArray, w.heap[p.b]? = some (.stringIter b pos) ∧ b.data.toList = s ∧ p.base = 0
  | .mapIter m since seen stepped => ∃ pm, w.heap[p.b]? = some (.mapIter (some pm.b) since seen.toArray stepped) ∧ φ m = some pm ∧ p.base = 0
  | .loop st pend fn nt tmps params asg body d => ∃ ts pd, w.heap[p.b]? = some (.loop { state := st, pending := pend, fn := fn, tmps := ts, params := params, assign := asg, body := body, defers := pd.b }) ∧
      TR φ nt tmps ts ∧ φ d = some pd
  | .deferred true => w.heap[p.b]? = some (.deferred (some []))
  | .deferred false => w.heap[p.b]? = some (.deferred none)
theorem OR.mono {φ ψ : Phi} (h : φ.le ψ) {p : Place} {w w' : World} (hw : w'.heap[p.b]? = w.heap[p.b]?) {o : AObj} (k : OR φ p w o) : OR ψ p w' o := by
  cases o with
  | cells c e fz =>
    obtain ⟨cs, fr, h1, h2, h3, h4, h5⟩ := k
    exact ⟨cs, fr, by rw [hw, h1], h2, h3, fun i x hx => ⟨(h4 i x hx).1, let ⟨v, a, b⟩ := (h4 i x hx).2; ⟨v, a, b.mono h⟩⟩, h5⟩
  | map es clock => obtain ⟨ms, h1, h2⟩ := k; exact ⟨ms, by rw [hw, h1], h2.mono h⟩
  | strIter s pos => obtain ⟨b, h1, h2⟩ := k; exact ⟨b, by rw [hw, h1], h2⟩
  | mapIter m since seen stepped => obtain ⟨pm, h1, h2, h3⟩ := k; exact ⟨pm, by rw [hw, h1], h _ _ h2, h3⟩
  | loop st pend fn nt tmps params asg body d => obtain ⟨ts, pd, h1, h2, h3⟩ := k; exact ⟨ts, pd, by rw [hw, h1], h2.mono h, h _ _ h3⟩
  | deferred b => cases b <;> exact hw.trans k

/-- a block that no living abstract block stands for -/
def Fgn (φ : Phi) (H : AH) (b : Nat) : Prop := ∀ i p, (H.get i).isSome = true → φ i = some p → p.b ≠ b

structure HR (φ : Phi) (H : AH) (w : World) : Prop where
  ob : ∀ i o, H.get i = some o → ∃ p, φ i = some p ∧ OR φ p w o
  inj : ∀ i j p q, (H.get i).isSome = true → (H.get j).isSome = true → φ i = some p → φ j = some q → p.b = q.b → i = j
  new : ∀ i, H.n ≤ i → φ i = none
  gl : ∀ g c, H.gl.get g = some c → Fgn φ H g ∧ g < w.heap.size ∧ ∃ cs e fr, w.heap[g]? = some (.cells cs e fr) ∧ ∀ (i : Nat) (x : AV), c[i]? = some x → ∃ v, cs[i]? = some v ∧ VR φ x v
  z : ∀ i, H.whole i = true → i < H.n ∧ ∀ p, φ i = some p → p.base = 0

structure Ctx.Ok0 (C : Ctx) : Prop where
  tt : ∀ (t : TypeId) (i : TypeInfo), C.tt.get t = some i → C.P.info? t = some i
  ft : ∀ (f : FuncId) (fn : Func), C.ft.get f = some fn → C.P.funcs[f]? = some fn
  nm : ∀ (f : FuncId) (fn : Func), C.P.funcs[f]? = some fn → (fn.name == "runtime.NumGoroutine") = false
  mixed : C.P.follows .mixedOrders = true

section
variable {C : Ctx} (hC : C.Ok0) {φ : Phi}
 include hC
theorem und_ok {t : TypeId} {d : TypeDesc} (h : und C t = some d) : C.P.underlying t = some d := by
  unfold und at h
  unfold Program.underlying
  cases hi : C.tt.get t with
  | none => simp [hi] at h
  | some i =>
    rw [hC.tt t i hi]
    simp only [hi] at h
    obtain ⟨desc, str, size, bytes, hp, al, fal, zero, cmp, ms⟩ := i
    cases desc with
    | named s u =>
      simp only at h ⊢
      cases hj : C.tt.get u with
      | none => simp [hj] at h
      | some j => simp only [hj] at h; rw [hC.tt u j hj]; exact h
    | _ => simpa using h
theorem run_und {t : TypeId} {d : TypeDesc} (h : und C t = some d) (w : World) : (underlying t).run C.P w = .ok d w := run_underlying (und_ok hC h) w
theorem run_size {t : TypeId} {n : Nat} (h : sizeT C t = some n) (w : World) : (sizeOf t).run C.P w = .ok n w := by
  unfold sizeT at h
  split at h <;> simp at h
  rename_i i hi
  simp [sizeOf, typeInfo, hC.tt t i hi, h]
theorem run_isAggT {t : TypeId} {d : TypeDesc} (h : und C t = some d) (w : World) : (isAgg t).run C.P w = .ok (isAggD d) w := by
  unfold isAgg
  simp only [Sem.run_bind, run_und hC h, Result.andThen_ok]
  cases d <;> rfl
theorem run_zero {t : TypeId} {z : AV} (h : zeroV C t = some z) (w : World) : ∃ v, (zeroValue t).run C.P w = .ok v w ∧ VR φ z v ∧ ∃ i, C.P.info? t = some i ∧ i.zero = some v := by
  unfold zeroV at h
  split at h
  · rename_i i hi
    split at h
    · rename_i v hv
      exact ⟨v, by simp [zeroValue, typeInfo, hC.tt t i hi, hv], ofConst_VR _ _ _ h, i, hC.tt t i hi, hv⟩
    · cases h
  · cases h
end

theorem VR.cells {φ : Phi} {x : AV} {v : Value} (h : VR φ x v) : LR φ x.cells v.cells.toList := by
  cases h <;> first
    | (rename_i h; exact h)
    | (simp only [AV.cells, Value.cells]; refine .cons ?_ .nil; constructor <;> assumption)
theorem VR.one {φ : Phi} {x : AV} {v : Value} (h : VR φ x v) : v.oneCell' = x.one := by cases h <;> rfl
theorem LR.ones {φ : Phi} : ∀ {xs : List AV} {vs : List Value}, LR φ xs vs → xs.all AV.one = true → ∀ v ∈ vs, v.oneCell' = true
  | _, _, .nil, _ => by simp
  | _, _, .cons hv ht, h => by
    simp at h
    intro v hm
    cases hm with
    | head => rw [hv.one]; exact h.1
    | tail _ hm => exact LR.ones ht (by simp; exact h.2) v hm

/-- what an operand stands for -/
def evC (ts : Array Value) : Operand → Value
  | .tmp t => ts.getD t undef
  | .const v => v
  | .global g => .pointer (some ⟨g, 0, none⟩)
  | .func f => .func (.func f) #[] #[]
theorem eval_ok {φ : Phi} {nt : Nat} {tm : Tr AV} {ts : Array Value} (k : TR φ nt tm ts) {x : Operand} {v : AV} (h : eval tm x = some v) : VR φ v (evC ts x) := by
  cases x with
  | tmp t =>
    obtain ⟨v', h1, h2⟩ := k.get t v h
    simp only [evC, Array.getD_eq_getD_getElem?, h1, Option.getD_some]; exact h2
  | const c => exact ofConst_VR _ _ _ h
  | func f => simp [eval] at h; subst h; exact .func _ _ _ _ _ (by simp) .nil .nil
  | global g => simp [eval] at h; subst h; exact .gptr g 0

theorem sub_some {α : Type} {l r : List α} {off n : Nat} (h : sub l off n = some r) : r = (l.drop off).take n ∧ r.length = n ∧ (n = 0 ∨ off + n ≤ l.length) := by
  unfold sub at h
  simp only [Tr.bif_eq] at h
  split at h <;> simp at h
  rename_i hb
  have hl := Nat.eq_of_beq_eq_true hb
  subst h
  refine ⟨rfl, hl, ?_⟩
  simp at hl
  omega

theorem Addr.add_none (b o n : Nat) : (⟨b, o, none⟩ : Addr).add n = ⟨b, o + n, none⟩ := by
  unfold Addr.add
  split
  · rename_i h; subst h; rfl
  · rfl

theorem loadCellsFrom_run {P : Program} {w : World} (b o : Nat) : ∀ (n i : Nat) (l : List Value) (acc : Array Value), l.length = n →
    (∀ j v, l[j]? = some v → w.cell? ⟨b, o + (i + j), none⟩ = some v) → (loadCellsFrom ⟨b, o, none⟩ i n acc).run P w = .ok (acc ++ l.toArray) w
  | 0, i, l, acc, hl, h => by
    have : l = [] := List.length_eq_zero_iff.1 hl
    subst this
    simp [loadCellsFrom]
  | n + 1, i, l, acc, hl, h => by
    cases l with
    | nil => simp at hl
    | cons v l =>
      have h0 := h 0 v (by simp)
      simp only [loadCellsFrom, Sem.run_bind, run_load, Addr.add_none, Nat.add_zero] at h0 ⊢
      rw [h0]
      simp only [Result.andThen_ok]
      rw [loadCellsFrom_run b o n (i + 1) l (acc.push v) (by simpa using hl) fun j u hu => by
        have := h (j + 1) u (by simpa using hu)
        rw [show i + 1 + j = i + (j + 1) from by omega]; exact this]
      simp
theorem loadCells_run {P : Program} {w : World} (b o : Nat) (l : List Value) (h : ∀ (j : Nat) v, l[j]? = some v → w.cell? ⟨b, o + j, none⟩ = some v) :
    (loadCells ⟨b, o, none⟩ l.length).run P w = .ok l.toArray w := by
  have := loadCellsFrom_run (P := P) (w := w) b o l.length 0 l #[] rfl fun j v hv => by simpa using h j v hv
  simpa [loadCells] using this

theorem cell_of {w : World} {b : Nat} {cs : Array Value} {e : TypeId} {fr : Nat × Nat} (h : w.heap[b]? = some (.cells cs e fr)) (o : Nat) : w.cell? ⟨b, o, none⟩ = cs[o]? := by
  simp [World.cell?, h]

theorem read_from {φ : Phi} {c : List AV} {cs : Array Value} {base : Nat} (h4 : ∀ (i : Nat) (x : AV), c[i]? = some x → ∃ v, cs[base + i]? = some v ∧ VR φ x v)
    {off n : Nat} {l : List AV} (hs : sub c off n = some l) {b : Nat} {w : World} {e : TypeId} {fr : Nat × Nat} (h1 : w.heap[b]? = some (.cells cs e fr)) :
    ∃ vs : List Value, vs.length = n ∧ LR φ l vs ∧ ∀ P (w1 : World), w1.heap = w.heap → (loadCells ⟨b, base + off, none⟩ n).run P w1 = .ok vs.toArray w1 := by
  obtain ⟨hl, hn, hb⟩ := sub_some hs
  have hget : ∀ (j : Nat), j < n → ∃ x, l[j]? = some x ∧ c[off + j]? = some x := by
    intro j hj
    have hlt : j < l.length := by omega
    have e1 : l[j]? = some l[j] := List.getElem?_eq_getElem hlt
    have e2 : l[j]? = c[off + j]? := by
      conv => lhs; rw [hl]
      rw [List.getElem?_take_of_lt hj, List.getElem?_drop]
    exact ⟨l[j], e1, e2 ▸ e1⟩
  let vs : List Value := (List.range n).map fun j => cs.getD (base + off + j) undef
  have hvs : ∀ (j : Nat) v, vs[j]? = some v → cs[base + off + j]? = some v := by
    intro j v hv
    have hj : j < n := by
      rcases Nat.lt_or_ge j n with h | h
      · exact h
      · simp [vs, List.getElem?_eq_none (l := List.range n) (by simpa using h)] at hv
    obtain ⟨x, _, hx⟩ := hget j hj
    obtain ⟨v', hv', _⟩ := h4 (off + j) x hx
    rw [← Nat.add_assoc] at hv'
    simp only [vs, List.getElem?_map, List.getElem?_range hj, Option.map_some, Array.getD_eq_getD_getElem?, hv', Option.getD_some] at hv
    rw [hv', ← hv]
  refine ⟨vs, by simp [vs], LR.of_get (by simp [vs, hn]) ?_, fun P w1 hw1 => ?_⟩
  · intro j x hx
    have hj : j < n := by
      rcases Nat.lt_or_ge j n with h | h
      · exact h
      · rw [List.getElem?_eq_none (by omega)] at hx; cases hx
    obtain ⟨y, hy, hc⟩ := hget j hj
    rw [hx] at hy; cases hy
    obtain ⟨v', hv', hr⟩ := h4 (off + j) x hc
    rw [← Nat.add_assoc] at hv'
    exact ⟨v', by simp only [vs, List.getElem?_map, List.getElem?_range hj, Option.map_some, Array.getD_eq_getD_getElem?, hv', Option.getD_some], hr⟩
  · have := loadCells_run (P := P) (w := w1) b (base + off) vs fun j v hv => by rw [cell_of (hw1 ▸ h1)]; exact hvs j v hv
    rw [show vs.length = n from by simp [vs]] at this
    exact this
/-- Reading cells. -/
theorem read_cells {φ : Phi} {H : AH} {w : World} (hH : HR φ H w) {id : Nat} {c : List AV} {e : TypeId} {fz : Bool} (hg : H.get id = some (.cells c e fz)) {p : Place} (hp : φ id = some p)
    {off n : Nat} {l : List AV} (hs : sub c off n = some l) :
    ∃ vs : List Value, vs.length = n ∧ LR φ l vs ∧ ∀ P (w1 : World), w1.heap = w.heap → (loadCells ⟨p.b, p.base + off, none⟩ n).run P w1 = .ok vs.toArray w1 := by
  obtain ⟨q, hq, cs, fr, h1, h2, h3, h4, h5⟩ := hH.ob id _ hg
  have : q = p := by rw [hp] at hq; cases hq; rfl
  subst this
  exact read_from (fun i x hx => (h4 i x hx).2) hs h1

section
variable {C : Ctx} (hC : C.Ok0) {φ : Phi} {H : AH} {w : World} (hH : HR φ H w)
 include hC
 omit hH in
theorem loadC_ok {t : TypeId} {off : Nat} {x : AV} {c : List AV} (h : loadC C c t off = some x) {cs : Array Value} {base b : Nat} {e : TypeId} {fr : Nat × Nat} (h1 : w.heap[b]? = some (.cells cs e fr))
    (h4 : ∀ (i : Nat) (x : AV), c[i]? = some x → ∃ v, cs[base + i]? = some v ∧ VR φ x v) :
    ∃ v, (loadVar t ⟨b, base + off, none⟩).run C.P w = .ok v w ∧ VR φ x v := by
  unfold loadC at h
  split at h
  · rename_i d hd
    simp only [Tr.bif_eq] at h
    by_cases ha : isAggD d = true
    · rw [if_pos ha] at h
      split at h
      · rename_i n hn
        split at h <;> simp at h
        rename_i l hl
        subst h
        obtain ⟨vs, hv1, hv2, hv3⟩ := read_from h4 hl h1
        refine ⟨.agg vs.toArray, ?_, .agg _ _ (by simpa using hv2)⟩
        unfold loadVar
        simp [run_isAggT hC hd, ha, run_size hC hn, hv3 C.P w rfl]
      · cases h
    · rw [if_neg ha] at h
      obtain ⟨v, hv, hr⟩ := h4 off x h
      refine ⟨v, ?_, hr⟩
      unfold loadVar
      simp [run_isAggT hC hd, ha, cell_of h1, hv]
  · cases h
 include hH
theorem loadV_ok {t : TypeId} {id off : Nat} {x : AV} (h : loadV C H t id off = some x) {p : Place} (hp : φ id = some p) :
    ∃ v, (loadVar t ⟨p.b, p.base + off, none⟩).run C.P w = .ok v w ∧ VR φ x v := by
  unfold loadV at h
  split at h
  · rename_i c e fz hg
    obtain ⟨q, hq, cs, fr, h1, h2, h3, h4, h5⟩ := hH.ob id _ hg
    have : q = p := by rw [hp] at hq; cases hq; rfl
    subst this
    exact loadC_ok hC h h1 fun i x hx => (h4 i x hx).2
  · cases h
theorem loadG_ok {t : TypeId} {g off : Nat} {x : AV} (h : loadG C H t g off = some x) :
    ∃ v, (loadVar t ⟨g, off, none⟩).run C.P w = .ok v w ∧ VR φ x v := by
  unfold loadG at h
  split at h
  · rename_i c hg
    obtain ⟨_, _, cs, e, fr, h1, h4⟩ := hH.gl g c hg
    have := loadC_ok (base := 0) hC h h1 fun i x hx => by rw [Nat.zero_add]; exact h4 i x hx
    simpa using this
  · cases h
end
end Go.Ev

/-
  Numbers, equality, keys.
-/
namespace Go.Ev

theorem wrap_in (k : IntKind) (n : Int) (h0 : 0 ≤ n) (h1 : n ≤ kmax k) : k.wrap n = n := by
  cases k <;> simp [IntKind.wrap, IntKind.bits, IntKind.signed, kmax] at h1 ⊢ <;> omega
theorem wrap_i64 (n : Int) : IntKind.wrap .i64 n = if n % 18446744073709551616 ≥ 9223372036854775808 then n % 18446744073709551616 - 18446744073709551616 else n % 18446744073709551616 := by
  have h1 : (2 : Int) ^ 64 = 18446744073709551616 := by decide
  have h2 : (2 : Int) ^ (64 - 1) = 9223372036854775808 := by decide
  simp only [IntKind.wrap, IntKind.signed, IntKind.bits, Bool.true_and, decide_eq_true_eq, h1, h2]
theorem fwrap_eq (k : IntKind) (n : Int) : fwrap k n = k.wrap n := by
  cases k
  case i64 =>
    cases n with
    | ofNat m =>
      simp only [fwrap, Tr.bif_eq]
      split
      · rename_i h; have := Nat.le_of_ble_eq_true h; rw [wrap_i64]; have e : Int.ofNat m = (m : Int) := rfl; rw [e]; split <;> omega
      · rfl
    | negSucc m =>
      simp only [fwrap, Tr.bif_eq]
      split
      · rename_i h; have := Nat.le_of_ble_eq_true h; rw [wrap_i64]; split <;> omega
      · rfl
  case u64 =>
    cases n with
    | ofNat m =>
      have e : Nat.mod m 18446744073709551616 = m % 18446744073709551616 := rfl
      simp only [fwrap, e]
      simp [IntKind.wrap, IntKind.bits, IntKind.signed]
    | negSucc m => simp only [fwrap]
  case u32 =>
    cases n with
    | ofNat m =>
      have e : Nat.mod m 4294967296 = m % 4294967296 := rfl
      simp only [fwrap, e]
      simp [IntKind.wrap, IntKind.bits, IntKind.signed]
    | negSucc m => simp only [fwrap]
  case u16 =>
    cases n with
    | ofNat m =>
      have e : Nat.mod m 65536 = m % 65536 := rfl
      simp only [fwrap, e]
      simp [IntKind.wrap, IntKind.bits, IntKind.signed]
    | negSucc m => simp only [fwrap]
  case u8 =>
    cases n with
    | ofNat m =>
      have e : Nat.mod m 256 = m % 256 := rfl
      simp only [fwrap, e]
      simp [IntKind.wrap, IntKind.bits, IntKind.signed]
    | negSucc m => simp only [fwrap]
  all_goals simp only [fwrap]

theorem intBitsSlow_ok {P : Program} (op : BinOp) (k : IntKind) (x y : Int) {r : Int} (h : intBitsSlow op k x y = some r) (w : World) : (Op.intBits op k x y).run P w = .ok (.int k r) w := by
  cases op <;> simp [intBitsSlow] at h <;> subst h <;> simp [Op.intBits]

theorem kmax_lt (k : IntKind) : kmax k < 2 ^ k.bits := by cases k <;> simp [kmax, IntKind.bits]
theorem ofInt_nat (k : IntKind) (a : Nat) (h : a ≤ kmax k) : (BitVec.ofInt k.bits (Int.ofNat a)).toNat = a := by
  have := kmax_lt k
  rw [show (Int.ofNat a) = ((a : Nat) : Int) from rfl, BitVec.ofInt_natCast]
  simp only [BitVec.toNat_ofNat]
  exact Nat.mod_eq_of_lt (by omega)
theorem kmax_pow (k : IntKind) : ∃ n, kmax k + 1 = 2 ^ n := by
  cases k <;> simp only [kmax]
  · exact ⟨7, rfl⟩
  · exact ⟨15, rfl⟩
  · exact ⟨31, rfl⟩
  · exact ⟨63, rfl⟩
  · exact ⟨8, rfl⟩
  · exact ⟨16, rfl⟩
  · exact ⟨32, rfl⟩
  · exact ⟨64, rfl⟩
theorem wrap_nat (k : IntKind) (m : Nat) (h : m ≤ kmax k) : k.wrap (m : Int) = Int.ofNat m := wrap_in k m (by omega) (by omega)
theorem intBits_ok {P : Program} (op : BinOp) (k : IntKind) (x y : Int) {r : Int} (h : intBits op k x y = some r) (w : World) : (Op.intBits op k x y).run P w = .ok (.int k r) w := by
  unfold intBits at h
  split at h
  · rename_i a b
    simp only [Tr.bif_eq, Bool.and_eq_true] at h
    split at h
    · rename_i hb
      have ha := Nat.le_of_ble_eq_true hb.1
      have hb := Nat.le_of_ble_eq_true hb.2
      obtain ⟨n, hn⟩ := kmax_pow k
      split at h
      · simp at h; subst h
        simp only [Op.intBits, Sem.run_pure, BitVec.toNat_and, ofInt_nat k a ha, ofInt_nat k b hb]
        rw [wrap_nat k _ (by have := Nat.and_le_left (n := a) (m := b); omega)]; rfl
      · simp at h; subst h
        simp only [Op.intBits, Sem.run_pure, BitVec.toNat_or, ofInt_nat k a ha, ofInt_nat k b hb]
        rw [wrap_nat k _ (by have := Nat.or_lt_two_pow (x := a) (y := b) (n := n) (by omega) (by omega); omega)]; rfl
      · simp at h; subst h
        simp only [Op.intBits, Sem.run_pure, BitVec.toNat_xor, ofInt_nat k a ha, ofInt_nat k b hb]
        rw [wrap_nat k _ (by have := Nat.xor_lt_two_pow (x := a) (y := b) (n := n) (by omega) (by omega); omega)]; rfl
      · exact intBitsSlow_ok _ k _ _ h w
    · exact intBitsSlow_ok _ k _ _ h w
  · exact intBitsSlow_ok _ k _ _ h w

theorem intBin_ok {P : Program} {φ : Phi} (op : BinOp) (t : TypeId) (k yk : IntKind) (x y : Int) {r : AV} (h : intBin op k x yk y = some r) (w : World) :
    ∃ v, (binOp op t (.int k x) (.int yk y)).run P w = .ok v w ∧ VR φ r v := by
  have hb : ∀ {r}, intBits op k x y = some r → op = .and ∨ op = .or ∨ op = .xor ∨ op = .andNot := by
    intro r hr
    unfold intBits at hr
    cases op <;> simp_all [intBitsSlow] <;> (split at hr <;> simp_all) <;> (simp only [Tr.bif_eq] at hr; split at hr <;> simp_all)
  unfold intBin at h
  split at h
  · split at h <;> simp at h
    rename_i s; subst h
    refine ⟨_, ?_, .int _ _⟩
    have hn : ¬ ((Int.ofNat s) < 0) := by simp
    simp only [binOp, Op.shift, if_neg hn, Sem.run_pure, fwrap_eq]
    rfl
  · split at h <;> simp at h
    rename_i s; subst h
    refine ⟨_, ?_, .int _ _⟩
    have hn : ¬ ((Int.ofNat s) < 0) := by simp
    simp only [binOp, Op.shift, if_neg hn, Sem.run_pure]
    rfl
  · rename_i h1 h2
    simp only [Tr.bif_eq, decide_eq_true_eq] at h
    split at h
    · rename_i hk; subst hk
      split at h
      · simp at h; subst h; exact ⟨_, by simp [binOp, Op.intArith, fwrap_eq], .int _ _⟩
      · simp at h; subst h; exact ⟨_, by simp [binOp, Op.intArith, fwrap_eq], .int _ _⟩
      · simp at h; subst h; exact ⟨_, by simp [binOp, Op.intArith, fwrap_eq], .int _ _⟩
      · split at h <;> simp at h
        rename_i hy; subst h; exact ⟨_, by simp [binOp, Op.intDiv, fwrap_eq, hy], .int _ _⟩
      · split at h <;> simp at h
        rename_i hy; subst h; exact ⟨_, by simp [binOp, Op.intDiv, hy], .int _ _⟩
      · simp at h; subst h; exact ⟨.bool (decide (x = y)), by simp [binOp, Op.intCmp]; rfl, .bool _⟩
      · simp at h; subst h; exact ⟨.bool (!decide (x = y)), by simp [binOp, Op.intCmp, bne]; rfl, .bool _⟩
      · simp at h; subst h; exact ⟨_, by simp [binOp, Op.intCmp], .bool _⟩
      · simp at h; subst h; exact ⟨_, by simp [binOp, Op.intCmp], .bool _⟩
      · simp at h; subst h; exact ⟨_, by simp [binOp, Op.intCmp], .bool _⟩
      · simp at h; subst h; exact ⟨_, by simp [binOp, Op.intCmp], .bool _⟩
      · split at h <;> simp at h
        rename_i r hr
        subst h
        refine ⟨_, ?_, .int _ _⟩
        rcases hb hr with e | e | e | e <;> subst e <;> simpa [binOp] using intBits_ok _ _ _ _ hr w
    · cases h

theorem bytes_ext {a b : ByteArray} : a.data.toList = b.data.toList ↔ a = b := by
  constructor
  · intro h
    obtain ⟨⟨x⟩⟩ := a
    obtain ⟨⟨y⟩⟩ := b
    simp at h; subst h; rfl
  · intro h; rw [h]
theorem bytes_beq (a b : ByteArray) : (a.toList == b.toList) = decide (a.data.toList = b.data.toList) := by
  rw [ByteArray.toList_eq, ByteArray.toList_eq]
  by_cases h : a.data.toList = b.data.toList
  · rw [h]; simp
  · rw [decide_eq_false h]; exact beq_eq_false_iff_ne.2 h
theorem strBin_ok {P : Program} {φ : Phi} (op : BinOp) (t : TypeId) (a b : ByteArray) {r : AV} (h : strBin op a.data.toList b.data.toList = some r) (w : World) :
    ∃ v, (binOp op t (.string a) (.string b)).run P w = .ok v w ∧ VR φ r v := by
  have hb := bytes_beq a b
  have e1 := ByteArray.toList_eq a
  have e2 := ByteArray.toList_eq b
  rw [e1, e2] at hb
  cases op <;> simp only [strBin] at h <;> try (cases h; done)
  case add =>
    simp only [Tr.bif_eq] at h
    split at h <;> simp at h
    rename_i hb
    have hb := Nat.le_of_ble_eq_true hb
    subst h
    have e : a.data.toList ++ b.data.toList = (a ++ b).data.toList := by simp
    rw [e]
    refine ⟨_, ?_, .str (a ++ b)⟩
    have h1 : a.data.toList.length = a.size := Array.length_toList
    have h2 : b.data.toList.length = b.size := Array.length_toList
    have hm : IntKind.i64.max = 9223372036854775807 := by decide
    have hs : ¬ (((a.size + b.size : Nat) : Int) > IntKind.i64.max) := by rw [hm]; omega
    simp only [binOp, Op.stringOp, if_neg hs, Sem.run_pure]
  all_goals
    cases h
    refine ⟨_, ?_, .bool _⟩
    simp only [binOp, Op.stringOp, Sem.run_pure, e1, e2, hb]
end Go.Ev

/-
  Parts, equality by type, keys of maps.
-/
namespace Go.Ev
section
variable {C : Ctx} (hC : C.Ok0) {φ : Phi} (w : World)
 include hC
theorem part_ok {t : TypeId} {cs : List AV} {vs : Array Value} (hl : LR φ cs vs.toList) {off : Nat} {x : AV} (h : part C t cs off = some x) :
    ∃ v, (Go.part t vs off).run C.P w = .ok v w ∧ VR φ x v := by
  unfold part at h
  split at h
  · rename_i d hd
    simp only [Tr.bif_eq] at h
    by_cases ha : isAggD d = true
    · rw [if_pos ha] at h
      split at h
      · rename_i n hn
        split at h <;> simp at h
        rename_i l hs
        subst h
        obtain ⟨h1, _, _⟩ := sub_some hs
        refine ⟨.agg (vs.extract off (off + n)), ?_, .agg _ _ ?_⟩
        · unfold Go.part
          simp [run_isAggT hC hd, ha, run_size hC hn]
        · rw [Array.toList_extract, h1]
          simp only [List.extract_eq_take_drop, Nat.add_sub_cancel_left]
          exact (hl.drop off).take n
      · cases h
    · rw [if_neg ha] at h
      obtain ⟨v, h1, h2⟩ := hl.get h
      refine ⟨v, ?_, h2⟩
      have h1' : vs[off]? = some v := by simpa using h1
      unfold Go.part
      simp [run_isAggT hC hd, ha, h1']
  · cases h

theorem eqFields_ok {D : Nat} {eq : TypeId → AV → AV → Option Bool}
    (heq : ∀ t x y r v u, eq t x y = some r → VR φ x v → VR φ y u → (Op.equalIn D t v u).run C.P w = .ok r w)
    {xs ys : List AV} {vs us : Array Value} (hx : LR φ xs vs.toList) (hy : LR φ ys us.toList) :
    ∀ (fs : List Field) (r : Bool), eqFields C eq xs ys fs = some r → (Op.eqFields D vs us fs).run C.P w = .ok r w
  | [], r, h => by simp [eqFields] at h; subst h; simp [Op.eqFields]
  | f :: fs, r, h => by
    simp only [eqFields, Tr.bif_eq] at h
    simp only [Op.eqFields, Sem.run_ite]
    by_cases hn : f.name == "_"
    · rw [if_pos hn] at h
      have : ¬ (f.name ≠ "_") := by simpa using hn
      rw [if_neg this]
      exact eqFields_ok heq hx hy fs r h
    · rw [if_neg hn] at h
      have : f.name ≠ "_" := by simpa using hn
      rw [if_pos this]
      split at h
      · rename_i x y h1 h2
        obtain ⟨v, hv1, hv2⟩ := part_ok hC w hx h1
        obtain ⟨u, hu1, hu2⟩ := part_ok hC w hy h2
        simp only [Sem.run_bind, hv1, hu1, Result.andThen_ok]
        split at h
        · rename_i he
          rw [heq _ _ _ _ _ _ he hv2 hu2]
          simpa using eqFields_ok heq hx hy fs r h
        · rename_i he
          cases h
          rw [heq _ _ _ _ _ _ he hv2 hu2]
          simp
        · cases h
      · cases h
theorem eqElems_ok {D : Nat} {eq : TypeId → AV → AV → Option Bool} {e : TypeId} {n : Nat}
    (heq : ∀ t x y r v u, eq t x y = some r → VR φ x v → VR φ y u → (Op.equalIn D t v u).run C.P w = .ok r w)
    {xs ys : List AV} {vs us : Array Value} (hx : LR φ xs vs.toList) (hy : LR φ ys us.toList) :
    ∀ (len i : Nat) (r : Bool), eqElems C eq e n xs ys len i = some r → (Op.eqItems D e n vs us (List.range' i len)).run C.P w = .ok r w
  | 0, i, r, h => by simp [eqElems] at h; subst h; simp [Op.eqItems]
  | len + 1, i, r, h => by
    simp only [eqElems] at h
    simp only [List.range'_succ, Op.eqItems]
    split at h
    · rename_i x y h1 h2
      obtain ⟨v, hv1, hv2⟩ := part_ok hC w hx h1
      obtain ⟨u, hu1, hu2⟩ := part_ok hC w hy h2
      simp only [Sem.run_bind, hv1, hu1, Result.andThen_ok]
      split at h
      · rename_i he
        rw [heq _ _ _ _ _ _ he hv2 hu2]
        simpa using eqElems_ok heq hx hy len (i + 1) r h
      · rename_i he
        cases h
        rw [heq _ _ _ _ _ _ he hv2 hu2]
        simp
      · cases h
    · cases h
theorem aeq_ok : ∀ (d k : Nat) (t : TypeId) (x y : AV) (r : Bool) (v u : Value), aeq C d t x y = some r → VR φ x v → VR φ y u → (Op.equalIn (d + k) t v u).run C.P w = .ok r w
  | 0, k, t, x, y, r, v, u, h, _, _ => by simp [aeq] at h
  | d + 1, k, t, x, y, r, v, u, h, hv, hu => by
    rw [show d + 1 + k = (d + k) + 1 from by omega]
    unfold aeq at h
    split at h
    · cases h
    · rename_i D hD
      have hU := und_ok hC hD
      split at h
      · cases hv; cases hu; cases h; simp [Op.equalIn, run_underlying hU]
      · cases hv; cases hu
        simp only [Tr.bif_eq, decide_eq_true_eq] at h
        split at h <;> simp at h
        rename_i hk; subst hk; subst h
        simp [Op.equalIn, run_underlying hU]; rfl
      · cases hv; cases hu
        cases h
        simp only [Op.equalIn, Sem.run_bind, run_underlying hU, Result.andThen_ok, Sem.run_pure]
        rw [beq_toListBytes, bytes_beq]
      · cases hv; cases hu <;> cases h <;> simp [Op.equalIn, run_underlying hU]
      · cases hu; cases hv <;> first | (exact absurd rfl (by assumption)) | (cases h; simp [Op.equalIn, run_underlying hU])
      · rename_i e i o j q
        split at h
        · rename_i n hn
          simp only [Tr.bif_eq] at h
          split at h <;> simp at h
          rename_i hij
          have hij := Nat.eq_of_beq_eq_true hij
          subst hij; subst h
          cases hv; rename_i p hp
          cases hu; rename_i p' hp'
          rw [hp] at hp'; cases hp'
          simp only [Op.equalIn, Sem.run_bind, run_underlying hU, Result.andThen_ok, run_size hC hn, sameAddr]
          have : ((⟨p.b, p.base + o, none⟩ : Addr) == ⟨p.b, p.base + q, none⟩) = Nat.beq o q := by
            by_cases h : o = q
            · subst h; simp
            · have h1 : Nat.beq o q = false := by cases h' : Nat.beq o q with | false => rfl | true => exact absurd (Nat.eq_of_beq_eq_true h') h
              rw [h1]
              have hne : (⟨p.b, p.base + o, none⟩ : Addr) ≠ ⟨p.b, p.base + q, none⟩ := by
                intro e; injection e with e1 e2; omega
              exact beq_eq_false_iff_ne.2 hne
          simp [this]
        · cases h
      · cases hv; cases hu <;> cases h <;> simp [Op.equalIn, run_underlying hU]
      · cases hu; cases hv <;> first | (exact absurd rfl (by assumption)) | (cases h; simp [Op.equalIn, run_underlying hU])
      · cases hv; cases hu <;> cases h <;> simp [Op.equalIn, run_underlying hU]
      · cases hu; cases hv <;> first | (exact absurd rfl (by assumption)) | (cases h; simp [Op.equalIn, run_underlying hU])
      · cases hv; cases hu; cases h; simp [Op.equalIn, run_underlying hU]
      · cases hv; cases hu; cases h; simp [Op.equalIn, run_underlying hU]
      · cases hv; cases hu; cases h; simp [Op.equalIn, run_underlying hU]
      · cases hv; cases hu; cases h; simp [Op.equalIn, run_underlying hU]
      · cases hv; cases hu; cases h; simp [Op.equalIn, run_underlying hU]
      · cases hv; cases hu; cases h; simp [Op.equalIn, run_underlying hU]
      · rename_i fs xs ys
        cases hv; rename_i vs hvs
        cases hu; rename_i us hus
        simp only [Tr.bif_eq] at h
        split at h
        · cases h
        · rename_i hst
          have hf : C.P.fieldsOf t = fs := by simp [Program.fieldsOf, hU]
          rw [run_equalIn_struct w (d + k) t vs us (by rw [hf]; exact hU) (by simpa using hst), hf]
          exact eqFields_ok hC w (fun t x y r v u => aeq_ok d k t x y r v u) hvs hus fs.toList r h
      · rename_i len e xs ys
        cases hv; rename_i vs hvs
        cases hu; rename_i us hus
        split at h
        · rename_i n hn
          unfold sizeT at hn
          split at hn <;> simp at hn
          rename_i i hi
          have hi' := hC.tt e i hi
          rw [run_equalIn_array w (d + k) vs us hU hi']
          have hc : C.P.cellsOf e = n := by simp [Program.cellsOf, hi', hn]
          rw [hc, List.range_eq_range']
          exact eqElems_ok hC w (fun t x y r v u => aeq_ok d k t x y r v u) hvs hus len 0 r h
        · cases h
      · cases h
theorem aeq_equal {t : TypeId} {x y : AV} {r : Bool} {v u : Value} (h : aeq C eqDepth t x y = some r) (hv : VR φ x v) (hu : VR φ y u) : (Op.equal t v u).run C.P w = .ok r w :=
  aeq_ok hC w eqDepth 9984 t x y r v u h hv hu

/-! keys -/
theorem ckFields_ok {D : Nat} {ck : TypeId → AV → Bool} (hck : ∀ em t x v, ck t x = true → VR φ x v → (Instr.checkKey em D t v).run C.P w = .ok () w) (em : Bool)
    {xs : List AV} {vs : Array Value} (hx : LR φ xs vs.toList) : ∀ (fs : List Field), ckFields C ck xs fs = true →
    (forIn fs PUnit.unit fun f (_ : PUnit) => (if f.name ≠ "_" then (do Instr.checkKey em D f.type (← Go.part f.type vs f.offset); pure (ForInStep.yield PUnit.unit)) else pure (ForInStep.yield PUnit.unit) : Sem (ForInStep PUnit))).run C.P w = .ok PUnit.unit w
  | [], _ => by simp
  | f :: fs, h => by
    simp only [ckFields, Tr.bif_eq] at h
    simp only [List.forIn_cons, Sem.run_bind, Sem.run_ite]
    by_cases hn : f.name == "_"
    · rw [if_pos hn] at h
      have : ¬ (f.name ≠ "_") := by simpa using hn
      rw [if_neg this]
      simp only [Sem.run_pure, Result.andThen_ok]
      exact ckFields_ok hck em hx fs h
    · rw [if_neg hn] at h
      have : f.name ≠ "_" := by simpa using hn
      rw [if_pos this]
      split at h
      · rename_i x h1
        simp at h
        obtain ⟨v, hv1, hv2⟩ := part_ok hC w hx h1
        simp only [Sem.run_bind, hv1, Result.andThen_ok, hck em _ _ _ h.1 hv2, Sem.run_pure]
        exact ckFields_ok hck em hx fs h.2
      · cases h
theorem ckElems_ok {D : Nat} {ck : TypeId → AV → Bool} {e : TypeId} {n : Nat} (hs : sizeT C e = some n) (hck : ∀ em t x v, ck t x = true → VR φ x v → (Instr.checkKey em D t v).run C.P w = .ok () w) (em : Bool)
    {xs : List AV} {vs : Array Value} (hx : LR φ xs vs.toList) : ∀ (len i : Nat), ckElems C ck e n xs len i = true →
    (forIn (List.range' i len) PUnit.unit fun j (_ : PUnit) => (do Instr.checkKey em D e (← Go.part e vs (j * (← sizeOf e))); pure (ForInStep.yield PUnit.unit) : Sem (ForInStep PUnit))).run C.P w = .ok PUnit.unit w
  | 0, i, _ => by simp
  | len + 1, i, h => by
    simp only [ckElems] at h
    simp only [List.range'_succ, List.forIn_cons, Sem.run_bind, run_size hC hs, Result.andThen_ok]
    split at h
    · rename_i x h1
      simp at h
      obtain ⟨v, hv1, hv2⟩ := part_ok hC w hx h1
      simp only [hv1, Result.andThen_ok, hck em _ _ _ h.1 hv2, Sem.run_pure]
      have := ckElems_ok hs hck em hx len (i + 1) h.2
      simpa only [Sem.run_bind, run_size hC hs, Result.andThen_ok] using this
    · cases h
theorem ckA_ok : ∀ (d k : Nat) (em : Bool) (t : TypeId) (x : AV) (v : Value), ckA C d t x = true → VR φ x v → (Instr.checkKey em (d + k) t v).run C.P w = .ok () w
  | 0, k, em, t, x, v, h, _ => by simp [ckA] at h
  | d + 1, k, em, t, x, v, h, hv => by
    rw [show d + 1 + k = (d + k) + 1 from by omega]
    unfold ckA at h
    split at h
    · cases h
    · rename_i D hD
      have hU := und_ok hC hD
      split at h
      · rename_i len e xs
        cases hv; rename_i vs hvs
        split at h
        · rename_i n hn
          have := ckElems_ok hC w hn (fun em t x v => ckA_ok d k em t x v) em hvs len 0 h
          simp only [Instr.checkKey, Sem.run_bind, run_underlying hU, Result.andThen_ok]
          simp only [Std.Legacy.Range.forIn_eq_forIn_range', Std.Legacy.Range.size, Nat.sub_zero, Nat.add_one_sub_one, Nat.div_one]
          rw [this]; rfl
        · cases h
      · rename_i fs xs
        cases hv; rename_i vs hvs
        have := ckFields_ok hC w (fun em t x v => ckA_ok d k em t x v) em hvs fs.toList h
        simp only [Instr.checkKey, Sem.run_bind, run_underlying hU, Result.andThen_ok]
        rw [← Array.forIn_toList, this]; rfl
      · cases hv; simp [Instr.checkKey, run_underlying hU]
      · cases hv; simp [Instr.checkKey, run_underlying hU]
      · cases hv; simp [Instr.checkKey, run_underlying hU]
      · cases h
theorem ckA_check {em : Bool} {t : TypeId} {x : AV} {v : Value} (h : ckA C eqDepth t x = true) (hv : VR φ x v) : (Instr.checkKey em 10000 t v).run C.P w = .ok () w :=
  ckA_ok hC w eqDepth 9984 em t x v h hv
end
end Go.Ev
