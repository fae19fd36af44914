/- The abstract machine: values, states, and what each operation does. The abstract machine: operations in a state, code, calls. -/
import Derived.Calls
import Derived.Orders
namespace Go.Abs

/-- Pure data: no address of the abstract heap stands in it. 'bx': a pointer to cells that never change. -/
inductive PV where
  | bool (b : Bool)
  | int (k : IntKind) (n : Int)
  | str (s : List UInt8)
  | nilp
  | nilf
  | nili
  | fn (f : FuncId)
  | sl (sz : Nat) (isnil : Bool) (l : List PV)
  | agg (cs : List PV)
  | ifc (t : TypeId) (v : PV)
  | bx (cs : List PV)
  deriving Inhabited

/-- A value: data, or what leads into the abstract heap. -/
inductive AV where
  | d (p : PV)
  | ptr (i off : Nat)
  | ms (i off len cap : Nat)
  | ifc (t : TypeId) (v : AV)
  | agg (cs : List AV)
  | fnc (f : FuncId) (ca : List AV)
  deriving Inhabited

/-- What a cell holds: a value, or a slice that owns what lies behind it. -/
inductive CV where
  | a (v : AV)
  | ow (sz : Nat) (isnil : Bool) (l : List PV)
  deriving Inhabited

/-- What an operation gives: a cell's content, or several. -/
inductive RV where
  | c (x : CV)
  | tup (xs : List CV)
  deriving Inhabited

/-- What a slot holds: a result, a pointer to a box of the frame; or what is there if slot s holds 'want'. -/
inductive SV where
  | r (v : RV)
  | lp (k off : Nat)
  | gd (s : Nat) (want : Bool) (v : SV)
  deriving Inhabited

abbrev Tm := List (Nat × SV)
abbrev Bx := List (Nat × List CV)
/-- The heap: objects by number; no object has the number 'nx' or a greater one. -/
structure Hp where
  m : Nat → Option (List CV)
  nx : Nat

def mget {β : Type} : List (Nat × β) → Nat → Option β
  | [], _ => none
  | (k, v) :: r, s => cond (Nat.beq k s) (some v) (mget r s)
def mset {β : Type} : List (Nat × β) → Nat → β → List (Nat × β)
  | [], s, v => [(s, v)]
  | (k, u) :: r, s, v => cond (Nat.beq k s) ((s, v) :: r) (cond (Nat.blt s k) ((s, v) :: (k, u) :: r) ((k, u) :: mset r s v))
def mdel {β : Type} : List (Nat × β) → Nat → List (Nat × β)
  | [], _ => []
  | (k, u) :: r, s => cond (Nat.beq k s) (mdel r s) ((k, u) :: mdel r s)

structure St where
  t : Tm
  b : Bx
  h : Hp

/-- What a slot is known to hold. -/
inductive Kd where
  | b | i (k : IntKind) | s | o
  deriving Inhabited

/-- Hints for a function, none of them trusted. 'own': slots that may own; 'loc': slots that point into the frame; 'mt': slots whose slices are written to; 'kill': what is dead behind a region; 'live': of each loop, by its first region, and each way out of it (0: a return; j + 1: to the end of block j): the slots and boxes that live behind it; 'q': calls of function values leave the heap's objects as they are. -/
structure Hints where
  own : List Nat := []
  loc : List Nat := []
  mt : List Nat := []
  kill : List (Nat × List Nat) := []
  live : List (Nat × List (Nat × List (Nat × Kd) × List Nat)) := []
  q : Bool := false
  deriving Inhabited

def has (l : List Nat) (n : Nat) : Bool :=
  match l with
  | [] => false
  | x :: r => cond (Nat.beq x n) true (has r n)

/-! Demotion -/
def CV.av : CV → AV
  | .a v => v
  | .ow sz n l => .d (.sl sz n l)
def CV.dem (x : CV) : CV := .a x.av
def RV.dem : RV → RV
  | .c x => .c x.dem
  | .tup xs => .tup (xs.map CV.dem)
def SV.dem : SV → SV
  | .r v => .r v.dem
  | .gd s w v => .gd s w v.dem
  | .lp k off => .lp k off
def RV.av? : RV → Option AV
  | .c x => some x.av
  | _ => none
def RV.cv? : RV → Option CV
  | .c x => some x
  | _ => none
def SV.rv? : SV → Option RV
  | .r v => some v
  | _ => none
def SV.av? : SV → Option AV
  | .r v => v.av?
  | _ => none
def SV.cv? : SV → Option CV
  | .r v => v.cv?
  | _ => none

def allD : List AV → Option (List PV)
  | [] => some []
  | .d p :: r => (allD r).bind fun ps => some (p :: ps)
  | _ :: _ => none
def mkAgg (cs : List AV) : AV := match allD cs with | some ps => .d (.agg ps) | none => .agg cs
def mkIfc (t : TypeId) (v : AV) : AV := match v with | .d p => .d (.ifc t p) | v => .ifc t v
def AV.cells : AV → List AV
  | .d (.agg ps) => ps.map .d
  | .agg cs => cs
  | v => [v]
def AV.agg? : AV → Option (List AV)
  | .d (.agg ps) => some (ps.map .d)
  | .agg cs => some cs
  | _ => none
def PV.cells : PV → List PV
  | .agg ps => ps
  | v => [v]
def AV.pv? : AV → Option PV
  | .d p => some p
  | _ => none
def grd {α : Type} (b : Bool) (x : α) : Option α := cond b (some x) none
def rI (k : IntKind) (n : Int) : RV := .c (.a (.d (.int k n)))
def rB (b : Bool) : RV := .c (.a (.d (.bool b)))
def rS (s : List UInt8) : RV := .c (.a (.d (.str s)))
def rA (v : AV) : RV := .c (.a v)
def rD (p : PV) : RV := .c (.a (.d p))
def sI (k : IntKind) (n : Int) : SV := .r (rI k n)
def sB (b : Bool) : SV := .r (rB b)
def sS (s : List UInt8) : SV := .r (rS s)
def sA (v : AV) : SV := .r (rA v)
def sD (p : PV) : SV := .r (rD p)
def undefR : RV := rB false
def kindB (j k : IntKind) : Bool := match j, k with
  | .i8, .i8 | .i16, .i16 | .i32, .i32 | .i64, .i64 | .u8, .u8 | .u16, .u16 | .u32, .u32 | .u64, .u64 => true
  | _, _ => false
def RV.bool? : RV → Option Bool
  | .c (.a (.d (.bool b))) => some b
  | _ => none
def RV.int? (k : IntKind) : RV → Option Int
  | .c (.a (.d (.int j n))) => cond (kindB j k) (some n) none
  | _ => none
def RV.str? : RV → Option (List UInt8)
  | .c (.a (.d (.str s))) => some s
  | _ => none

/-! Constants -/
def ofV1 : Value → Option AV
  | .bool b => some (.d (.bool b))
  | .int k n => some (.d (.int k n))
  | .string s => some (.d (.str s.data.toList))
  | .pointer none => some (.d .nilp)
  | .slice none 0 0 => some (.d (.sl 0 true []))
  | .nilFunc => some (.d .nilf)
  | .nilIface => some (.d .nili)
  | .iface t (.int k n) => some (.d (.ifc t (.int k n)))
  | .func (.func f) ⟨[]⟩ ⟨[]⟩ => some (.d (.fn f))
  | _ => none
def ofVs : List Value → Option (List AV)
  | [] => some []
  | v :: r => (ofV1 v).bind fun x => (ofVs r).bind fun xs => some (x :: xs)
def ofV : Value → Option AV
  | .agg ⟨cs⟩ => (ofVs cs).bind fun xs => some (mkAgg xs)
  | v => ofV1 v

def opd (t : Tm) : Operand → Option SV
  | .tmp s => mget t s
  | .const v => (ofV v).bind fun x => some (sA x)
  | .func f => some (sD (.fn f))
  | .global _ => none

/-! Tables of the program -/
section
variable (P : Program)
def szOf (t : TypeId) : Option Nat := (P.info? t).bind fun i => (P.underlying t).bind fun _ => some i.size
def isAggT (t : TypeId) : Bool := match P.underlying t with | some (.struct _) => true | some (.array _ _) => true | _ => false
def elemT (t : TypeId) : Option TypeId := match P.underlying t with | some (.slice e) => some e | _ => none
/-- The cells of a type's zero value. -/
def zeroT (t : TypeId) : Option (List AV) := (P.info? t).bind fun i => i.zero.bind fun z => (ofVs z.cells.toList).bind fun xs => cond (Nat.beq xs.length i.size) (some xs) none
def fieldT (t : TypeId) (f : Nat) : Option (Nat × TypeId × Nat) :=
  match P.underlying t with
  | some (.struct fs) => fs[f]?.bind fun fd => (szOf P fd.type).bind fun n => cond (Nat.beq n 0) none (some (fd.offset, fd.type, n))
  | _ => none
end

/-- 'lo ≤ x < hi' -/
def inb (x : Int) (hi : Nat) : Bool := decide (0 ≤ x) && decide (x < (hi : Int))
/-- 'lo ≤ x ≤ hi' -/
def inc (x : Int) (hi : Nat) : Bool := decide (0 ≤ x) && decide (x ≤ (hi : Int))

/-! Operators -/
def bitsOp (op : BinOp) (k : IntKind) (x y : Int) : Option Int :=
  match op with
  | .and => some (k.wrap ((BitVec.ofInt k.bits x &&& BitVec.ofInt k.bits y).toNat))
  | .or => some (k.wrap ((BitVec.ofInt k.bits x ||| BitVec.ofInt k.bits y).toNat))
  | .xor => some (k.wrap ((BitVec.ofInt k.bits x ^^^ BitVec.ofInt k.bits y).toNat))
  | .andNot => some (k.wrap ((BitVec.ofInt k.bits x &&& ~~~ BitVec.ofInt k.bits y).toNat))
  | _ => none
def shlOp (k : IntKind) (x y : Int) : Int := k.wrap (x * 2 ^ min y.toNat k.bits)
def shrOp (k : IntKind) (x y : Int) : Int := x.fdiv (2 ^ min y.toNat k.bits)
def intOp (op : BinOp) (k : IntKind) (x : Int) (j : IntKind) (y : Int) : Option RV :=
  match op with
  | .shl => grd (decide (0 ≤ y)) (rI k (shlOp k x y))
  | .shr => grd (decide (0 ≤ y)) (rI k (shrOp k x y))
  | op => cond (kindB k j) (match op with
    | .add => some (rI k (k.wrap (x + y)))
    | .sub => some (rI k (k.wrap (x - y)))
    | .mul => some (rI k (k.wrap (x * y)))
    | .quo => grd (!(y == 0)) (rI k (k.wrap (x.tdiv y)))
    | .rem => grd (!(y == 0)) (rI k (x.tmod y))
    | .eql => some (rB (x == y))
    | .neq => some (rB (!(x == y)))
    | .lss => some (rB (decide (x < y)))
    | .leq => some (rB (decide (x ≤ y)))
    | .gtr => some (rB (decide (y < x)))
    | .geq => some (rB (decide (y ≤ x)))
    | op => (bitsOp op k x y).bind fun r => some (rI k r)) none
def maxStr : Int := 9223372036854775807
def strOp (op : BinOp) (x y : List UInt8) : Option RV :=
  match op with
  | .add => grd (decide (((x.length + y.length : Nat) : Int) ≤ maxStr)) (rS (x ++ y))
  | .eql => some (rB (x == y))
  | .neq => some (rB (!(x == y)))
  | .lss => some (rB (Op.bytesLess x y))
  | .leq => some (rB (Op.bytesLess x y || x == y))
  | .gtr => some (rB (!(Op.bytesLess x y || x == y)))
  | .geq => some (rB (!(Op.bytesLess x y)))
  | _ => none
/-- Equality of two values that are no numbers and no texts: pointers, slices, functions, interface values against nil; interface values that hold numbers. -/
def eqPtr (x y : AV) : Option Bool :=
  match x, y with
  | .d .nilp, .d .nilp => some true
  | .d .nilp, .ptr _ _ => some false
  | .ptr _ _, .d .nilp => some false
  | .d .nilp, .d (.bx _) => some false
  | .d (.bx _), .d .nilp => some false
  | _, _ => none
def eqSl (x y : AV) : Option Bool :=
  match x, y with
  | .d (.sl _ b _), .d (.sl _ true _) => some b
  | .d (.sl _ true _), .d (.sl _ b _) => some b
  | .ms .., .d (.sl _ true _) => some false
  | .d (.sl _ true _), .ms .. => some false
  | _, _ => none
def eqFn (x y : AV) : Option Bool :=
  match x, y with
  | .d .nilf, .d .nilf => some true
  | .d .nilf, .d (.fn _) => some false
  | .d (.fn _), .d .nilf => some false
  | .d .nilf, .fnc .. => some false
  | .fnc .., .d .nilf => some false
  | _, _ => none
def eqIf (P : Program) (x y : AV) : Option Bool :=
  match x, y with
  | .d .nili, .d (.ifc ..) => some false
  | .d (.ifc ..), .d .nili => some false
  | .d .nili, .ifc .. => some false
  | .ifc .., .d .nili => some false
  | .d (.ifc t (.int k a)), .d (.ifc u (.int j b)) => cond (Nat.beq t u) ((P.info? t).bind fun i => cond i.comparable (match P.underlying t with
      | some (.int _) => cond (kindB k j) (some (a == b)) none
      | _ => none) none) (some false)
  | _, _ => none
def eqV (P : Program) (ty : TypeId) (x y : AV) : Option Bool :=
  match P.underlying ty with
  | some .bool => match x, y with
    | .d (.bool a), .d (.bool b) => some (a == b)
    | _, _ => none
  | some (.pointer _) => eqPtr x y
  | some (.slice _) => eqSl x y
  | some (.func ..) => eqFn x y
  | some (.interface _) => eqIf P x y
  | _ => none
def isConstO : Operand → Bool | .const _ => true | _ => false
def binV (P : Program) (ty : TypeId) (op : BinOp) (xc : Bool) (x y : AV) : Option RV :=
  match x, y with
  | .d (.int k a), .d (.int j b) => intOp op k a j b
  | .d (.str a), .d (.str b) => strOp op a b
  | .d .nili, .d .nili => cond (xc && (match P.underlying ty with | some (.interface _) => true | _ => false)) (match op with | .eql => some (rB true) | .neq => some (rB false) | _ => none) none
  | x, y => match op with
    | .eql => (eqV P ty x y).bind fun b => some (rB b)
    | .neq => (eqV P ty x y).bind fun b => some (rB (!b))
    | _ => none
def unV (op : UnOp) (x : AV) : Option RV :=
  match op, x with
  | .not, .d (.bool b) => some (rB (!b))
  | .neg, .d (.int k n) => some (rI k (k.wrap (0 - n)))
  | .xor, .d (.int k n) => (bitsOp .xor k (cond k.signed (-1) k.max) n).bind fun r => some (rI k r)
  | _, _ => none

def byteP (c : UInt8) : PV := .int .u8 (c.toNat : Int)
/-- The bytes of a list of data, each a byte. -/
def bytesP : List PV → Option (List UInt8)
  | [] => some []
  | .int .u8 n :: r => (bytesP r).bind fun s => some (UInt8.ofNat n.toNat :: s)
  | _ :: _ => none
def isBytesT (P : Program) (t : TypeId) : Bool :=
  match P.underlying t with
  | some (.slice e) => match P.underlying e with | some (.int .u8) => true | _ => false
  | _ => false
def isStrT (P : Program) (t : TypeId) : Bool := match P.underlying t with | some .string => true | _ => false

def convV (P : Program) (src dst : TypeId) (x : RV) : Option RV :=
  (P.underlying src).bind fun _ => match P.underlying dst with
  | some (.int k) => match x with
    | .c (.a (.d (.int _ n))) => some (rI k (k.wrap n))
    | _ => none
  | some .string => match x with
    | .c (.a (.d (.str s))) => some (rS s)
    | .c (.a (.d (.sl _ _ l))) => cond (isBytesT P src) ((bytesP l).bind fun s => some (rS s)) none
    | .c (.ow _ _ l) => cond (isBytesT P src) ((bytesP l).bind fun s => some (rS s)) none
    | _ => none
  | _ => none

/-- A part of a list. -/
def cut {α : Type} (l : List α) (off n : Nat) : List α := (l.drop off).take n

/-- Bounds of a slice expression on 'len' elements: are they right, the low one, the high one. -/
def boundsV (len : Nat) (lo hi : Option AV) : Option (Bool × Nat × Nat) :=
  match lo, hi with
  | none, none => some (true, 0, len)
  | some (.d (.int _ a)), none => some (inc a len, a.toNat, len)
  | none, some (.d (.int _ b)) => some (inc b len, 0, b.toNat)
  | some (.d (.int _ a)), some (.d (.int _ b)) => some (inc b len && (decide (0 ≤ a) && decide (a ≤ b)), a.toNat, b.toNat)
  | _, _ => none

def sliceV (P : Program) (t : TypeId) (x : AV) (lo hi : Option AV) : Option RV :=
  match x with
  | .d (.str s) => cond (isStrT P t) ((boundsV s.length lo hi).bind fun r => grd r.1 (rS (cut s r.2.1 (r.2.2 - r.2.1)))) none
  | .d (.sl sz n l) => (elemT P t).bind fun e => (szOf P e).bind fun m => cond (Nat.beq m sz || n) ((boundsV l.length lo hi).bind fun r => grd r.1 (rD (.sl sz n (cut l r.2.1 (r.2.2 - r.2.1))))) none
  | .ms i off len cap => (elemT P t).bind fun e => (szOf P e).bind fun m => (boundsV len lo hi).bind fun r => grd r.1 (rA (.ms i (off + r.2.1 * m) (r.2.2 - r.2.1) (cap - r.2.1)))
  | _ => none

def fieldAddrV (P : Program) (t : TypeId) (f : Nat) (x : SV) : Option SV :=
  (fieldT P t f).bind fun r => match x with
    | .lp k off => some (.lp k (off + r.1))
    | .r (.c (.a (.ptr i off))) => some (sA (.ptr i (off + r.1)))
    | .r (.c (.a (.d (.bx cs)))) => some (sD (.bx (cs.drop r.1)))
    | _ => none
/-- A part of a struct's or array's cells. -/
def partV (agg : Bool) (cs : List AV) (off n : Nat) : Option RV := cond agg (some (rA (mkAgg (cut cs off n)))) ((cs[off]?).bind fun c => some (rA c))
def fieldV (P : Program) (t : TypeId) (f : Nat) (x : AV) : Option RV :=
  (fieldT P t f).bind fun r => x.agg?.bind fun cs => partV (isAggT P r.2.1) cs r.1 r.2.2
def indexAddrV (P : Program) (t : TypeId) (x : SV) (ix : AV) : Option SV :=
  match ix with
  | .d (.int _ i) => match P.underlying t with
    | some (.slice e) => (szOf P e).bind fun m => match x with
      | .r (.c (.a (.d (.sl sz _ l)))) => cond (Nat.beq m sz) (grd (inb i l.length) (sD (.bx (l.getD i.toNat .nilp).cells))) none
      | .r (.c (.ow sz _ l)) => cond (Nat.beq m sz) (grd (inb i l.length) (sD (.bx (l.getD i.toNat .nilp).cells))) none
      | .r (.c (.a (.ms j off len _))) => grd (inb i len) (sA (.ptr j (off + i.toNat * m)))
      | _ => none
    | some (.array len e) => (szOf P e).bind fun m => match x with
      | .lp k off => grd (inb i len) (.lp k (off + i.toNat * m))
      | .r (.c (.a (.ptr j off))) => grd (inb i len) (sA (.ptr j (off + i.toNat * m)))
      | .r (.c (.a (.d (.bx cs)))) => grd (inb i len) (sD (.bx (cs.drop (i.toNat * m))))
      | _ => none
    | _ => none
  | _ => none
def indexV (P : Program) (t : TypeId) (x : AV) (ix : AV) : Option RV :=
  match ix with
  | .d (.int _ i) => match P.underlying t with
    | some .string => match x with
      | .d (.str s) => grd (inb i s.length) (rI .u8 ((s.getD i.toNat 0).toNat : Int))
      | _ => none
    | some (.array len e) => (szOf P e).bind fun m => x.agg?.bind fun cs => cond (inb i len) (partV (isAggT P e) cs (i.toNat * m) m) none
    | _ => none
  | _ => none

def lenV (P : Program) (t : TypeId) (x : RV) : Option RV :=
  match P.underlying t with
  | some .string => match x with
    | .c (.a (.d (.str s))) => some (rI .i64 (s.length : Int))
    | _ => none
  | some (.slice _) => match x with
    | .c (.a (.d (.sl _ _ l))) => some (rI .i64 (l.length : Int))
    | .c (.ow _ _ l) => some (rI .i64 (l.length : Int))
    | .c (.a (.ms _ _ n _)) => some (rI .i64 (n : Int))
    | _ => none
  | _ => none
def max2V (x y : AV) : Option AV :=
  match x, y with
  | .d (.int k a), .d (.int _ b) => some (.d (.int k (cond (decide (a < b)) b a)))
  | _, _ => none
def min2V (x y : AV) : Option AV :=
  match x, y with
  | .d (.int k a), .d (.int _ b) => some (.d (.int k (cond (decide (b < a)) b a)))
  | _, _ => none
def foldV (f : AV → AV → Option AV) : AV → List AV → Option AV
  | x, [] => some x
  | x, y :: r => (f x y).bind fun z => foldV f z r
def avsS : List SV → Option (List AV)
  | [] => some []
  | x :: r => x.av?.bind fun v => (avsS r).bind fun vs => some (v :: vs)
def cvsS : List SV → Option (List CV)
  | [] => some []
  | x :: r => x.cv?.bind fun v => (cvsS r).bind fun vs => some (v :: vs)

/-- Bound on what a slice that grows takes up, in bytes. -/
def roomB (n bytes : Nat) : Bool := Nat.ble (n * bytes) 70368744177664
/-- The elements of what is appended: a slice's, or a text's bytes. -/
def elemsV (x : RV) : Option (List PV) :=
  match x with
  | .c (.a (.d (.sl _ _ l))) => some l
  | .c (.ow _ _ l) => some l
  | .c (.a (.d (.str s))) => some (s.map byteP)
  | _ => none
def szFits (x : RV) (m : Nat) : Bool :=
  match x with
  | .c (.a (.d (.sl sz n _))) => Nat.beq sz m || n
  | .c (.ow sz n _) => Nat.beq sz m || n
  | .c (.a (.d (.str _))) => Nat.beq m 1
  | _ => false
/-- What may be appended: no number stands in its place. -/
def srcT (P : Program) (u : TypeId) : Bool := match P.underlying u with | some (.slice _) => true | some .string => true | _ => false
def appendV (P : Program) (t u : TypeId) (x y : RV) : Option RV :=
  (elemT P t).bind fun e => (P.info? e).bind fun i => (zeroT P e).bind fun _ => cond (srcT P u && (!(Nat.beq i.size 0) && !(Nat.beq i.bytes 0))) (cond (szFits y i.size) ((elemsV y).bind fun ys =>
    match x with
    | .c (.ow sz n l) => cond (Nat.beq sz i.size) (grd (roomB (l.length + ys.length) i.bytes) (.c (.ow sz (ys.isEmpty && n) (l ++ ys)))) none
    | .c (.a (.d (.sl _ n _))) => cond n (grd (roomB ys.length i.bytes) (.c (.ow i.size ys.isEmpty ys))) none
    | _ => none) none) none

def put {α : Type} (l : List α) (off : Nat) (xs : List α) : List α := l.take off ++ xs ++ l.drop (off + xs.length)
/-- Parts put into cells. -/
def fillA (place : Nat → Option (Nat × Nat)) (cells : List AV) : List (Nat × AV) → Option (List AV)
  | [] => some cells
  | (i, x) :: r => (place i).bind fun p => cond (Nat.beq x.cells.length p.2 && Nat.ble (p.1 + p.2) cells.length) (fillA place (put cells p.1 x.cells) r) none
/-- Where a struct's fields lie, and how many cells they have. -/
def placesF (P : Program) : List Field → Option (List (Nat × Nat))
  | [] => some []
  | f :: r => (P.info? f.type).bind fun i => (placesF P r).bind fun ps => some ((f.offset, i.size) :: ps)
def buildV (P : Program) (t : TypeId) (parts : List (Nat × AV)) : Option RV :=
  (zeroT P t).bind fun z => match P.underlying t with
    | some (.struct fs) => (placesF P fs.toList).bind fun ps => (fillA (fun i => ps[i]?) z parts).bind fun cs => some (rA (mkAgg cs))
    | some (.array _ e) => (P.info? e).bind fun ie => (fillA (fun i => some (i * ie.size, ie.size)) z parts).bind fun cs => some (rA (mkAgg cs))
    | _ => none
def zipO {α β : Type} : List α → List β → List (α × β)
  | a :: r, b :: s => (a, b) :: zipO r s
  | _, _ => []
/-- No struct, no array. -/
def scalP : PV → Bool
  | .agg _ => false
  | _ => true
/-- A slice literal: elements in order, each given, each data. -/
def litV (n : Nat) : Nat → List (Nat × AV) → Option (List PV)
  | _, [] => some []
  | j, (i, .d p) :: r => cond (Nat.beq i j && (Nat.beq p.cells.length n && p.cells.all scalP)) ((litV n (j + 1) r).bind fun ps => some (p :: ps)) none
  | _, _ => none
def buildSliceV (P : Program) (t : TypeId) (len : Nat) (parts : List (Nat × AV)) : Option RV :=
  (elemT P t).bind fun e => (zeroT P e).bind fun _ => (szOf P e).bind fun n => cond (Nat.beq n 0) none (cond (Nat.beq parts.length len && Nat.blt (len * n) 16777217) ((litV n 0 parts).bind fun ps => some (.c (.ow n false ps))) none)

/-! Memory -/
def cutOk {α : Type} (cs : List α) (off n : Nat) : Option (List α) := cond (Nat.ble (off + n) cs.length) (some (cut cs off n)) none
def bget (b : Bx) (k off n : Nat) : Option (List CV) := (mget b k).bind fun cs => cutOk cs off n
def hget (h : Hp) (i off n : Nat) : Option (List CV) := (h.m i).bind fun cs => cutOk cs off n
def hset (h : Hp) (i : Nat) (cs : List CV) : Hp := ⟨fun j => cond (Nat.beq j i) (some cs) (h.m j), h.nx⟩
/-- Numbers for a region of so many operations. -/
def hreg (h : Hp) (n : Nat) : Hp := ⟨h.m, h.nx + n⟩
def h0 : Hp := ⟨fun _ => none, 0⟩
def putOk {α : Type} (cs : List α) (off : Nat) (xs : List α) : Option (List α) := cond (Nat.ble (off + xs.length) cs.length) (some (put cs off xs)) none
def bput (b : Bx) (k off : Nat) (xs : List CV) : Option Bx := (mget b k).bind fun cs => (putOk cs off xs).bind fun cs' => some (mset b k cs')
def hput (h : Hp) (i off : Nat) (xs : List CV) : Option Hp := (h.m i).bind fun cs => (putOk cs off xs).bind fun cs' => some (hset h i cs')
/-- A row of cells that are all data. -/
def dataCs : List CV → Option (List PV)
  | [] => some []
  | .a (.d p) :: r => (dataCs r).bind fun ps => some (p :: ps)
  | _ :: _ => none
/-- One cell. -/
def oneC : List CV → Option RV
  | [x] => some (.c x)
  | _ => none
/-- What a load of some cells gives: a struct or array, or one cell. -/
def packV (agg : Bool) (cs : List CV) : Option RV := cond agg (some (rA (mkAgg (cs.map CV.av)))) (oneC cs)
def demC (cs : List CV) : List CV := cs.map CV.dem
/-- No struct, no array. -/
def scalA : AV → Bool
  | .d (.agg _) => false
  | .agg _ => false
  | _ => true
/-- The cells of what is stored. -/
def unpackV (x : RV) : Option (List CV) :=
  match x with
  | .c (.ow sz n l) => some [.ow sz n l]
  | .c (.a v) => cond (v.cells.all scalA) (some (v.cells.map .a)) none
  | _ => none
/-- A load from where the pointer leads. -/
def ldV (n : Nat) (agg : Bool) (x : RV) (h : Hp) : Option RV :=
  match x with
  | .c (.a (.ptr i off)) => (hget h i off n).bind fun cs => packV agg (demC cs)
  | .c (.a (.d (.bx cs))) => (cutOk cs 0 n).bind fun cs => packV agg (cs.map fun p => .a (.d p))
  | _ => none
/-- A load that takes over what the cell owns. -/
def ldOwnV (n : Nat) (agg : Bool) (x : RV) (h : Hp) : Option (RV × Hp) :=
  match x with
  | .c (.a (.ptr i off)) => (hget h i off n).bind fun cs => (packV agg cs).bind fun v => (hput h i off (demC cs)).bind fun h' => some (v, h')
  | _ => none
def stV (n : Nat) (x v : RV) (h : Hp) : Option (RV × Hp) :=
  match x with
  | .c (.a (.ptr i off)) => (unpackV v).bind fun cs => cond (Nat.beq n cs.length) ((hput h i off cs).bind fun h' => some (undefR, h')) none
  | _ => none

/-! What an operation does, by what it touches. -/
inductive Sm where
  | p (f : List SV → Option SV)
  | rl (f : List SV → Bx → Option RV)
  | wl (f : List SV → Bx → Option (SV × Bx))
  | rh (f : List SV → Hp → Option RV)
  | al (f : List SV → Hp → Nat → Option (RV × List CV))
  | qh (f : List SV → Hp → Option (RV × Hp))
  | wh (f : List SV → Hp → Option (RV × Hp))
  | bad

abbrev CallF := Bool → FuncId → List CV → Hp → Option (RV × Hp)

def dataC : List CV → Bool
  | [] => true
  | .a (.d _) :: r => dataC r
  | .ow .. :: r => dataC r
  | _ :: _ => false
def RV.data? : RV → Option RV
  | .c x => cond (dataC [x]) (some (.c x)) none
  | .tup xs => cond (dataC xs) (some (.tup xs)) none
end Go.Abs
set_option linter.unusedVariables false
namespace Go.Abs

structure Env where
  P : Program
  /-- hints of each function -/
  H : FuncId → Hints
  /-- is it called in a heap of its own? -/
  iso : FuncId → Bool
  /-- does it leave the heap's objects as they are? -/
  qt : FuncId → Bool

/-- Inside a function. -/
structure In extends Env where
  f : FuncId
  nt : Nat
  /-- must the heap's objects stay as they are? -/
  quiet : Bool

def In.hint (I : In) : Hints := I.H I.f
def In.owns (I : In) (o : Oper) : Bool := match o.dst with | some d => has I.hint.own d | none => false
def In.local (I : In) (x : Operand) : Bool := match x with | .tmp s => has I.hint.loc s | _ => false

/-- A guarded value behind the guards that hold. -/
def strip (ch : List (Nat × Bool)) : SV → SV
  | .gd s w v => cond (ch.any fun p => Nat.beq p.1 s && (cond w p.2 (!p.2))) (strip ch v) (.gd s w v)
  | v => v
def eqB (b w : Bool) : Bool := cond w b (!b)
/-- The guards that hold with this one, and whether it holds. -/
def effG (t : Tm) : Nat → Nat → Bool → Option (List (Nat × Bool) × Bool)
  | 0, _, _ => none
  | n + 1, s, w =>
    match mget t s with
    | some (.r (.c (.a (.d (.bool b))))) => some ([(s, w)], eqB b w)
    | some (.gd s' w' (.r (.c (.a (.d (.bool b)))))) => (effG t n s' w').bind fun r => some ((s, w) :: r.1, r.2 && eqB b w)
    | _ => none
def valsO (ch : List (Nat × Bool)) (t : Tm) : List Operand → Option (List SV)
  | [] => some []
  | x :: r => (opd t x).bind fun v => (valsO ch t r).bind fun vs => some (strip ch v :: vs)

/-! Of a value that may stand behind a failing guard: go on all the same. -/
def gdK {α β : Type} (e : Bool) (r : Option β) (dflt : β) (k : β → Option α) : Option α :=
  match r with
  | some v => k v
  | none => cond e none (k dflt)
/-- Results of a known kind are taken as such. -/
def kindT (P : Program) (t : TypeId) : Kd :=
  match P.underlying t with
  | some .bool => .b
  | some (.int k) => .i k
  | some .string => .s
  | _ => .o
def coeK {α : Type} (kd : Kd) (r : Option RV) (k : RV → Option α) : Option α :=
  match kd with
  | .b => (r.bind RV.bool?).bind fun b => k (rB b)
  | .i j => (r.bind (RV.int? j)).bind fun n => k (rI j n)
  | .s => (r.bind RV.str?).bind fun s => k (rS s)
  | .o => r.bind k
def coeG {α : Type} (kd : Kd) (e : Bool) (r : Option RV) (k : RV → Option α) : Option α :=
  match kd with
  | .b => gdK e (r.bind RV.bool?) false fun b => k (rB b)
  | .i j => gdK e (r.bind (RV.int? j)) 0 fun n => k (rI j n)
  | .s => gdK e (r.bind RV.str?) [] fun s => k (rS s)
  | .o => gdK e r undefR k

def gdP {α : Type} (kd : Kd) (e : Bool) (r : Option SV) (k : SV → Option α) : Option α :=
  match r with
  | some (.lp j off) => k (.lp j off)
  | r => coeG kd e (r.bind SV.rv?) fun v => k (.r v)

/-- Is it a call of a function of the program? -/
def isCallO (o : Oper) : Bool := match o.op with | .call c => (match c.callee with | .builtin _ => false | _ => true) | _ => false
/-- What a call would answer behind a failing guard is not asked. -/
def gvP (c e : Bool) (r : Option SV) : Option SV := cond (c && !e) none r
/-- Does one lead to a box of the frame? -/
def lpAny : SV → Bool
  | .lp _ _ => true
  | .gd _ _ v => lpAny v
  | .r _ => false
def lpsO : Option (List SV) → Bool
  | some vs => vs.any lpAny
  | none => false
/-- A value's result: where no operand leads to a box, none leads there. -/
def pRes {α : Type} (kd : Kd) (lp : Bool) (r : Option SV) (k : SV → Option α) : Option α :=
  cond lp (r.bind fun v => match v with
    | .r v => coeK kd (some v) fun v => k (.r v)
    | .lp j off => k (.lp j off)
    | .gd _ _ _ => none) (coeK kd (r.bind SV.rv?) fun v => k (.r v))
def pResG {α : Type} (kd : Kd) (lp e : Bool) (r : Option SV) (k : SV → Option α) : Option α := cond lp (gdP kd e r k) (coeG kd e (r.bind SV.rv?) fun v => k (.r v))
/-! Static calls' arguments: what a parameter may own is handed over. -/
def passCV (own : List Nat) : Nat → List CV → List CV
  | _, [] => []
  | i, x :: r => (cond (has own i) x x.dem) :: passCV own (i + 1) r
def stealArgs (own : List Nat) : Nat → List Operand → List Nat
  | _, [] => []
  | i, .tmp s :: r => cond (has own i) (s :: stealArgs own (i + 1) r) (stealArgs own (i + 1) r)
  | i, _ :: r => stealArgs own (i + 1) r

def nodupB : List Nat → Bool
  | [] => true
  | x :: r => cond (has r x) false (nodupB r)

/-- Slots that lose their ownership by the operation. -/
def stealsO (I : In) (o : Oper) : List Nat :=
  match o.op with
  | .move (.tmp s) => cond (I.owns o) [s] []
  | .assign (.tmp s) => cond (I.owns o) [s] []
  | .extract (.tmp s) _ => cond (I.owns o) [s] []
  | .store _ _ (.tmp s) => [s]
  | .box _ (.tmp s) => [s]
  | .call c => match c.callee with
    | .builtin .append => match c.args.toList with | .tmp s :: _ => [s] | _ => []
    | .value (.func f) => stealArgs (I.H f).own 0 c.args.toList
    | _ => []
  | _ => []

/-! What each operation does -/
section
variable (I : In) (call : CallF)

/-- A call of a known function: 'vs': the operands with the callee ahead. -/
def callSm (args : List Operand) (f : FuncId) : Sm := cond (nodupB (stealArgs (I.H f).own 0 args)) (
  cond (I.iso f)
    (.p fun vs => (cvsS vs.tail).bind fun xs => cond (dataC xs) ((call false f (passCV (I.H f).own 0 xs) h0).bind fun r => r.1.data?.bind fun v => some (.r v)) none)
    (cond (I.qt f)
      (.qh fun vs h => (cvsS vs.tail).bind fun xs => call true f (passCV (I.H f).own 0 xs) h)
      (.wh fun vs h => (cvsS vs.tail).bind fun xs => call false f (passCV (I.H f).own 0 xs) h))) .bad
def callV (q : Bool) (v : SV) (args : List CV) (h : Hp) : Option (RV × Hp) :=
  match v with
  | .r (.c (.a (.d (.fn f)))) => call q f (args.map CV.dem) h
  | .r (.c (.a (.fnc f ca))) => call q f (args.map CV.dem ++ ca.map .a) h
  | _ => none
/-- A method of what an interface value holds. -/
def methodV (P : Program) (t : TypeId) (name : String) : Option FuncId :=
  (P.info? t).bind fun i => (i.methods.find? (·.name == name)).bind fun m => cond m.path.isEmpty (m.func.bind fun r => match P.underlying t with
    | some (.pointer _) => cond r.2 (some r.1) none
    | some _ => cond r.2 none (some r.1)
    | none => none) none
def invokeV (q : Bool) (name : String) (v : SV) (args : List CV) (h : Hp) : Option (RV × Hp) :=
  match v with
  | .r (.c (.a (.d (.ifc t p)))) => (methodV I.P t name).bind fun f => call q f (.a (.d p) :: args.map CV.dem) h
  | .r (.c (.a (.ifc t x))) => (methodV I.P t name).bind fun f => call q f (.a x :: args.map CV.dem) h
  | _ => none
/-- 'append' whose outcome is written to later: a row of its own. -/
def appendA (P : Program) (t u : TypeId) (x y : RV) (h : Hp) (id : Nat) : Option (RV × List CV) :=
  (elemT P t).bind fun e => (P.info? e).bind fun i => (zeroT P e).bind fun _ => cond (srcT P u && (Nat.beq i.size 1 && !(Nat.beq i.bytes 0))) (
    match x with
    | .c (.ow sz false []) => cond (Nat.beq sz 1) ((match y with
      | .c (.a (.ms j off len _)) => (hget h j off len).bind dataCs
      | y => cond (szFits y 1) (elemsV y) none).bind fun ys => cond (ys.all scalP) (grd (roomB ys.length i.bytes) (rA (.ms id 0 ys.length ys.length), ys.map fun p => .a (.d p))) none) none
    | _ => none) none
def fold1 (f : AV → AV → Option AV) : List AV → Option SV
  | x :: r => (foldV f x r).bind fun v => some (sA v)
  | [] => none

def builtinSm (o : Oper) (b : Builtin) (argTypes : Array TypeId) : Sm :=
  match b with
  | .len => .p fun | [.r x] => (argTypes[0]?).bind fun t => (lenV I.P t x).bind fun v => some (.r v) | _ => none
  | .append => cond (match o.dst with | some d => has I.hint.mt d | none => false)
    (.al fun | [.r x, .r y], h, id => (argTypes[0]?).bind fun t => (argTypes[1]?).bind fun u => appendA I.P t u x y h id | _, _, _ => none)
    (.p fun | [.r x, .r y] => (argTypes[0]?).bind fun t => (argTypes[1]?).bind fun u => (appendV I.P t u x y).bind fun v => some (.r v) | _ => none)
  | .max => .p fun vs => (avsS vs).bind (fold1 max2V)
  | .min => .p fun vs => (avsS vs).bind (fold1 min2V)
  | _ => .bad

/-- 'pick': an operand that is there where c says so. -/
def sidePick (s : Option Nat) (w : Bool) : SV → Option AV
  | .gd s' w' v => match s with | some s => cond (Nat.beq s s' && eqB w w') v.av? none | none => none
  | v => v.av?
def selV (b : Bool) (x y : AV) : Option SV :=
  match x, y with
  | .d (.bool p), .d (.bool q) => some (sB (cond b p q))
  | _, _ => none
def tmpOf : Operand → Option Nat | .tmp s => some s | _ => none
def pickV (c : Operand) : List SV → Option SV
  | [.r (.c (.a (.d (.bool b)))), x, y] => (sidePick (tmpOf c) true x).bind fun p => (sidePick (tmpOf c) false y).bind fun q => selV b p q
  | _ => none

def optsV (lo hi : Bool) (l : List AV) : Option (Option AV × Option AV) :=
  match lo, hi, l with
  | false, false, [] => some (none, none)
  | true, false, [a] => some (some a, none)
  | false, true, [b] => some (none, some b)
  | true, true, [a, b] => some (some a, some b)
  | _, _, _ => none
/-- Results of the operations, over values. -/
def bin2 (P : Program) (ty : TypeId) (op : BinOp) (xc : Bool) : List AV → Option SV
  | [a, b] => (binV P ty op xc a b).bind fun v => some (.r v)
  | _ => none
def un1 (op : UnOp) : List AV → Option SV
  | [a] => (unV op a).bind fun v => some (.r v)
  | _ => none
def slice1 (P : Program) (t : TypeId) (lo hi : Bool) : List AV → Option SV
  | x :: r => (optsV lo hi r).bind fun q => (sliceV P t x q.1 q.2).bind fun v => some (.r v)
  | [] => none
def field1 (P : Program) (t : TypeId) (f : Nat) : List AV → Option SV
  | [a] => (fieldV P t f a).bind fun v => some (.r v)
  | _ => none
def index2 (P : Program) (t : TypeId) : List AV → Option SV
  | [a, i] => (indexV P t a i).bind fun v => some (.r v)
  | _ => none
def iface1 (P : Program) (t : TypeId) : List AV → Option SV
  | [a] => cond (match P.underlying t with | some (.interface _) => false | some _ => true | none => false) (some (sA (mkIfc t a))) none
  | _ => none
def func1 (f : FuncId) : List AV → Option SV
  | [] => some (sD (.fn f))
  | xs => some (sA (.fnc f xs))
def make2 (P : Program) (t : TypeId) (id : Nat) : List AV → Option (RV × List CV)
  | [.d (.int .i64 n), .d (.int .i64 m)] => (elemT P t).bind fun e => (P.info? e).bind fun i => (zeroT P e).bind fun z =>
      cond (Nat.beq i.size 1 && ((n == m) && !(Nat.beq i.bytes 0))) (grd (decide (0 ≤ n) && roomB n.toNat i.bytes) (rA (.ms id 0 n.toNat n.toNat), List.replicate n.toNat (.a (z.headD (.d .nilp))))) none
  | _ => none
def nilCk : SV → Option SV
  | .lp k off => some (.lp k off)
  | .r (.c (.a (.ptr i off))) => some (sA (.ptr i off))
  | .r (.c (.a (.d (.bx cs)))) => some (sD (.bx cs))
  | .r (.c (.a (.d (.fn f)))) => some (sD (.fn f))
  | .r (.c (.a (.fnc f ca))) => some (sA (.fnc f ca))
  | _ => none
def extr (i : Nat) : SV → Option SV
  | .r (.tup xs) => (xs[i]?).bind fun x => some (.r (.c x))
  | _ => none

def isNilSl : Operand → Bool
  | .const (.slice none 0 0) => true
  | _ => false
def nilOwn (P : Program) (t : TypeId) : Option SV := (elemT P t).bind fun e => (szOf P e).bind fun n => some (.r (.c (.ow n true [])))
def one1 : List SV → Option SV
  | [.r v] => some (.r v)
  | [.lp k off] => some (.lp k off)
  | _ => none
def moveSm (o : Oper) (x : Operand) : Sm := cond (isNilSl x && I.owns o) (.p fun _ => nilOwn I.P o.type) (.p one1)

def smOp (o : Oper) : Sm :=
  match o.op with
  | .move x => moveSm I o x
  | .assign x => moveSm I o x
  | .pick c _ _ => .p fun vs => pickV c vs
  | .alloc t => match o.dst with
    | some d => cond (has I.hint.loc d)
      (.wl fun _ b => (zeroT I.P t).bind fun z => some (.lp d 0, mset b d (z.map .a)))
      (.al fun _ _ id => (zeroT I.P t).bind fun z => some (rA (.ptr id 0), z.map .a))
    | none => .bad
  | .box t _ => match o.dst with
    | some d => cond (has I.hint.loc d)
      (.wl fun | [.r x], b => (unpackV x).bind fun cs => some (.lp d 0, mset b d cs) | _, _ => none)
      (.al fun | [.r x], _, id => (unpackV x).bind fun cs => some (rA (.ptr id 0), cs) | _, _, _ => none)
    | none => .bad
  | .build t parts => .p fun vs => (avsS vs).bind fun xs => (buildV I.P t (zipO (parts.toList.map (·.1)) xs)).bind fun v => some (.r v)
  | .buildSlice t len parts => .p fun vs => (avsS vs).bind fun xs => (buildSliceV I.P t len (zipO (parts.toList.map (·.1)) xs)).bind fun v => some (.r v)
  | .load t x => match szOf I.P t with
    | none => .bad
    | some n => cond (I.local x)
      (cond (I.owns o)
        (.wl fun | [.lp k off], b => (bget b k off n).bind fun cs => (packV (isAggT I.P t) cs).bind fun v => (bput b k off (demC cs)).bind fun b' => some (.r v, b') | _, _ => none)
        (.rl fun | [.lp k off], b => (bget b k off n).bind fun cs => packV (isAggT I.P t) (demC cs) | _, _ => none))
      (cond (I.owns o)
        (.wh fun | [.r x], h => ldOwnV n (isAggT I.P t) x h | _, _ => none)
        (.rh fun | [.r x], h => ldV n (isAggT I.P t) x h | _, _ => none))
  | .store t x _ => match szOf I.P t with
    | none => .bad
    | some n => cond o.dst.isSome .bad (cond (I.local x)
      (.wl fun | [.lp k off, .r v], b => (unpackV v).bind fun cs => cond (Nat.beq n cs.length) ((bput b k off cs).bind fun b' => some (.r undefR, b')) none | _, _ => none)
      (.wh fun | [.r x, .r v], h => stV n x v h | _, _ => none))
  | .nilCheck _ => .p fun | [x] => nilCk x | _ => none
  | .binOp op t x y _ => .p fun vs => (avsS vs).bind (bin2 I.P t op (isConstO x || isConstO y))
  | .unOp op _ _ => .p fun vs => (avsS vs).bind (un1 op)
  | .convert src dst _ => .p fun | [.r x] => (convV I.P src dst x).bind fun v => some (.r v) | _ => none
  | .makeInterface t _ => .p fun vs => (avsS vs).bind (iface1 I.P t)
  | .makeFunc fn first _ => match fn, first.toList with
    | .func f, [] => .p fun vs => (avsS vs).bind (func1 f)
    | _, _ => .bad
  | .slice t _ lo hi mx => match mx with
    | none => .p fun vs => (avsS vs).bind (slice1 I.P t lo.isSome hi.isSome)
    | some _ => .bad
  | .fieldAddr t _ f => .p fun | [x] => fieldAddrV I.P t f x | _ => none
  | .field t _ f => .p fun vs => (avsS vs).bind (field1 I.P t f)
  | .indexAddr t _ _ => .p fun | [x, i] => i.av?.bind fun i => indexAddrV I.P t x i | _ => none
  | .index t _ _ => .p fun vs => (avsS vs).bind (index2 I.P t)
  | .makeSlice t _ _ => cond (I.owns o) .bad (.al fun vs _ id => (avsS vs).bind (make2 I.P t id))
  | .extract _ i => .p fun | [x] => extr i x | _ => none
  | .call c => match c.callee with
    | .builtin b => builtinSm I o b c.argTypes
    | .value (.func f) => callSm I call c.args.toList f
    | .value (.tmp _) => cond I.hint.q
      (.qh fun vs h => match vs with | v :: r => (cvsS r).bind fun xs => callV call true v xs h | [] => none)
      (.wh fun vs h => match vs with | v :: r => (cvsS r).bind fun xs => callV call false v xs h | [] => none)
    | .value _ => .bad
    | .invoke _ name => cond I.hint.q
      (.qh fun vs h => match vs with | v :: r => (cvsS r).bind fun xs => invokeV I call true name v xs h | [] => none)
      (.wh fun vs h => match vs with | v :: r => (cvsS r).bind fun xs => invokeV I call false name v xs h | [] => none)
  | _ => .bad
end

section
variable {α : Type} (I : In) (call : CallF)

def demOne (t : Tm) (s : Nat) : Tm := match mget t s with | some v => mset t s v.dem | none => t
def demAt (t : Tm) : List Nat → Tm
  | [] => t
  | s :: r => demAt (demOne t s) r
/-- Does it lead to the box? -/
def lpIn (d : Nat) : SV → Bool
  | .lp k _ => Nat.beq k d
  | .gd _ _ v => lpIn d v
  | .r _ => false
def gdOf (d : Nat) : SV → Bool
  | .gd s _ v => Nat.beq s d || gdOf d v
  | _ => false
def noLp (d : Nat) : Tm → Bool
  | [] => true
  | (s, v) :: r => cond (Nat.beq s d) (noLp d r) (cond (lpIn d v) false (noLp d r))
def noGd (d : Nat) : Tm → Bool
  | [] => true
  | (s, v) :: r => cond (gdOf d v) false (noGd d r)
/-- Does the operation make a box of the frame anew? -/
def boxesO (o : Oper) : Option Nat := match o.op, o.dst with
  | .alloc _, some d => cond (has I.hint.loc d) (some d) none
  | .box _ _, some d => cond (has I.hint.loc d) (some d) none
  | _, _ => none
def putO (o : Oper) (t : Tm) (v : SV) : Tm :=
  match o.dst with
  | some d => mset (demAt t (stealsO I o)) d (cond (has I.hint.own d) v v.dem)
  | none => demAt t (stealsO I o)
/-- May the operation's result be put there? -/
def dstOk (o : Oper) (t : Tm) : Bool :=
  (match o.dst with | some d => Nat.blt d I.nt && noGd d t | none => true) && (match boxesO I o with | some d => noLp d t | none => true)

/-- Where operations may change places, loads see just the objects that were there ahead of them all. -/
def limH (dr : Bool) (rg : Nat) (h : Hp) : Hp := cond dr ⟨fun j => cond (Nat.blt j rg) (h.m j) none, 0⟩ h
def opR (dr : Bool) (rg : Nat) (ds : List (Option Nat)) (i : Nat) (o : Oper) (s : St) (k : St → Option α) : Option α :=
  match o.guard with
    | none => match smOp I call o with
      | .p f => pRes (kindT I.P o.type) (lpsO (valsO [] s.t o.op.operands.toList)) ((valsO [] s.t o.op.operands.toList).bind f) fun v => k ⟨putO I o s.t v, s.b, s.h⟩
      | .rl f => coeK (kindT I.P o.type) ((valsO [] s.t o.op.operands.toList).bind fun vs => f vs s.b) fun v => k ⟨putO I o s.t (.r v), s.b, s.h⟩
      | .rh f => coeK (kindT I.P o.type) ((valsO [] s.t o.op.operands.toList).bind fun vs => f vs (limH dr rg s.h)) fun v => k ⟨putO I o s.t (.r v), s.b, s.h⟩
      | .wl f => ((valsO [] s.t o.op.operands.toList).bind fun vs => f vs s.b).bind fun r => k ⟨putO I o s.t r.1, r.2, s.h⟩
      | .al f => ((valsO [] s.t o.op.operands.toList).bind fun vs => f vs (limH dr rg s.h) (rg + i)).bind fun r => k ⟨putO I o s.t (.r r.1), s.b, hset s.h (rg + i) r.2⟩
      | .qh f => ((valsO [] s.t o.op.operands.toList).bind fun vs => f vs s.h).bind fun r => coeK (kindT I.P o.type) (some r.1) fun v => k ⟨putO I o s.t (.r v), s.b, r.2⟩
      | .wh f => cond I.quiet none (((valsO [] s.t o.op.operands.toList).bind fun vs => f vs s.h).bind fun r => cond o.dst.isSome (coeK (kindT I.P o.type) (some r.1) fun v => k ⟨putO I o s.t (.r v), s.b, r.2⟩) (k ⟨putO I o s.t (.r r.1), s.b, r.2⟩))
      | .bad => none
    | some (j, w) => match ds[j]? with
      | some (some g) => cond (match o.dst with | some d => Nat.beq d g | none => false) none <| (effG s.t 5 g w).bind fun e => match smOp I call o with
        | .p f => pResG (kindT I.P o.type) (lpsO (valsO e.1 s.t o.op.operands.toList)) e.2 (gvP (isCallO o) e.2 ((valsO e.1 s.t o.op.operands.toList).bind f)) fun v => k ⟨putO I o s.t (.gd g w v), s.b, s.h⟩
        | .rl f => coeG (kindT I.P o.type) e.2 ((valsO e.1 s.t o.op.operands.toList).bind fun vs => f vs s.b) fun v => k ⟨putO I o s.t (.gd g w (.r v)), s.b, s.h⟩
        | .rh f => coeG (kindT I.P o.type) e.2 ((valsO e.1 s.t o.op.operands.toList).bind fun vs => f vs (limH dr rg s.h)) fun v => k ⟨putO I o s.t (.gd g w (.r v)), s.b, s.h⟩
        | .wl _ => none
        | .al _ => none
        | .qh f => (cond e.2 ((valsO e.1 s.t o.op.operands.toList).bind fun vs => f vs s.h) (some (undefR, s.h))).bind fun r => coeG (kindT I.P o.type) e.2 (some r.1) fun v => k ⟨putO I o s.t (.gd g w (.r v)), s.b, r.2⟩
        | .wh f => cond I.quiet none ((cond e.2 ((valsO e.1 s.t o.op.operands.toList).bind fun vs => f vs s.h) (some (undefR, s.h))).bind fun r => coeG (kindT I.P o.type) e.2 (some r.1) fun v => k ⟨putO I o s.t (.gd g w (.r v)), s.b, r.2⟩)
        | .bad => none
      | _ => none
def opK (dr : Bool) (rg : Nat) (ds : List (Option Nat)) (i : Nat) (o : Oper) (s : St) (k : St → Option α) : Option α :=
  cond (dstOk I o s.t) (opR I call dr rg ds i o s k) none

def opsK (dr : Bool) (rg : Nat) (ds : List (Option Nat)) : Nat → List Oper → St → (St → Option α) → Option α
  | _, [], s, k => k s
  | i, o :: r, s, k => opK I call dr rg ds i o s fun s' => opsK dr rg ds (i + 1) r s' k

/-! Orders that Go leaves open -/
def clsO (o : Oper) : Nat := match smOp I (fun _ _ _ _ => none) o with | .p _ => 0 | .rl _ => 1 | .wl _ => 2 | .rh _ => 3 | .wh _ => 4 | .al _ => 6 | .qh _ => 7 | .bad => 5
/-- May the two not change places? p 0, rl 1, wl 2, rh 3, wh 4, al 6, qh 7 -/
def clash (a b : Nat) : Bool :=
  Nat.beq a 5 || Nat.beq b 5 || (Nat.beq a 2 && (Nat.beq b 1 || Nat.beq b 2)) || (Nat.beq b 2 && Nat.beq a 1)
  || (Nat.beq a 4 && Nat.ble 3 b) || (Nat.beq b 4 && Nat.ble 3 a) || (Nat.beq a 7 && Nat.ble 6 b) || (Nat.beq b 7 && Nat.ble 6 a)
def tmpsO : List Operand → List Nat
  | [] => []
  | .tmp s :: r => s :: tmpsO r
  | _ :: r => tmpsO r
def readsO (ds : List (Option Nat)) (o : Oper) : List Nat :=
  (match o.guard with | some (j, _) => (match ds[j]? with | some (some g) => [g] | _ => []) | none => []) ++ tmpsO o.op.operands.toList
def writesO (o : Oper) : List Nat := (match o.dst with | some d => [d] | none => []) ++ stealsO I o
def disj (a b : List Nat) : Bool :=
  match a with
  | [] => true
  | x :: r => cond (has b x) false (disj r b)
/-- For each operation the operations that come ahead of it, as bits. -/
def orBits (acc : List Nat) : List Edge → Nat
  | [] => 0
  | e :: r => cond (Region.binds .any e) (2 ^ e.on ||| acc.getD e.on 0 ||| orBits acc r) (orBits acc r)
def ancsO : List Nat → List Oper → List Nat
  | acc, [] => acc
  | acc, o :: r => ancsO (acc ++ [orBits acc o.after.toList]) r
def indepO (ds : List (Option Nat)) (a b : Oper) : Bool :=
  (!(clash (clsO I a) (clsO I b)) || ((boxesO I a).isSome || (boxesO I b).isSome)) && disj (writesO I a) (readsO ds b ++ writesO I b) && disj (writesO I b) (readsO ds a)
/-- A slot is set once, and read behind that. -/
def freshD (ds : List (Option Nat)) (x o : Oper) : Bool :=
  match o.dst with
  | some d => !(has (readsO ds x) d) && (match x.dst with | some d' => !(Nat.beq d d') | none => true)
  | none => true
def pairsAt (ds : List (Option Nat)) (m : Nat) (o : Oper) : Nat → List Oper → Bool
  | _, [] => true
  | j, x :: r => cond ((Nat.testBit m j || indepO I ds x o) && freshD ds x o) (pairsAt ds m o (j + 1) r) false
def pairsAll (ds : List (Option Nat)) : List Oper → List Oper → List Nat → Bool
  | _, [], _ => true
  | before, o :: r, m :: ms => cond (pairsAt I ds m o 0 before) (pairsAll ds (before ++ [o]) r ms) false
  | _, _ :: _, [] => false
def edgesBack : Nat → List Oper → Bool
  | _, [] => true
  | i, o :: r => cond (o.after.toList.all fun e => cond (Region.binds .any e) (Nat.blt e.on i) true) (edgesBack (i + 1) r) false
/-- Does the outcome not hang on the order? -/
def regionOk (ops : List Oper) : Bool :=
  edgesBack 0 ops && pairsAll I (ops.map (·.dst)) [] ops (ancsO [] ops)
/-- May all the results be put there? -/
def startOk (t : Tm) : List Oper → Bool
  | [] => true
  | o :: r => cond (dstOk I o t) (startOk t r) false
/-- Does it make an object of the heap? -/
def isAl (o : Oper) : Bool := Nat.beq (clsO I o) 6

/-! Code -/
inductive X where
  | norm | exit (id : Nat) | goto (l : Nat) | ret

def killT (kill : List Nat) : Tm → Tm
  | [] => []
  | (s, v) :: r => cond (has kill s) (killT kill r) ((s, v) :: killT kill r)
def killB (kill : List Nat) : Bx → Bx
  | [] => []
  | (s, v) :: r => cond (has kill s) (killB kill r) ((s, v) :: killB kill r)
def killS (kill : List Nat) (s : St) : St := ⟨killT kill s.t, killB kill s.b, s.h⟩
def look {β : Type} (d : β) : List (Nat × β) → Nat → β
  | [], _ => d
  | (k, l) :: r, n => cond (Nat.beq k n) l (look d r n)

/-- Behind a loop: the slots that live, each as what it is known to hold; what leads to a box of the frame leads there still. -/
def restT (t0 t : Tm) : List (Nat × Kd) → (Tm → Option α) → Option α
  | [], k => k []
  | (s, kd) :: r, k => match mget t0 s with
    | some (.lp j off) => match mget t s with
      | some (.lp j' off') => cond (Nat.beq j j' && Nat.beq off off') (restT t0 t r fun t' => k ((s, .lp j off) :: t')) none
      | _ => none
    | _ => coeK kd ((mget t s).bind SV.rv?) fun v => restT t0 t r fun t' => k ((s, .r v) :: t')
def restB (b : Bx) : List Nat → (Bx → Option α) → Option α
  | [], k => k []
  | d :: r, k => (mget b d).bind fun cs => restB b r fun b' => k ((d, cs) :: b')
def restS (l : List (Nat × Kd) × List Nat) (t0 : Tm) (s : St) (k : St → Option α) : Option α :=
  restT t0 s.t l.1 fun t' => restB s.b l.2 fun b' => k ⟨t', b', s.h⟩
end

def condK {α : Type} (c : Option SV) (a b : Option α) : Option α :=
  match c with
  | some (.r (.c (.a (.d (.bool v))))) => cond v a b
  | _ => none
def exitsC : Code → List Nat
  | .seq a b => exitsC a ++ exitsC b
  | .cond _ a b => exitsC a ++ exitsC b
  | .block id c => (exitsC c).filter fun j => !(Nat.beq j id)
  | .loop c => exitsC c
  | .scope c => exitsC c
  | .exit id => [id]
  | _ => []
def retsC : Code → Bool
  | .seq a b => retsC a || retsC b
  | .cond _ a b => retsC a || retsC b
  | .block _ c => retsC c
  | .loop c => retsC c
  | .scope c => retsC c
  | .ret => true
  | _ => false
def dedup : List Nat → List Nat
  | [] => []
  | x :: r => cond (has r x) (dedup r) (x :: dedup r)
def firstReg : Code → Option Nat
  | .region id _ _ => some id
  | .seq a b => match firstReg a with | some r => some r | none => firstReg b
  | .cond _ a b => match firstReg a with | some r => some r | none => firstReg b
  | .block _ c => firstReg c
  | .loop c => firstReg c
  | .scope c => firstReg c
  | _ => none
/-- How a loop was left. -/
def xSel {α : Type} (x : X) (bs : List (Nat × Option α)) (ret : Option α) : Option α :=
  match x with
  | .exit j => look none bs j
  | .ret => ret
  | _ => none

abbrev LoopF := (St → Option (X × St)) → St → Option (X × St)

def evK (I : In) (call : CallF) (loop : LoopF) : Code → {α : Type} → St → (X → St → Option α) → Option α
  | .skip, _, s, k => k .norm s
  | .region id ops draw, _, s, k =>
    cond (cond draw (regionOk I ops.toList && startOk I s.t ops.toList) true) (opsK I call draw s.h.nx (ops.toList.map (·.dst)) 0 ops.toList ⟨s.t, s.b, cond (ops.toList.any (isAl I)) (hreg s.h ops.size) s.h⟩ fun s' => k .norm (killS (look [] I.hint.kill id) s')) none
  | .seq a b, _, s, k => evK I call loop a s fun x s' => match x with | .norm => evK I call loop b s' k | x => k x s'
  | .cond c a b, _, s, k => condK (opd s.t c) (evK I call loop a s k) (evK I call loop b s k)
  | .block id c, _, s, k => evK I call loop c s fun x s' => match x with | .exit j => cond (Nat.beq j id) (k .norm s') (k (.exit j) s') | x => k x s'
  | .exit id, _, s, k => k (.exit id) s
  | .goto l, _, s, k => k (.goto l) s
  | .ret, _, s, k => k .ret s
  | .label _, _, s, k => k .norm s
  | .scope c, _, s, k => evK I call loop c s fun x s' => match x with | .goto _ => none | x => k x s'
  | .loop c, _, s, k =>
    match firstReg c with
    | none => none
    | some rid => (loop (fun s => evK I call loop c s fun x s' => some (x, s')) s).bind fun r =>
      xSel r.1 ((dedup (exitsC c)).map fun j => (j, restS (look ([], []) (look [] I.hint.live rid) (j + 1)) s.t r.2 fun s' => k (.exit j) s'))
        (cond (retsC c) (restS (look ([], []) (look [] I.hint.live rid) 0) s.t r.2 fun s' => k .ret s') none)
  | .rangeFunc .., _, _, _ => none
  | .refuse _, _, _, _ => none

/-! Functions -/
def args0 : Nat → List CV → Tm
  | _, [] => []
  | i, x :: r => (i, .r (.c x)) :: args0 (i + 1) r
def resOne (P : Program) (s : St) : ResultVar → Option CV
  | .tmp t => (mget s.t t).bind SV.cv?
  | .cell a ty => (szOf P ty).bind fun n => (mget s.t a).bind fun x => match x with
    | .lp k off => ((bget s.b k off n).bind fun cs => packV (isAggT P ty) (demC cs)).bind RV.cv?
    | .r x => (ldV n (isAggT P ty) x s.h).bind RV.cv?
    | _ => none
def resAll (P : Program) (s : St) : List ResultVar → Option (List CV)
  | [] => some []
  | r :: rs => (resOne P s r).bind fun x => (resAll P s rs).bind fun xs => some (x :: xs)
def resSlots : List ResultVar → List Nat
  | [] => []
  | .tmp t :: r => t :: resSlots r
  | .cell a _ :: r => a :: resSlots r
def resRV : List CV → RV
  | [x] => .c x
  | xs => .tup xs
def resK (P : Program) (fn : Func) : X → St → Option (RV × Hp)
  | .norm, s => cond (nodupB (resSlots fn.results.toList)) ((resAll P s fn.results.toList).bind fun xs => some (resRV xs, s.h)) none
  | .ret, s => cond (nodupB (resSlots fn.results.toList)) ((resAll P s fn.results.toList).bind fun xs => some (resRV xs, s.h)) none
  | _, _ => none
def evF (E : Env) (call : CallF) (loop : LoopF) : CallF := fun q f args h =>
  match E.P.funcs[f]? with
  | some fn => match fn.body with
    | some c => evK ⟨E, f, fn.ntmps, q⟩ call loop c ⟨args0 0 args, [], h⟩ (resK E.P fn)
    | none => none
  | none => none

def loopN : Nat → LoopF
  | 0, _, _ => none
  | n + 1, F, s => (F s).bind fun r => match r.1 with | .norm => loopN n F r.2 | _ => some r
def ev (E : Env) : Nat → CallF
  | 0 => fun _ _ _ _ => none
  | n + 1 => evF E (ev E n) (loopN n)

open Classical in
/-- Without end: what the runs of all great fuels answer. -/
noncomputable def callU (E : Env) : CallF := fun q f args h => if hx : ∃ r n, ∀ m, n ≤ m → ev E m q f args h = some r then some hx.choose else none
open Classical in
noncomputable def loopU : LoopF := fun F s => if hx : ∃ r n, ∀ m, n ≤ m → loopN m F s = some r then some hx.choose else none

/-- The body of the loop that begins with a region. -/
def loopAt (rid : Nat) : Code → Option Code
  | .seq a b => match loopAt rid a with | some c => some c | none => loopAt rid b
  | .cond _ a b => match loopAt rid a with | some c => some c | none => loopAt rid b
  | .block _ c => loopAt rid c
  | .scope c => loopAt rid c
  | .loop c => cond (match firstReg c with | some r => Nat.beq r rid | none => false) (some c) (loopAt rid c)
  | _ => none
noncomputable def LB (E : Env) (q : Bool) (f rid : Nat) : St → Option (X × St) :=
  match E.P.funcs[f]? with
  | some fn => match fn.body with
    | some c => match loopAt rid c with
      | some b => fun s => evK ⟨E, f, fn.ntmps, q⟩ (callU E) loopU b s fun x s' => some (x, s')
      | none => fun _ => none
    | none => fun _ => none
  | none => fun _ => none
end Go.Abs
