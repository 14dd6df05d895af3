/- What is proved with these texts: laws of the given Go program, by an abstract run of its translated code over values and blocks of the call's own.
   Condition: none beyond what each statement says. This text holds the definitions of the abstract run alone. -/
import Derived.Calls
import Derived.Orders
namespace Go.Proofs.YtbikcndldcfffaaDoor.Sim

/-- A value of the abstract run. Pointers and slices name blocks of the run's own. 'junk': nothing is known of it. -/
inductive AV where
  | junk
  | bool (b : Bool)
  | int (k : IntKind) (n : Int)
  | str (s : ByteArray)
  | ptr (p : Option (Nat × Nat))
  | slice (p : Option (Nat × Nat)) (len cap : Nat)
  | fn (f : FuncId) (first captured : List AV)
  | nilFn
  | iface (t : TypeId) (v : AV)
  | nilI
  | agg (cs : List AV)
  | tup (vs : List AV)

/-- A block of the abstract run. -/
inductive Blk where
  | dead
  | cells (t : TypeId) (cs : List AV)
  | iter (s : ByteArray) (pos : Nat)

structure St where
  tmps : List AV
  heap : List Blk

def nth : List AV → Nat → AV
  | [], _ => .junk
  | x :: _, 0 => x
  | _ :: xs, n + 1 => nth xs n

def setN : List AV → Nat → AV → List AV
  | [], _, _ => []
  | _ :: xs, 0, v => v :: xs
  | x :: xs, n + 1, v => x :: setN xs n v

def blk : List Blk → Nat → Blk
  | [], _ => .dead
  | x :: _, 0 => x
  | _ :: xs, n + 1 => blk xs n

def setB : List Blk → Nat → Blk → List Blk
  | [], _, _ => []
  | _ :: xs, 0, v => v :: xs
  | x :: xs, n + 1, v => x :: setB xs n v

def ofCell : Value → AV
  | .bool b => .bool b
  | .int k n => .int k n
  | .string s => .str s
  | .pointer none => .ptr none
  | .slice none l c => .slice none l c
  | .nilFunc => .nilFn
  | .nilIface => .nilI
  | _ => .junk

def ofCells : List Value → List AV
  | [] => []
  | v :: vs => ofCell v :: ofCells vs

def ofValue : Value → AV
  | .agg cs => .agg (ofCells cs.toList)
  | .tuple vs => .tup (ofCells vs.toList)
  | v => ofCell v

mutual
def AV.pure : AV → Bool
  | .bool _ | .int _ _ | .str _ | .nilFn | .nilI => true
  | .ptr none => true
  | .slice none _ _ => true
  | .iface _ v => AV.pure v
  | .agg cs => AV.pureL cs
  | .tup vs => AV.pureL vs
  | .fn _ a b => AV.pureL a && AV.pureL b
  | _ => false
def AV.pureL : List AV → Bool
  | [] => true
  | v :: vs => AV.pure v && AV.pureL vs
end

mutual

def AV.lo (n : Nat) : AV → Bool
  | .ptr (some p) => Nat.blt p.1 n
  | .slice (some p) _ _ => Nat.blt p.1 n
  | .iface _ v => AV.lo n v
  | .agg cs => AV.loL n cs
  | .tup vs => AV.loL n vs
  | .fn _ a b => AV.loL n a && AV.loL n b
  | _ => true
def AV.loL (n : Nat) : List AV → Bool
  | [] => true
  | v :: vs => AV.lo n v && AV.loL n vs
end

/-- What a slot of the frame keeps at a cut: the slots whose bit is 0 are forgotten. -/
def scrub : Nat → List AV → List AV
  | _, [] => []
  | m, v :: vs => cond (Nat.beq (m % 2) 1) v .junk :: scrub (m / 2) vs

/-- Blocks that are forgotten at a cut: those whose bit is 1. -/
def scrubB : Nat → List Blk → List Blk
  | _, [] => []
  | m, b :: bs => cond (Nat.beq (m % 2) 1) .dead b :: scrubB (m / 2) bs

def Blk.lo (n : Nat) : Blk → Bool
  | .cells _ cs => AV.loL n cs
  | _ => true

def takeB : Nat → List Blk → List Blk
  | 0, _ => []
  | _, [] => []
  | n + 1, b :: bs => b :: takeB n bs

def allLo (n : Nat) : List Blk → Bool
  | [] => true
  | b :: bs => b.lo n && allLo n bs

/-! ### eliminators, in the style of continuations -/
section
variable {R : Type}
def AV.intK (k : IntKind) (v : AV) (c : Int → Option R) : Option R :=
  match v with
  | .int k' n => cond (decide (k' = k)) (c n) none
  | _ => none
def AV.anyIntK (v : AV) (c : Int → Option R) : Option R :=
  match v with
  | .int _ n => c n
  | _ => none
def AV.boolK (v : AV) (c : Bool → Option R) : Option R :=
  match v with
  | .bool b => c b
  | _ => none
def AV.strK (v : AV) (c : ByteArray → Option R) : Option R :=
  match v with
  | .str s => c s
  | _ => none
def AV.aggK (v : AV) (c : List AV → Option R) : Option R :=
  match v with
  | .agg cs => c cs
  | _ => none
def AV.tupK (v : AV) (c : List AV → Option R) : Option R :=
  match v with
  | .tup cs => c cs
  | _ => none
def AV.ptrK (v : AV) (c : Nat → Nat → Option R) : Option R :=
  match v with
  | .ptr (some p) => c p.1 p.2
  | _ => none
def consK (l : List AV) (c : AV → List AV → Option R) : Option R :=
  match l with
  | x :: xs => c x xs
  | [] => none
def nilK (l : List AV) (c : Option R) : Option R :=
  match l with
  | [] => c
  | _ :: _ => none
end

/-- The shape of a call's result. -/
inductive Shape where
  | any
  | int (k : IntKind)
  | bool
  | str
  | arr
  | agg (l : List Shape)
  | tup (l : List Shape)

mutual
def castK {R : Type} : Shape → AV → (AV → Option R) → Option R
  | .any, v, c => c v
  | .int k, v, c => v.intK k fun n => c (.int k n)
  | .bool, v, c => v.boolK fun b => c (.bool b)
  | .str, v, c => v.strK fun s => c (.str s)
  | .arr, v, c => v.aggK fun cs => c (.agg cs)
  | .agg l, v, c => v.aggK fun cs => castL l cs fun cs' => c (.agg cs')
  | .tup l, v, c => v.tupK fun cs => castL l cs fun cs' => c (.tup cs')
def castL {R : Type} : List Shape → List AV → (List AV → Option R) → Option R
  | [], l, c => nilK l (c [])
  | s :: ss, l, c => consK l fun x xs => castK s x fun x' => castL ss xs fun xs' => c (x' :: xs')
end

/-- What an operation brings about. -/
inductive Res where
  | val (v : AV)
  | new (b : Blk) (v : Nat → AV)
  | wr (K : Nat) (b : Blk) (v : AV)
  | call (f : FuncId) (args : List AV)

/-- What is known beforehand of a program. -/
structure Cfg where
  P : Program
  /-- calls that are told of by what is known of them: arguments and results without pointers -/
  isP : FuncId → Bool
  /-- functions that can be entered -/
  isF : FuncId → Bool
  /-- functions without a body -/
  ext : FuncId → List AV → Option (Bool × AV)
  /-- what is known beforehand of some functions' answers -/
  known : FuncId → List AV → Option AV := fun _ _ => none
  shape : FuncId → Shape
  cuts : FuncId → List (Nat × Nat × Nat × Option Nat)

structure Env extends Cfg where
  cp : FuncId → List AV → Option AV
  /-- calls that are run in place: blocks below the first number are not written -/
  ci : Nat → FuncId → List AV → List Blk → (AV → List Blk → Option AV) → Option AV
  lf : Nat
  lim : Nat
  cut : List (Nat × Nat × Nat × Option Nat)

def evA (T : List AV) : Operand → AV
  | .tmp t => nth T t
  | .const v => ofValue v
  | .global _ => .junk
  | .func f => .fn f [] []

def evL (T : List AV) : List Operand → List AV
  | [] => []
  | x :: xs => evA T x :: evL T xs

/-- The size of a variable of a type, in cells, and whether it is a struct or an array. -/
def szOf (P : Program) (t : TypeId) : Option Nat := (P.info? t).map (·.size)
def aggOf (P : Program) (t : TypeId) : Option Bool :=
  match P.underlying t with
  | some (.struct _) => some true
  | some (.array _ _) => some true
  | some _ => some false
  | none => none

def cellsOf : AV → List AV
  | .agg cs => cs
  | v => [v]

def lenIs : List AV → Nat → Bool
  | l, n => Nat.beq l.length n

def fits (o n : Nat) (cs : List AV) : Bool := Nat.ble (o + n) cs.length

/-- a variable read -/
def loadK {R : Type} (P : Program) (H : List Blk) (t : TypeId) (a : AV) (k : AV → Option R) : Option R :=
  a.ptrK fun K o =>
  match blk H K with
  | .cells _ cs =>
    match aggOf P t, szOf P t with
    | some true, some n => cond (fits o n cs) (k (.agg ((cs.drop o).take n))) none
    | some false, some _ => cond (fits o 1 cs) (k (nth cs o)) none
    | _, _ => none
  | _ => none

def splice (cs : List AV) (o : Nat) (vs : List AV) : List AV := cs.take o ++ vs ++ cs.drop (o + vs.length)

/-- one cell's value? -/
def cellOk : AV → Bool
  | .agg _ | .tup _ | .junk => false
  | _ => true
def cellsOk : List AV → Bool
  | [] => true
  | v :: vs => cellOk v && cellsOk vs

def storeK {R : Type} (P : Program) (H : List Blk) (t : TypeId) (a v : AV) (k : Res → Option R) : Option R :=
  a.ptrK fun K o =>
  match blk H K with
  | .cells t' cs =>
    match szOf P t with
    | some n => cond (lenIs (cellsOf v) n) (cond (cellsOk (cellsOf v)) (cond (fits o n cs) (k (.wr K (.cells t' (splice cs o (cellsOf v))) (.tup []))) none) none) none
    | _ => none
  | _ => none

def shiftI (op : BinOp) (k : IntKind) (a b : Int) : AV :=
  match op with
  | .shl => .int k (k.wrap (a * 2 ^ (min b.toNat k.bits)))
  | _ => .int k (a.fdiv (2 ^ (min b.toNat k.bits)))

def arith (op : BinOp) (k : IntKind) (a b : Int) : Option AV :=
  match op with
  | .add => some (.int k (k.wrap (a + b)))
  | .sub => some (.int k (k.wrap (a - b)))
  | .mul => some (.int k (k.wrap (a * b)))
  | .and => some (.int k (k.wrap (BitVec.ofInt k.bits a &&& BitVec.ofInt k.bits b).toNat))
  | .or => some (.int k (k.wrap (BitVec.ofInt k.bits a ||| BitVec.ofInt k.bits b).toNat))
  | .xor => some (.int k (k.wrap (BitVec.ofInt k.bits a ^^^ BitVec.ofInt k.bits b).toNat))
  | .andNot => some (.int k (k.wrap (BitVec.ofInt k.bits a &&& ~~~BitVec.ofInt k.bits b).toNat))
  | .eql => some (.bool (a == b))
  | .neq => some (.bool (a != b))
  | .lss => some (.bool (decide (a < b)))
  | .leq => some (.bool (decide (a ≤ b)))
  | .gtr => some (.bool (decide (a > b)))
  | .geq => some (.bool (decide (a ≥ b)))
  | _ => none


mutual
def eqV (P : Program) : Nat → TypeId → AV → AV → Option Bool
  | 0, _, _, _ => none
  | d + 1, t, x, y =>
    match P.underlying t, x, y with
    | some .bool, .bool a, .bool b => some (a == b)
    | some (.int _), .int k a, .int k' b => if k = k' then some (a == b) else none
    | some .string, .str a, .str b => some (a == b)
    | some (.struct fields), .agg xs, .agg ys => if P.stoodInHeld t then none else eqF P d fields.toList xs ys
    | some (.array len elem), .agg xs, .agg ys =>
      match szOf P elem, aggOf P elem with
      | some 1, some false => if lenIs xs len && lenIs ys len then eqC P d elem xs ys else none
      | _, _ => none
    | some (.interface _), .nilI, .nilI => some true
    | some (.interface _), .nilI, .iface _ _ => some false
    | some (.interface _), .iface _ _, .nilI => some false
    | _, _, _ => none
def eqF (P : Program) : Nat → List Field → List AV → List AV → Option Bool
  | _, [], _, _ => some true
  | 0, _, _, _ => none
  | d + 1, f :: fs, xs, ys =>
    if f.name = "_" then none else
    match aggOf P f.type, szOf P f.type with
    | some true, some n =>
      if fits f.offset n xs && fits f.offset n ys then
        match eqV P d f.type (.agg ((xs.drop f.offset).take n)) (.agg ((ys.drop f.offset).take n)), eqF P d fs xs ys with
        | some a, some b => some (a && b)
        | _, _ => none
      else none
    | some false, some _ =>
      if fits f.offset 1 xs && fits f.offset 1 ys then
        match eqV P d f.type (nth xs f.offset) (nth ys f.offset), eqF P d fs xs ys with
        | some a, some b => some (a && b)
        | _, _ => none
      else none
    | _, _ => none
def eqC (P : Program) : Nat → TypeId → List AV → List AV → Option Bool
  | _, _, [], [] => some true
  | 0, _, _, _ => none
  | d + 1, t, x :: xs, y :: ys =>
    match eqV P d t x y, eqC P d t xs ys with
    | some a, some b => some (a && b)
    | _, _ => none
  | _, _, _, _ => none
end

end Go.Proofs.YtbikcndldcfffaaDoor.Sim
