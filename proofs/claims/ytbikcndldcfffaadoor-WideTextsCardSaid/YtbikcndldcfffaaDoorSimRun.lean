/- The abstract run of an operation, of a region, of code, of a function. Condition: none: definitions alone. -/
import Derived.Test.YtbikcndldcfffaaDoorSimDefs
import GoSem.Core.Utf8
namespace Go.Proofs.YtbikcndldcfffaaDoor.Sim

def putO (T : List AV) : Option Tmp → AV → List AV
  | some d, v => setN T d v
  | none, _ => T

section
variable {R : Type}

/-- A part of a composite value. -/
def partK (P : Program) (t : TypeId) (cs : List AV) (off : Nat) (k : AV → Option R) : Option R :=
  match aggOf P t, szOf P t with
  | some true, some n => cond (fits off n cs) (k (.agg ((cs.drop off).take n))) none
  | some false, some _ => cond (fits off 1 cs) (k (nth cs off)) none
  | _, _ => none

def boxOk : AV → Bool
  | .junk | .tup _ => false
  | _ => true

/-- Parts laid into cells: places and values. -/
def fillK (P : Program) (place : Nat → Option (Nat × Nat)) : List AV → List (Nat × AV) → (List AV → Option R) → Option R
  | cs, [], k => k cs
  | cs, (i, v) :: rest, k =>
    match place i with
    | none => none
    | some (off, size) => cond (boxOk v) (cond (lenIs (cellsOf v) size) (cond (fits off size cs) (fillK P place (splice cs off (cellsOf v)) rest k) none) none) none

def zeroA (P : Program) (t : TypeId) : Option AV :=
  match P.info? t with
  | some i => match i.zero with | some z => some (ofValue z) | none => none
  | none => none

def placeF (P : Program) (fields : Array Field) (i : Nat) : Option (Nat × Nat) :=
  match fields[i]? with
  | some f => match szOf P f.type with | some n => some (f.offset, n) | none => none
  | none => none

def buildK (P : Program) (t : TypeId) (parts : List (Nat × AV)) (k : AV → Option R) : Option R :=
  match P.underlying t, zeroA P t with
  | some (.struct fields), some z =>
    cond (boxOk z) (cond (fields.toList.all fun f => (szOf P f.type).isSome) (fillK P (placeF P fields) (cellsOf z) parts fun cs => k (.agg cs)) none) none
  | some (.array _ elem), some z =>
    match szOf P elem with
    | some n => cond (boxOk z) (fillK P (fun i => some (i * n, n)) (cellsOf z) parts fun cs => k (.agg cs)) none
    | none => none
  | _, _ => none

def repCells : Nat → List AV → List AV
  | 0, _ => []
  | n + 1, z => z ++ repCells n z

def buildSliceK (P : Program) (t : TypeId) (len : Nat) (parts : List (Nat × AV)) (k : Res → Option R) : Option R :=
  match P.underlying t with
  | some (.slice elem) =>
    match szOf P elem, zeroA P elem with
    | some n, some z =>
      cond (Nat.ble (len * n) 16777216) (cond (lenIs (cellsOf z) n) (cond (Nat.ble 1 n && boxOk z)
        (fillK P (fun i => some (i * n, n)) (repCells len (cellsOf z)) parts fun cs => k (.new (.cells elem cs) fun K => .slice (some (K, 0)) len len)) none) none) none
    | _, _ => none
  | _ => none

def isNilI : AV → Bool
  | .nilI => true
  | _ => false
def isConst : Operand → Bool
  | .const _ => true
  | _ => false

def binK (P : Program) (op : BinOp) (t : TypeId) (cx cy : Bool) (x y : AV) (k : AV → Option R) : Option R :=
  match x, y with
  | .int kx a, .int ky b =>
    match op with
    | .shl | .shr => cond (decide (b < 0)) none (k (shiftI op kx a b))
    | .quo => cond (decide (kx = ky)) (cond (decide (b = 0)) none (k (.int kx (kx.wrap (a.tdiv b))))) none
    | .rem => cond (decide (kx = ky)) (cond (decide (b = 0)) none (k (.int kx (a.tmod b)))) none
    | op => cond (decide (kx = ky)) (match arith op kx a b with | some v => k v | none => none) none
  | .str a, .str b =>
    match op with
    | .add => cond (decide (((a.size + b.size : Nat) : Int) > IntKind.i64.max)) none (k (.str (a ++ b)))
    | .eql => k (.bool (a.toList == b.toList))
    | .neq => k (.bool (!(a.toList == b.toList)))
    | .lss => k (.bool (Op.bytesLess a.toList b.toList))
    | .leq => k (.bool (Op.bytesLess a.toList b.toList || a.toList == b.toList))
    | .gtr => k (.bool (!(Op.bytesLess a.toList b.toList || a.toList == b.toList)))
    | .geq => k (.bool (!Op.bytesLess a.toList b.toList))
    | _ => none
  | .agg xs, .agg ys =>
    cond (P.eqGuardType P.depth t) none
    (match op with
    | .eql => match eqV P 100 t (.agg xs) (.agg ys) with | some b => k (.bool b) | none => none
    | .neq => match eqV P 100 t (.agg xs) (.agg ys) with | some b => k (.bool (!b)) | none => none
    | _ => none)
  | x, y =>
    cond (isNilI x && isNilI y && !cx && !cy) none
    (match op with
    | .eql => match eqV P 100 t x y with | some b => k (.bool b) | none => none
    | .neq => match eqV P 100 t x y with | some b => k (.bool (!b)) | none => none
    | _ => none)

def unK (op : UnOp) (x : AV) (k : AV → Option R) : Option R :=
  match op, x with
  | .neg, .int kd n => k (.int kd (kd.wrap (0 - n)))
  | .xor, .int kd n => k (.int kd (kd.wrap (BitVec.ofInt kd.bits (if kd.signed then -1 else kd.max) ^^^ BitVec.ofInt kd.bits n).toNat))
  | .not, .bool b => k (.bool !b)
  | _, _ => none

def bytesOf : List AV → Option ByteArray → Option ByteArray
  | [], acc => acc
  | .int .u8 n :: r, some acc => bytesOf r (some (acc.push (UInt8.ofNat n.toNat)))
  | _, _ => none

def convK (P : Program) (H : List Blk) (src dst : TypeId) (x : AV) (k : AV → Option R) : Option R :=
  match P.underlying src, P.underlying dst, x with
  | some _, some (.int kd), .int _ n => k (.int kd (kd.wrap n))
  | some _, some .string, .str s => k (.str s)
  | some (.slice e), some .string, .slice (some (K, o)) len _ =>
    match P.underlying e, blk H K with
    | some (.int .u8), .cells _ cs => cond (fits o len cs) (match bytesOf ((cs.drop o).take len) (some .empty) with | some s => k (.str s) | none => none) none
    | _, _ => none
  | _, _, _ => none

def bndK (v : Option AV) (dflt : Option Nat) (most : Nat) (c : Nat → Option R) : Option R :=
  match v, dflt with
  | some x, _ => x.anyIntK fun j => cond (decide (0 ≤ j) && decide (j ≤ most)) (c j.toNat) none
  | none, some d => c d
  | none, none => none

def sliceStrK (s : ByteArray) (lo hi : Option AV) (k : AV → Option R) : Option R :=
  bndK hi (some s.size) s.size fun h => bndK lo (some 0) h fun l => k (.str (s.extract l h))

def sliceSlK (n : Nat) (p : Option (Nat × Nat)) (len cap : Nat) (lo hi mx : Option AV) (k : AV → Option R) : Option R :=
  bndK mx (some cap) cap fun m => bndK hi (cond mx.isSome none (some len)) m fun h => bndK lo (some 0) h fun l =>
    cond (Nat.beq m l) (k (.slice p (h - l) (m - l))) (k (.slice (p.map fun a => (a.1, a.2 + l * n)) (h - l) (m - l)))

def sliceK (P : Program) (t : TypeId) (x : AV) (lo hi mx : Option AV) (k : AV → Option R) : Option R :=
  match P.underlying t, x with
  | some .string, .str s => cond mx.isSome none (sliceStrK s lo hi k)
  | some (.slice elem), .slice p len cap => match szOf P elem with | some n => sliceSlK n p len cap lo hi mx k | none => none
  | some (.array n elem), .ptr (some p) => match szOf P elem with | some z => sliceSlK z (some p) n n lo hi mx k | none => none
  | _, _ => none

def fieldAddrK (P : Program) (s : TypeId) (x : AV) (f : Nat) (k : AV → Option R) : Option R :=
  match P.underlying s with
  | some (.struct fields) =>
    match fields[f]? with
    | some fd => match szOf P fd.type with
      | some (_ + 1) => x.ptrK fun K o => k (.ptr (some (K, o + fd.offset)))
      | _ => none
    | none => none
  | _ => none

def fieldK (P : Program) (t : TypeId) (x : AV) (f : Nat) (k : AV → Option R) : Option R :=
  match P.underlying t with
  | some (.struct fields) =>
    match fields[f]? with
    | some fd => x.aggK fun cs => partK P fd.type cs fd.offset k
    | none => none
  | _ => none

def indexAddrK (P : Program) (t : TypeId) (x ix : AV) (k : AV → Option R) : Option R :=
  match P.underlying t, x with
  | some (.array len elem), .ptr (some p) =>
    match szOf P elem with
    | some n => ix.anyIntK fun i => cond (decide (0 ≤ i) && decide (i < len)) (k (.ptr (some (p.1, p.2 + i.toNat * n)))) none
    | none => none
  | some (.slice elem), .slice (some p) len _ =>
    match szOf P elem with
    | some n => ix.anyIntK fun i => cond (decide (0 ≤ i) && decide (i < len)) (k (.ptr (some (p.1, p.2 + i.toNat * n)))) none
    | none => none
  | _, _ => none

def indexK (P : Program) (t : TypeId) (x ix : AV) (k : AV → Option R) : Option R :=
  match P.underlying t, x with
  | some (.array len elem), .agg cs =>
    match szOf P elem with
    | some n => ix.anyIntK fun i => cond (decide (0 ≤ i) && decide (i < len)) (partK P elem cs (i.toNat * n) k) none
    | none => none
  | some .string, .str s => ix.anyIntK fun i => cond (decide (0 ≤ i)) (match s[i.toNat]? with | some b => k (.int .u8 b.toNat) | none => none) none
  | _, _ => none

def lenK (P : Program) (t : TypeId) (x : AV) (k : AV → Option R) : Option R :=
  match P.underlying t, x with
  | some .string, .str s => k (.int .i64 s.size)
  | some (.array n _), _ => k (.int .i64 n)
  | some (.slice _), .slice _ n _ => k (.int .i64 n)
  | _, _ => none

def maxK (isMax : Bool) : AV → List AV → (AV → Option R) → Option R
  | x, [], k => k x
  | .int kx a, .int _ b :: r, k => maxK isMax (.int kx (cond isMax (if b > a then b else a) (if b < a then b else a))) r k
  | _, _, _ => none

def methodOf (P : Program) (t : TypeId) (name : String) : Option FuncId :=
  match P.info? t with
  | some i => match i.methods.find? (·.name == name) with
    | some m => match m.path.toList, m.func with
      | [], some (f, pr) =>
        match P.underlying t with
        | some (.pointer _) => if pr then some f else none
        | some _ => if pr then none else some f
        | none => none
      | _, _ => none
    | none => none
  | none => none

def mapEv (T : List AV) : List (Nat × Operand) → List (Nat × AV)
  | [] => []
  | (i, x) :: r => (i, evA T x) :: mapEv T r

def builtinK (P : Program) (_H : List Blk) (b : Builtin) (argTypes : Array TypeId) (args : List AV) (k : Res → Option R) : Option R :=
  match b, args with
  | .len, [x] => match argTypes[0]? with | some t => lenK P t x fun v => k (.val v) | none => none
  | .max, x :: r => maxK true x r fun v => k (.val v)
  | .min, x :: r => maxK false x r fun v => k (.val v)
  | _, _ => none

/-- One operation. -/
def opK (E : Env) (o : Oper) (st : St) (k : Res → Option R) : Option R :=
  match o.op with
  | .move x => k (.val (evA st.tmps x))
  | .assign x => k (.val (evA st.tmps x))
  | .pick c a b => (evA st.tmps c).boolK fun t => cond t (k (.val (evA st.tmps a))) (k (.val (evA st.tmps b)))
  | .alloc t => match zeroA E.P t with
    | some z => cond (boxOk z) (k (.new (.cells t (cellsOf z)) fun K => .ptr (some (K, 0)))) none
    | none => none
  | .box t x => cond (boxOk (evA st.tmps x)) (k (.new (.cells t (cellsOf (evA st.tmps x))) fun K => .ptr (some (K, 0)))) none
  | .build t parts => buildK E.P t (mapEv st.tmps parts.toList) fun v => k (.val v)
  | .buildSlice t len parts => buildSliceK E.P t len (mapEv st.tmps parts.toList) k
  | .load t a => loadK E.P st.heap t (evA st.tmps a) fun v => k (.val v)
  | .store t a x => storeK E.P st.heap t (evA st.tmps a) (evA st.tmps x) k
  | .nilCheck x => match evA st.tmps x with
    | .ptr (some p) => k (.val (.ptr (some p)))
    | .fn f a b => k (.val (.fn f a b))
    | _ => none
  | .binOp op t x y _ => binK E.P op t (isConst x) (isConst y) (evA st.tmps x) (evA st.tmps y) fun v => k (.val v)
  | .unOp op _ x => unK op (evA st.tmps x) fun v => k (.val v)
  | .convert s d x => convK E.P st.heap s d (evA st.tmps x) fun v => k (.val v)
  | .makeInterface t x => match E.P.underlying t with
    | some (.interface _) => none
    | some _ => k (.val (.iface t (evA st.tmps x)))
    | none => none
  | .makeFunc (.func f) first captured => k (.val (.fn f (evL st.tmps first.toList) (evL st.tmps captured.toList)))
  | .slice t x lo hi mx => sliceK E.P t (evA st.tmps x) (lo.map (evA st.tmps)) (hi.map (evA st.tmps)) (mx.map (evA st.tmps)) fun v => k (.val v)
  | .fieldAddr s x f => fieldAddrK E.P s (evA st.tmps x) f fun v => k (.val v)
  | .field t x f => fieldK E.P t (evA st.tmps x) f fun v => k (.val v)
  | .indexAddr t x ix => indexAddrK E.P t (evA st.tmps x) (evA st.tmps ix) fun v => k (.val v)
  | .index t x ix => indexK E.P t (evA st.tmps x) (evA st.tmps ix) fun v => k (.val v)
  | .range t x => match E.P.underlying t, evA st.tmps x with
    | some .string, .str s => k (.new (.iter s 0) fun K => .ptr (some (K, 0)))
    | _, _ => none
  | .next it true => match evA st.tmps it with
    | .ptr (some (K, 0)) => match blk st.heap K with
      | .iter s pos => cond (Nat.blt pos s.size)
          (k (.wr K (.iter s (pos + (Utf8.decode s pos).2)) (.tup [.bool true, .int .i64 pos, .int .i32 (Utf8.decode s pos).1])))
          (k (.val (.tup [.bool false])))
      | _ => none
    | _ => none
  | .extract t ix => (evA st.tmps t).tupK fun vs => cond (fits ix 1 vs) (k (.val (nth vs ix))) none
  | .call c => match c.callee with
    | .value f => match evA st.tmps f with
      | .fn g first cap =>
        match E.ext g (first ++ evL st.tmps c.args.toList ++ cap) with
        | some r => cond r.1 (k (.val r.2)) none
        | none => cond (E.isF g) (k (.call g (first ++ evL st.tmps c.args.toList ++ cap))) none
      | _ => none
    | .invoke r m => match evA st.tmps r with
      | .iface t v => match methodOf E.P t m with
        | some f => cond (E.isF f) (k (.call f (v :: evL st.tmps c.args.toList))) none
        | none => none
      | _ => none
    | .builtin b => builtinK E.P st.heap b c.argTypes (evL st.tmps c.args.toList) k
  | _ => none
end

end Go.Proofs.YtbikcndldcfffaaDoor.Sim
