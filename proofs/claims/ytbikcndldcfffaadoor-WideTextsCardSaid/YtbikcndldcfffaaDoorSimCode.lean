/- The abstract run of regions, code, functions. Condition: none: definitions alone. -/
import Derived.Test.YtbikcndldcfffaaDoorSimRun
namespace Go.Proofs.YtbikcndldcfffaaDoor.Sim

inductive Exi where
  | normal
  | exit (id : Nat)
  | goto (l : Nat)
  | ret

section
variable {R : Type}

/-- Is an operation wanted? On each way the guard's slot then holds a literal. -/
def guardK (all : Array Oper) (o : Oper) (T : List AV) (yes no : List AV → Option R) : Option R :=
  match o.guard with
  | none => yes T
  | some (j, want) =>
    match (all[j]?).bind (·.dst) with
    | none => no T
    | some d =>
      match nth T d with
      | .bool b => cond b (cond want (yes (setN T d (.bool true))) (no (setN T d (.bool true)))) (cond want (no (setN T d (.bool false))) (yes (setN T d (.bool false))))
      | .tup [] => no T
      | _ => none
end

def undefA : AV := .tup []

/-- A call: of a function that is told of, or run in place. -/
def callE (E : Env) (f : FuncId) (args : List AV) (H : List Blk) (k : AV → List Blk → Option AV) : Option AV :=
  cond (E.isP f)
    (cond (AV.pureL args) ((E.cp f args).bind fun v => castK (E.shape f) v fun v' => k v' H) none)
    (E.ci E.lim f args H k)

def execK (E : Env) (o : Oper) (st : St) (k : St → Option AV) : Option AV :=
  opK E o st fun
    | .val v => k ⟨putO st.tmps o.dst v, st.heap⟩
    | .new b v => k ⟨putO st.tmps o.dst (v st.heap.length), st.heap ++ [b]⟩
    | .wr K b v => cond (Nat.ble E.lim K) (k ⟨putO st.tmps o.dst v, setB st.heap K b⟩) none
    | .call f args => callE E f args st.heap fun v H => k ⟨putO st.tmps o.dst v, H⟩

def opsK (E : Env) (all : Array Oper) : List Oper → St → (St → Option AV) → Option AV
  | [], st, k => k st
  | o :: os, st, k =>
    guardK all o st.tmps
      (fun T => execK E o ⟨T, st.heap⟩ fun st' => opsK E all os st' k)
      (fun T => opsK E all os ⟨putO T o.dst undefA, st.heap⟩ k)

/-! ### regions that draw their order -/

structure Acc where
  idx : Nat
  rd : List Nat
  wr : List Nat
  all : Bool

def blkOf : AV → List Nat
  | .ptr (some p) => [p.1]
  | .slice (some p) _ _ => [p.1]
  | _ => []

def accOf (E : Env) (new : Nat) (o : Oper) (T : List AV) (i : Nat) : Acc :=
  match o.op with
  | .load _ a => ⟨i, blkOf (evA T a), [], false⟩
  | .store _ a _ => ⟨i, [], blkOf (evA T a), false⟩
  | .next a _ => ⟨i, [], blkOf (evA T a), false⟩
  | .convert _ _ a => ⟨i, blkOf (evA T a), [], false⟩
  | .alloc _ => ⟨i, [], [new], false⟩
  | .box _ _ => ⟨i, [], [new], false⟩
  | .buildSlice _ _ _ => ⟨i, [], [new], false⟩
  | .range _ _ => ⟨i, [], [new], false⟩
  | .call c => match c.callee with
    | .value f => match evA T f with
      | .fn g _ _ => cond (E.isP g) ⟨i, [], [], false⟩ ⟨i, [], [], true⟩
      | _ => ⟨i, [], [], true⟩
    | .invoke _ _ => ⟨i, [], [], true⟩
    | .builtin .len => ⟨i, [], [], false⟩
    | .builtin .max => ⟨i, [], [], false⟩
    | .builtin .min => ⟨i, [], [], false⟩
    | .builtin _ => ⟨i, [], [], true⟩
  | _ => ⟨i, [], [], false⟩

def memN : Nat → List Nat → Bool
  | _, [] => false
  | x, y :: l => Nat.beq x y || memN x l
def meets : List Nat → List Nat → Bool
  | [], _ => false
  | x :: l, m => memN x m || meets l m
def notNil : List Nat → Bool
  | [] => false
  | _ => true

def Acc.clash (a b : Acc) : Bool :=
  (a.all && notNil b.wr) || (b.all && notNil a.wr) || meets a.wr b.rd || meets a.wr b.wr || meets a.rd b.wr

/-- What comes ahead of each operation in whatever order. -/
def maskOf (acc : List Nat) : List Edge → Nat
  | [] => 0
  | e :: es => cond (Region.binds .any e) (2 ^ e.on ||| acc.getD e.on 0 ||| maskOf acc es) (maskOf acc es)
def befores : List Nat → List Oper → List Nat
  | acc, [] => acc
  | acc, o :: os => befores (acc ++ [maskOf acc o.after.toList]) os

/-- j comes behind i in whatever order. -/
def ordered (bf : List Nat) (i j : Nat) : Bool := (bf.getD j 0).testBit i

def clashFree (bf : List Nat) (a : Acc) : List Acc → Bool
  | [] => true
  | b :: l => (ordered bf a.idx b.idx || ordered bf b.idx a.idx || !a.clash b) && clashFree bf a l
def noClash (bf : List Nat) : List Acc → Bool
  | [] => true
  | a :: l => clashFree bf a l && noClash bf l

def isNew (o : Oper) : Bool :=
  match o.op with
  | .alloc _ | .box _ _ | .buildSlice _ _ _ | .range _ _ => true
  | _ => false

def someNew : List Oper → Bool
  | [] => false
  | o :: os => isNew o || someNew os

def execD (E : Env) (new : Nat) (o : Oper) (st : St) (k : St → Option AV) : Option AV :=
  opK E o st fun
    | .val v => k ⟨putO st.tmps o.dst v, st.heap⟩
    | .new b v => k ⟨putO st.tmps o.dst (v new), setB st.heap new b⟩
    | .wr K b v => cond (Nat.ble E.lim K) (k ⟨putO st.tmps o.dst v, setB st.heap K b⟩) none
    | .call f args =>
      cond (E.isP f)
        (cond (AV.pureL args) ((E.cp f args).bind fun v => castK (E.shape f) v fun v' => k ⟨putO st.tmps o.dst v', st.heap⟩) none)
        (E.ci st.heap.length f args st.heap fun v _ => cond v.pure (k ⟨putO st.tmps o.dst v, st.heap⟩) none)

def opsD (E : Env) (all : Array Oper) (base : Nat) : Nat → List Oper → List Acc → St → (St → List Acc → Option AV) → Option AV
  | _, [], as, st, k => k st as
  | i, o :: os, as, st, k =>
    guardK all o st.tmps
      (fun T => execD E (base + i) o ⟨T, st.heap⟩ fun st' => opsD E all base (i + 1) os (accOf E (base + i) o T i :: as) st' k)
      (fun T => opsD E all base (i + 1) os as ⟨putO T o.dst undefA, st.heap⟩ k)

/-- Two operations that stand in no order: neither sees what the other sets. -/
def apartFrom (all : Array Oper) (bf : List Nat) (i : Nat) (o : Oper) : Nat → List Oper → Bool
  | _, [] => true
  | j, o' :: os => (ordered bf i j || Oper.apart all o o') && apartFrom all bf i o (j + 1) os
def apartAll (all : Array Oper) (bf : List Nat) : Nat → List Oper → Bool
  | _, [] => true
  | i, o :: os => apartFrom all bf i o (i + 1) os && apartAll all bf (i + 1) os
def edgesOk : Nat → List Oper → Bool
  | _, [] => true
  | i, o :: os => o.after.all (fun e => !Region.binds .any e || Nat.blt e.on i) && (match o.op with | .select .. => false | .defer _ => false | _ => true) && edgesOk (i + 1) os
def drawSt (ops : Array Oper) : Bool := edgesOk 0 ops.toList && apartAll ops (befores [] ops.toList) 0 ops.toList

def drawK (E : Env) (ops : Array Oper) (st : St) (k : St → Option AV) : Option AV :=
  cond (drawSt ops)
    (opsD E ops st.heap.length 0 ops.toList [] ⟨st.tmps, st.heap ++ cond (someNew ops.toList) (List.replicate ops.size .dead) []⟩ fun st' as =>
      cond (noClash (befores [] ops.toList) as) (k st') none)
    none

/-! ### code -/

def findCut : List (Nat × Nat × Nat × Option Nat) → Nat → Option (Nat × Nat × Option Nat)
  | [], _ => none
  | (q, c) :: l, q' => cond (Nat.beq q q') (some c) (findCut l q')

/-- A state at a cut: slots that are forgotten, blocks that are dropped. -/
def cutSt (mask kill : Nat) (n : Option Nat) (st : St) (k : St → Option AV) : Option AV :=
  match n with
  | none => k ⟨scrub mask st.tmps, scrubB kill st.heap⟩
  | some n => cond (AV.loL n (scrub mask st.tmps) && allLo n (takeB n (scrubB kill st.heap))) (k ⟨scrub mask st.tmps, takeB n (scrubB kill st.heap)⟩) none

abbrev Jump := List Bool → List Nat → St → Option AV
abbrev Kont := Exi → St → Option AV

def goC (E : Env) (J : Option Jump) (q : Nat) (p : List Bool) (ns : List Nat) (run : St → Option AV) (st : St) : Option AV :=
  match findCut E.cut q with
  | none => run st
  | some c => cutSt c.1 c.2.1 c.2.2 st fun st' =>
    match J with
    | none => run st'
    | some j => j p ns st'

/-- A loop's rounds: hd stands at the head of each. -/
def loopU (body : Nat → Kont → St → Option AV) (hd : Nat → (St → Option AV) → St → Option AV) (k : Kont) : Nat → St → Option AV
  | 0, _ => none
  | n + 1, st => body n (fun e st' =>
      match e with
      | .normal => hd n (loopU body hd k n) st'
      | e => k e st') st

def blockK (id : Nat) (k : Kont) : Kont := fun e st =>
  match e with
  | .exit id' => cond (Nat.beq id' id) (k .normal st) (k (.exit id') st)
  | e => k e st

/-- A scope through which the run goes without a goto. -/
def scopeK (k : Kont) : Kont := fun e st =>
  match e with
  | .goto _ => none
  | e => k e st

def thenK (next : St → Option AV) (k : Kont) : Kont := fun e st =>
  match e with
  | .normal => next st
  | e => k e st

def condK {R : Type} (c : Operand) (T : List AV) (yes no : List AV → Option R) : Option R :=
  match c with
  | .tmp t =>
    (nth T t).boolK fun b => cond b (yes (setN T t (.bool true))) (no (setN T t (.bool false)))
  | c => (evA T c).boolK fun b => cond b (yes T) (no T)

def ex (E : Env) (J : Option Jump) : Code → Nat → List Bool → List Nat → Kont → St → Option AV
  | .skip, _, _, _, k, st => k .normal st
  | .label _, _, _, _, k, st => k .normal st
  | .region _ ops d, _, _, _, k, st => cond d (drawK E ops st (k .normal)) (opsK E ops ops.toList st (k .normal))
  | .seq a b, q, p, ns, k, st =>
    goC E J (2 * q) (false :: p) ns (ex E J a (2 * q) (false :: p) ns (thenK (goC E J (2 * q + 1) (true :: p) ns (ex E J b (2 * q + 1) (true :: p) ns k)) k)) st
  | .cond c a b, q, p, ns, k, st =>
    condK c st.tmps
      (fun T => goC E J (2 * q) (false :: p) ns (ex E J a (2 * q) (false :: p) ns k) ⟨T, st.heap⟩)
      (fun T => goC E J (2 * q + 1) (true :: p) ns (ex E J b (2 * q + 1) (true :: p) ns k) ⟨T, st.heap⟩)
  | .block id c, q, p, ns, k, st => goC E J (2 * q) (false :: p) ns (ex E J c (2 * q) (false :: p) ns (blockK id k)) st
  | .scope c, q, p, ns, k, st => goC E J (2 * q) (false :: p) ns (ex E J c (2 * q) (false :: p) ns (scopeK k)) st
  | .loop c, q, p, ns, k, st =>
    goC E J (2 * q) (false :: p) (E.lf :: ns)
      (loopU (fun n k' => ex E J c (2 * q) (false :: p) (n :: ns) k') (fun n run => goC E J (2 * q) (false :: p) (n :: ns) run) k E.lf) st
  | .exit id, _, _, _, k, st => k (.exit id) st
  | .goto l, _, _, _, k, st => k (.goto l) st
  | .ret, _, _, _, k, st => k .ret st
  | _, _, _, _, _, _ => none

/-! ### functions -/

def resK {R : Type} (P : Program) (T : List AV) (H : List Blk) : List ResultVar → (List AV → Option R) → Option R
  | [], k => k []
  | .tmp t :: rs, k => resK P T H rs fun vs => k (nth T t :: vs)
  | .cell a t :: rs, k => loadK P H t (nth T a) fun v => resK P T H rs fun vs => k (v :: vs)

def oneOf : List AV → AV
  | [v] => v
  | vs => .tup vs

def endK (P : Program) (fn : Func) (k : AV → List Blk → Option AV) : Kont := fun e st =>
  match e with
  | .normal => resK P st.tmps st.heap fn.results.toList fun vs => k (oneOf vs) st.heap
  | .ret => resK P st.tmps st.heap fn.results.toList fun vs => k (oneOf vs) st.heap
  | _ => none

def undefs : Nat → List AV
  | 0 => []
  | n + 1 => undefA :: undefs n

def start (fn : Func) (args : List AV) (H : List Blk) : St := ⟨args ++ undefs (fn.ntmps - args.length), H⟩

/-- A call that is run in place, so many calls deep. -/
def runIn (C : Cfg) (cp : FuncId → List AV → Option AV) (lf : Nat) : Nat → Nat → FuncId → List AV → List Blk → (AV → List Blk → Option AV) → Option AV
  | 0, _, _, _, _, _ => none
  | d + 1, lim, f, args, H, k =>
    match C.P.funcs[f]? with
    | none => none
    | some fn =>
      match fn.body with
      | none => none
      | some c => ex { C with cp := cp, ci := runIn C cp lf d, lf := lf, lim := lim, cut := [] } none c 1 [] [] (endK C.P fn k) (start fn args H)

def topEnv (C : Cfg) (cp : FuncId → List AV → Option AV) (n : Nat) (f : FuncId) : Env :=
  { C with cp := cp, ci := runIn C cp (n + 300) 6, lf := n + 300, lim := 0, cut := C.cuts f }

def topEnd (P : Program) (fn : Func) : Kont := endK P fn fun v _ => cond v.pure (some v) none

/-- What a function answers: n: how deep the calls are that are told of. -/
def CP (C : Cfg) : Nat → FuncId → List AV → Option AV
  | 0, _, _ => none
  | n + 1, f, args =>
    match C.known f args with
    | some v => some v
    | none =>
    match C.P.funcs[f]? with
    | none => none
    | some fn =>
      match fn.body with
      | none => none
      | some c => cond (AV.pureL args) (ex (topEnv C (CP C n) n f) none c 1 [] [] (topEnd C.P fn) (start fn args [])) none

end Go.Proofs.YtbikcndldcfffaaDoor.Sim
