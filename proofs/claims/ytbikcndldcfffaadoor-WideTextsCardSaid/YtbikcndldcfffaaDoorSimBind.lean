/- The abstract run's continuations: each operation hands over one outcome. Condition: none: small lemmas. -/
import Derived.Test.YtbikcndldcfffaaDoorSimRel
namespace Go.Proofs.YtbikcndldcfffaaDoor.Sim
section
variable {R : Type}

theorem cond_bind {A : Type} (b : Bool) (x y : Option A) (f : A → Option R) : (cond b x y).bind f = cond b (x.bind f) (y.bind f) := by cases b <;> rfl

theorem anyIntK_bind {A : Type} (v : AV) (c : Int → Option A) (f : A → Option R) : (v.anyIntK c).bind f = v.anyIntK fun n => (c n).bind f := by cases v <;> rfl
theorem boolK_bind {A : Type} (v : AV) (c : Bool → Option A) (f : A → Option R) : (v.boolK c).bind f = v.boolK fun n => (c n).bind f := by cases v <;> rfl
theorem aggK_bind {A : Type} (v : AV) (c : List AV → Option A) (f : A → Option R) : (v.aggK c).bind f = v.aggK fun n => (c n).bind f := by cases v <;> rfl
theorem tupK_bind {A : Type} (v : AV) (c : List AV → Option A) (f : A → Option R) : (v.tupK c).bind f = v.tupK fun n => (c n).bind f := by cases v <;> rfl
theorem ptrK_bind {A : Type} (v : AV) (c : Nat → Nat → Option A) (f : A → Option R) : (v.ptrK c).bind f = v.ptrK fun n m => (c n m).bind f := by
  cases v with
  | ptr p => cases p <;> rfl
  | _ => rfl

theorem loadK_bind (P : Program) (H : List Blk) (t : TypeId) (a : AV) (k : AV → Option R) : loadK P H t a k = (loadK P H t a some).bind k := by
  unfold loadK; rw [ptrK_bind]; congr 1; funext K o
  split
  · split <;> simp [cond_bind]
  · rfl

theorem storeK_bind (P : Program) (H : List Blk) (t : TypeId) (a v : AV) (k : Res → Option R) : storeK P H t a v k = (storeK P H t a v some).bind k := by
  unfold storeK; rw [ptrK_bind]; congr 1; funext K o
  split
  · split <;> simp [cond_bind]
  · rfl

theorem partK_bind (P : Program) (t : TypeId) (cs : List AV) (off : Nat) (k : AV → Option R) : partK P t cs off k = (partK P t cs off some).bind k := by
  unfold partK; split <;> simp [cond_bind]

theorem fillK_bind (P : Program) (place : Nat → Option (Nat × Nat)) : ∀ (parts : List (Nat × AV)) (cs : List AV) (k : List AV → Option R), fillK P place cs parts k = (fillK P place cs parts some).bind k
  | [], cs, k => rfl
  | (i, v) :: rest, cs, k => by
    unfold fillK
    split
    · rfl
    · rename_i off size _
      rw [cond_bind, cond_bind, cond_bind, fillK_bind P place rest (splice cs off (cellsOf v)) k]; rfl

theorem fillK_bind' {A : Type} (P : Program) (place : Nat → Option (Nat × Nat)) (parts : List (Nat × AV)) (cs : List AV) (c : List AV → Option A) (f : A → Option R) :
    (fillK P place cs parts c).bind f = fillK P place cs parts fun x => (c x).bind f := by
  rw [fillK_bind P place parts cs c, fillK_bind P place parts cs (fun x => (c x).bind f), Option.bind_assoc]

theorem buildK_bind (P : Program) (t : TypeId) (parts : List (Nat × AV)) (k : AV → Option R) : buildK P t parts k = (buildK P t parts some).bind k := by
  unfold buildK; split
  · rw [cond_bind, cond_bind, fillK_bind']; rfl
  · split
    · rw [cond_bind, fillK_bind']; rfl
    · rfl
  · rfl

theorem buildSliceK_bind (P : Program) (t : TypeId) (n : Nat) (parts : List (Nat × AV)) (k : Res → Option R) : buildSliceK P t n parts k = (buildSliceK P t n parts some).bind k := by
  unfold buildSliceK; split
  · split
    · rw [cond_bind, cond_bind, cond_bind, fillK_bind']; rfl
    · rfl
  · rfl

theorem binK_bind (P : Program) (op : BinOp) (t : TypeId) (cx cy : Bool) (x y : AV) (k : AV → Option R) : binK P op t cx cy x y k = (binK P op t cx cy x y some).bind k := by
  unfold binK
  split
  · split <;> (try simp only [cond_bind]) <;> (try rfl)
    split <;> rfl
  · split <;> (try simp only [cond_bind]) <;> rfl
  · rw [cond_bind]; congr 1
    split <;> (try split) <;> rfl
  · rw [cond_bind]; congr 1
    split <;> (try split) <;> rfl

theorem unK_bind (op : UnOp) (x : AV) (k : AV → Option R) : unK op x k = (unK op x some).bind k := by
  unfold unK; split <;> rfl

theorem convK_bind (P : Program) (H : List Blk) (s d : TypeId) (x : AV) (k : AV → Option R) : convK P H s d x k = (convK P H s d x some).bind k := by
  unfold convK; split
  · rfl
  · rfl
  · split
    · rw [cond_bind]; congr 1; split <;> rfl
    · rfl
  · rfl

theorem bndK_bind {A : Type} (v : Option AV) (d : Option Nat) (n : Nat) (c : Nat → Option A) (f : A → Option R) : (bndK v d n c).bind f = bndK v d n fun j => (c j).bind f := by
  unfold bndK; split
  · rw [anyIntK_bind]; congr 1; funext j; rw [cond_bind]; rfl
  · rfl
  · rfl

theorem sliceK_bind (P : Program) (t : TypeId) (x : AV) (lo hi mx : Option AV) (k : AV → Option R) : sliceK P t x lo hi mx k = (sliceK P t x lo hi mx some).bind k := by
  unfold sliceK sliceStrK sliceSlK
  split
  · simp only [cond_bind, bndK_bind, Option.bind_some, Option.bind_none]
  · split
    · simp only [bndK_bind, cond_bind, Option.bind_some]
    · rfl
  · split
    · simp only [bndK_bind, cond_bind, Option.bind_some]
    · rfl
  · rfl

theorem fieldAddrK_bind (P : Program) (t : TypeId) (x : AV) (f : Nat) (k : AV → Option R) : fieldAddrK P t x f k = (fieldAddrK P t x f some).bind k := by
  unfold fieldAddrK; split
  · split
    · split
      · rw [ptrK_bind]; rfl
      · rfl
    · rfl
  · rfl

theorem fieldK_bind (P : Program) (t : TypeId) (x : AV) (f : Nat) (k : AV → Option R) : fieldK P t x f k = (fieldK P t x f some).bind k := by
  unfold fieldK; split
  · split
    · rw [aggK_bind]; congr 1; funext cs; exact partK_bind _ _ _ _ _
    · rfl
  · rfl

theorem indexAddrK_bind (P : Program) (t : TypeId) (x i : AV) (k : AV → Option R) : indexAddrK P t x i k = (indexAddrK P t x i some).bind k := by
  unfold indexAddrK; split
  · split
    · rw [anyIntK_bind]; congr 1; funext n; rw [cond_bind]; rfl
    · rfl
  · split
    · rw [anyIntK_bind]; congr 1; funext n; rw [cond_bind]; rfl
    · rfl
  · rfl

theorem indexK_bind (P : Program) (t : TypeId) (x i : AV) (k : AV → Option R) : indexK P t x i k = (indexK P t x i some).bind k := by
  unfold indexK; split
  · split
    · rw [anyIntK_bind]; congr 1; funext n; rw [cond_bind, partK_bind]; rfl
    · rfl
  · rw [anyIntK_bind]; congr 1; funext n; rw [cond_bind]; congr 1; split <;> rfl
  · rfl

theorem lenK_bind (P : Program) (t : TypeId) (x : AV) (k : AV → Option R) : lenK P t x k = (lenK P t x some).bind k := by
  unfold lenK; split <;> rfl

theorem maxK_bind (b : Bool) : ∀ (l : List AV) (x : AV) (k : AV → Option R), maxK b x l k = (maxK b x l some).bind k
  | [], x, k => rfl
  | y :: l, x, k => by
    cases x <;> cases y <;> first | rfl | exact maxK_bind b l _ k

theorem lenK_bind' {A : Type} (P : Program) (t : TypeId) (x : AV) (c : AV → Option A) (f : A → Option R) : (lenK P t x c).bind f = lenK P t x fun v => (c v).bind f := by
  rw [lenK_bind P t x c, lenK_bind P t x (fun v => (c v).bind f), Option.bind_assoc]
theorem maxK_bind' {A : Type} (b : Bool) (l : List AV) (x : AV) (c : AV → Option A) (f : A → Option R) : (maxK b x l c).bind f = maxK b x l fun v => (c v).bind f := by
  rw [maxK_bind b l x c, maxK_bind b l x (fun v => (c v).bind f), Option.bind_assoc]

theorem builtinK_bind (P : Program) (H : List Blk) (b : Builtin) (ts : Array TypeId) (args : List AV) (k : Res → Option R) : builtinK P H b ts args k = (builtinK P H b ts args some).bind k := by
  unfold builtinK; split
  · split
    · rw [lenK_bind']; rfl
    · rfl
  · rw [maxK_bind']; rfl
  · rw [maxK_bind']; rfl
  · rfl

/-- One operation's outcome. -/
def opV (E : Env) (o : Oper) (st : St) : Option Res := opK E o st some

theorem opK_bind (E : Env) (o : Oper) (st : St) (k : Res → Option R) : opK E o st k = (opV E o st).bind k := by
  unfold opV opK
  split
  · rfl
  · rfl
  · rw [boolK_bind]; congr 1; funext t; rw [cond_bind]; rfl
  · split
    · rw [cond_bind]; rfl
    · rfl
  · rw [cond_bind]; rfl
  · rw [buildK_bind, buildK_bind (k := fun v => some (Res.val v)), Option.bind_assoc]; rfl
  · exact buildSliceK_bind _ _ _ _ _
  · rw [loadK_bind, loadK_bind (k := fun v => some (Res.val v)), Option.bind_assoc]; rfl
  · exact storeK_bind _ _ _ _ _ _
  · split <;> rfl
  · rw [binK_bind, binK_bind (k := fun v => some (Res.val v)), Option.bind_assoc]; rfl
  · rw [unK_bind, unK_bind (k := fun v => some (Res.val v)), Option.bind_assoc]; rfl
  · rw [convK_bind, convK_bind (k := fun v => some (Res.val v)), Option.bind_assoc]; rfl
  · split <;> rfl
  · rfl
  · rw [sliceK_bind, sliceK_bind (k := fun v => some (Res.val v)), Option.bind_assoc]; rfl
  · rw [fieldAddrK_bind, fieldAddrK_bind (k := fun v => some (Res.val v)), Option.bind_assoc]; rfl
  · rw [fieldK_bind, fieldK_bind (k := fun v => some (Res.val v)), Option.bind_assoc]; rfl
  · rw [indexAddrK_bind, indexAddrK_bind (k := fun v => some (Res.val v)), Option.bind_assoc]; rfl
  · rw [indexK_bind, indexK_bind (k := fun v => some (Res.val v)), Option.bind_assoc]; rfl
  · split <;> rfl
  · split
    · split
      · rw [cond_bind]; rfl
      · rfl
    · rfl
  · rw [tupK_bind]; congr 1; funext vs; rw [cond_bind]; rfl
  · split
    · split
      · split
        · rw [cond_bind]; rfl
        · rw [cond_bind]; rfl
      · rfl
    · split
      · split
        · rw [cond_bind]; rfl
        · rfl
      · rfl
    · exact builtinK_bind _ _ _ _ _ _
  · rfl
end
end Go.Proofs.YtbikcndldcfffaaDoor.Sim
