/- How the abstract run stands to the machine: values, blocks, frames. Condition: none: definitions and small lemmas. -/
import Derived.Test.YtbikcndldcfffaaDoorSimCode
import Derived.Below
namespace Go.Proofs.YtbikcndldcfffaaDoor.Sim
open Go.RowKit

/-- Which block of the machine a block of the run's own is. -/
abbrev BM := Nat → Option Nat

mutual
inductive VR (m : BM) : AV → Value → Prop
  | junk (v : Value) : VR m .junk v
  | bool (b : Bool) : VR m (.bool b) (.bool b)
  | int (k : IntKind) (n : Int) : VR m (.int k n) (.int k n)
  | str (s : ByteArray) : VR m (.str s) (.string s)
  | ptr0 : VR m (.ptr none) (.pointer none)
  | ptr (K o r : Nat) (h : m K = some r) : VR m (.ptr (some (K, o))) (.pointer (some ⟨r, o, none⟩))
  | sl0 (l c : Nat) : VR m (.slice none l c) (.slice none l c)
  | sl (K o r l c : Nat) (h : m K = some r) : VR m (.slice (some (K, o)) l c) (.slice (some ⟨r, o, none⟩) l c)
  | fn (f : FuncId) (a b : List AV) (va vb : List Value) (ha : VRs m a va) (hb : VRs m b vb) : VR m (.fn f a b) (.func (.func f) va.toArray vb.toArray)
  | nilFn : VR m .nilFn .nilFunc
  | iface (t : TypeId) (v : AV) (v' : Value) (h : VR m v v') : VR m (.iface t v) (.iface t v')
  | nilI : VR m .nilI .nilIface
  | agg (cs : List AV) (vs : List Value) (h : VRs m cs vs) : VR m (.agg cs) (.agg vs.toArray)
  | tup (cs : List AV) (vs : List Value) (h : VRs m cs vs) : VR m (.tup cs) (.tuple vs.toArray)
inductive VRs (m : BM) : List AV → List Value → Prop
  | nil : VRs m [] []
  | cons (x : AV) (v : Value) (xs : List AV) (vs : List Value) (h : VR m x v) (hs : VRs m xs vs) : VRs m (x :: xs) (v :: vs)
end

def BM.le (m m' : BM) : Prop := ∀ K r, m K = some r → m' K = some r
theorem BM.le_refl (m : BM) : m.le m := fun _ _ h => h
theorem BM.le_trans {a b c : BM} (h : a.le b) (h' : b.le c) : a.le c := fun K r e => h' K r (h K r e)

mutual
theorem VR.mono {m m' : BM} (hm : m.le m') : ∀ {x : AV} {v : Value}, VR m x v → VR m' x v
  | _, _, .junk v => .junk v
  | _, _, .bool b => .bool b
  | _, _, .int k n => .int k n
  | _, _, .str s => .str s
  | _, _, .ptr0 => .ptr0
  | _, _, .ptr K o r h => .ptr K o r (hm K r h)
  | _, _, .sl0 l c => .sl0 l c
  | _, _, .sl K o r l c h => .sl K o r l c (hm K r h)
  | _, _, .fn f a b va vb ha hb => .fn f a b va vb (VRs.mono hm ha) (VRs.mono hm hb)
  | _, _, .nilFn => .nilFn
  | _, _, .iface t v v' h => .iface t v v' (VR.mono hm h)
  | _, _, .nilI => .nilI
  | _, _, .agg cs vs h => .agg cs vs (VRs.mono hm h)
  | _, _, .tup cs vs h => .tup cs vs (VRs.mono hm h)
theorem VRs.mono {m m' : BM} (hm : m.le m') : ∀ {x : List AV} {v : List Value}, VRs m x v → VRs m' x v
  | _, _, .nil => .nil
  | _, _, .cons x v xs vs h hs => .cons x v xs vs (VR.mono hm h) (VRs.mono hm hs)
end

mutual
theorem VR.ofPure {m m' : BM} : ∀ {x : AV} {v : Value}, VR m x v → x.pure = true → VR m' x v
  | _, _, .junk v, h => by simp [AV.pure] at h
  | _, _, .bool b, _ => .bool b
  | _, _, .int k n, _ => .int k n
  | _, _, .str s, _ => .str s
  | _, _, .ptr0, _ => .ptr0
  | _, _, .ptr K o r _, h => by simp [AV.pure] at h
  | _, _, .sl0 l c, _ => .sl0 l c
  | _, _, .sl K o r l c _, h => by simp [AV.pure] at h
  | _, _, .fn f a b va vb ha hb, h => by
    simp only [AV.pure, Bool.and_eq_true] at h
    exact .fn f a b va vb (VRs.ofPure ha h.1) (VRs.ofPure hb h.2)
  | _, _, .nilFn, _ => .nilFn
  | _, _, .iface t v v' hv, h => .iface t v v' (VR.ofPure hv (by simpa [AV.pure] using h))
  | _, _, .nilI, _ => .nilI
  | _, _, .agg cs vs hv, h => .agg cs vs (VRs.ofPure hv (by simpa [AV.pure] using h))
  | _, _, .tup cs vs hv, h => .tup cs vs (VRs.ofPure hv (by simpa [AV.pure] using h))
theorem VRs.ofPure {m m' : BM} : ∀ {x : List AV} {v : List Value}, VRs m x v → AV.pureL x = true → VRs m' x v
  | _, _, .nil, _ => .nil
  | _, _, .cons x v xs vs hx hs, h => by
    simp only [AV.pureL, Bool.and_eq_true] at h
    exact .cons x v xs vs (VR.ofPure hx h.1) (VRs.ofPure hs h.2)
end

/-- The blocks below n alone. -/
def BM.cut (m : BM) (n : Nat) : BM := fun K => if K < n then m K else none

mutual
theorem VR.lo {m : BM} {n : Nat} : ∀ {x : AV} {v : Value}, VR m x v → AV.lo n x = true → VR (m.cut n) x v
  | _, _, .junk v, _ => .junk v
  | _, _, .bool b, _ => .bool b
  | _, _, .int k n, _ => .int k n
  | _, _, .str s, _ => .str s
  | _, _, .ptr0, _ => .ptr0
  | _, _, .ptr K o r hr, h => .ptr K o r (by
      have hk : K < n := by simpa [AV.lo] using h
      simp [BM.cut, hk, hr])
  | _, _, .sl0 l c, _ => .sl0 l c
  | _, _, .sl K o r l c hr, h => .sl K o r l c (by
      have hk : K < n := by simpa [AV.lo] using h
      simp [BM.cut, hk, hr])
  | _, _, .fn f a b va vb ha hb, h => by
    simp only [AV.lo, Bool.and_eq_true] at h
    exact .fn f a b va vb (VRs.lo ha h.1) (VRs.lo hb h.2)
  | _, _, .nilFn, _ => .nilFn
  | _, _, .iface t v v' hv, h => .iface t v v' (VR.lo hv (by simpa [AV.lo] using h))
  | _, _, .nilI, _ => .nilI
  | _, _, .agg cs vs hv, h => .agg cs vs (VRs.lo hv (by simpa [AV.lo] using h))
  | _, _, .tup cs vs hv, h => .tup cs vs (VRs.lo hv (by simpa [AV.lo] using h))
theorem VRs.lo {m : BM} {n : Nat} : ∀ {x : List AV} {v : List Value}, VRs m x v → AV.loL n x = true → VRs (m.cut n) x v
  | _, _, .nil, _ => .nil
  | _, _, .cons x v xs vs hx hs, h => by
    simp only [AV.loL, Bool.and_eq_true] at h
    exact .cons x v xs vs (VR.lo hx h.1) (VRs.lo hs h.2)
end

/-! ### lists -/
theorem vrs_length {m : BM} : ∀ {x : List AV} {v : List Value}, VRs m x v → x.length = v.length
  | _, _, .nil => rfl
  | _, _, .cons _ _ _ _ _ hs => by simp [vrs_length hs]

theorem vrs_nth {m : BM} : ∀ {x : List AV} {v : List Value}, VRs m x v → ∀ i, VR m (nth x i) (v.getD i undef)
  | _, _, .nil, i => .junk _
  | _, _, .cons _ _ _ _ h _, 0 => h
  | _, _, .cons _ _ _ _ _ hs, i + 1 => by simpa [nth] using vrs_nth hs i

theorem vrs_get {m : BM} : ∀ {x : List AV} {v : List Value}, VRs m x v → ∀ i, i < x.length → ∃ u, v[i]? = some u ∧ VR m (nth x i) u
  | _, _, .nil, i, h => by simp at h
  | _, _, .cons _ u _ _ h _, 0, _ => ⟨u, rfl, h⟩
  | _, _, .cons _ _ _ _ _ hs, i + 1, h => by
    obtain ⟨u, hu, hv⟩ := vrs_get hs i (by simpa using h)
    exact ⟨u, by simpa using hu, hv⟩

theorem vrs_set {m : BM} : ∀ {x : List AV} {v : List Value}, VRs m x v → ∀ i {y : AV} {u : Value}, VR m y u → VRs m (setN x i y) (v.set i u)
  | _, _, .nil, i, _, _, _ => by simpa [setN] using VRs.nil
  | _, _, .cons _ _ _ _ _ hs, 0, _, _, hy => .cons _ _ _ _ hy hs
  | _, _, .cons _ _ _ _ h hs, i + 1, _, _, hy => .cons _ _ _ _ h (vrs_set hs i hy)

theorem vrs_append {m : BM} : ∀ {x : List AV} {v : List Value}, VRs m x v → ∀ {y : List AV} {u : List Value}, VRs m y u → VRs m (x ++ y) (v ++ u)
  | _, _, .nil, _, _, h => h
  | _, _, .cons _ _ _ _ h hs, _, _, h' => .cons _ _ _ _ h (vrs_append hs h')

theorem vrs_take {m : BM} : ∀ {x : List AV} {v : List Value}, VRs m x v → ∀ n, VRs m (x.take n) (v.take n)
  | _, _, _, 0 => by simpa using VRs.nil
  | _, _, .nil, n + 1 => by simpa using VRs.nil
  | _, _, .cons _ _ _ _ h hs, n + 1 => .cons _ _ _ _ h (vrs_take hs n)

theorem vrs_drop {m : BM} : ∀ {x : List AV} {v : List Value}, VRs m x v → ∀ n, VRs m (x.drop n) (v.drop n)
  | _, _, h, 0 => h
  | _, _, .nil, n + 1 => by simpa using VRs.nil
  | _, _, .cons _ _ _ _ _ hs, n + 1 => vrs_drop hs n

theorem vr_ofCell (m : BM) (v : Value) : VR m (ofCell v) v := by
  cases v <;> simp only [ofCell] <;> first
    | constructor
    | (rename_i a; cases a <;> constructor)
    | (rename_i a _ _; cases a <;> constructor)

theorem vrs_ofCells (m : BM) : ∀ vs : List Value, VRs m (ofCells vs) vs
  | [] => .nil
  | v :: vs => .cons _ _ _ _ (vr_ofCell m v) (vrs_ofCells m vs)

theorem vr_ofValue (m : BM) (v : Value) : VR m (ofValue v) v := by
  cases v with
  | agg cs =>
    have h := VR.agg (m := m) _ _ (vrs_ofCells m cs.toList)
    simpa [ofValue] using h
  | tuple vs =>
    have h := VR.tup (m := m) _ _ (vrs_ofCells m vs.toList)
    simpa [ofValue] using h
  | bool b => exact vr_ofCell m (.bool b)
  | int k n => exact vr_ofCell m (.int k n)
  | float k n => exact vr_ofCell m (.float k n)
  | complex k a b => exact vr_ofCell m (.complex k a b)
  | string s => exact vr_ofCell m (.string s)
  | pointer a => exact vr_ofCell m (.pointer a)
  | slice a l c => exact vr_ofCell m (.slice a l c)
  | map r => exact vr_ofCell m (.map r)
  | chan r => exact vr_ofCell m (.chan r)
  | func f a b => exact vr_ofCell m (.func f a b)
  | nilFunc => exact vr_ofCell m .nilFunc
  | iface t v => exact vr_ofCell m (.iface t v)
  | nilIface => exact vr_ofCell m .nilIface

theorem vrs_scrub {m : BM} : ∀ {x : List AV} {v : List Value}, VRs m x v → ∀ n, VRs m (scrub n x) v
  | _, _, .nil, _ => .nil
  | _, _, .cons _ _ _ _ h hs, n => by
    refine .cons _ _ _ _ ?_ (vrs_scrub hs (n / 2))
    cases Nat.beq (n % 2) 1
    · exact .junk _
    · exact h

/-! ### blocks -/
def Unfrozen (n : Nat) (fr : Nat × Nat) : Prop := ∀ o, o < n → (decide (fr.1 ≤ o) && decide (o < fr.2)) = false

def BR (m : BM) : Blk → Option Obj → Prop
  | .dead, _ => True
  | .cells t cs, o => ∃ vs ex fr, o = some (.cells (vs ++ ex).toArray t fr) ∧ VRs m cs vs ∧ Unfrozen cs.length fr
  | .iter s pos, o => o = some (.stringIter s pos)

theorem BR.mono {m m' : BM} (hm : m.le m') {b : Blk} {o : Option Obj} (h : BR m b o) : BR m' b o := by
  cases b with
  | dead => trivial
  | cells t cs =>
    obtain ⟨vs, e, fr, h1, h2, h3⟩ := h
    exact ⟨vs, e, fr, h1, h2.mono hm, h3⟩
  | iter s pos => exact h

theorem BR.lo {m : BM} {n : Nat} {b : Blk} {o : Option Obj} (h : BR m b o) (hb : b.lo n = true) : BR (m.cut n) b o := by
  cases b with
  | dead => trivial
  | cells t cs =>
    obtain ⟨vs, e, fr, h1, h2, h3⟩ := h
    exact ⟨vs, e, fr, h1, VRs.lo h2 (by simpa [Blk.lo] using hb), h3⟩
  | iter s pos => exact h

/-- The heap of the abstract run lies in the machine's memory, from block B on; below B the memory is as it was. -/
structure Sim (B : Nat) (w0 : World) (m : BM) (H : List Blk) (w : World) : Prop where
  inj : ∀ K K' r, m K = some r → m K' = some r → K = K'
  ok : ∀ K r, m K = some r → K < H.length ∧ B ≤ r ∧ r < w.heap.size ∧ BR m (blk H K) (w.heap[r]?)
  below : Below B w0 w
  base : B ≤ w0.heap.size

structure Rel (B : Nat) (w0 : World) (m : BM) (st : St) (a : Act) (w : World) : Prop where
  tmps : VRs m st.tmps a.tmps.toList
  sim : Sim B w0 m st.heap w
  defers : a.defers = []

theorem Rel.eval {B : Nat} {w0 : World} {m : BM} {st : St} {a : Act} {w : World} (h : Rel B w0 m st a w) (x : Operand) : VR m (evA st.tmps x) (a.eval x) := by
  cases x with
  | tmp t =>
    have := vrs_nth h.tmps t
    simpa [evA, Act.eval] using this
  | const v => exact vr_ofValue m v
  | global g => exact .junk _
  | func f =>
    have h := VR.fn (m := m) f [] [] [] [] .nil .nil
    simpa [evA, Act.eval] using h

theorem Rel.evalL {B : Nat} {w0 : World} {m : BM} {st : St} {a : Act} {w : World} (h : Rel B w0 m st a w) : ∀ xs : List Operand, VRs m (evL st.tmps xs) (xs.map a.eval)
  | [] => .nil
  | x :: xs => .cons _ _ _ _ (h.eval x) (h.evalL xs)

theorem vrs_putO {m : BM} {T : List AV} {a : Act} (h : VRs m T a.tmps.toList) (dst : Option Tmp) {y : AV} {u : Value} (hy : VR m y u) : VRs m (putO T dst y) (a.put dst u).tmps.toList := by
  cases dst with
  | none => exact h
  | some d =>
    have := vrs_set h d hy
    simpa [putO, Act.put] using this

theorem put_defers (a : Act) (dst : Option Tmp) (u : Value) : (a.put dst u).defers = a.defers := by cases dst <;> rfl

theorem vr_undef (m : BM) : VR m undefA undef := by
  have h := VR.tup (m := m) [] [] .nil
  simpa [undefA, undef] using h

/-! ### the memory's steps -/
theorem blk_append_lt : ∀ (H : List Blk) (L : List Blk) (K : Nat), K < H.length → blk (H ++ L) K = blk H K
  | [], _, K, h => by simp at h
  | _ :: _, _, 0, _ => rfl
  | _ :: H, L, K + 1, h => by simpa [blk] using blk_append_lt H L K (by simpa using h)
theorem blk_append_at : ∀ (H : List Blk) (b : Blk), blk (H ++ [b]) H.length = b
  | [], _ => rfl
  | _ :: H, b => by simpa [blk] using blk_append_at H b
theorem length_setB : ∀ (H : List Blk) (K : Nat) (b : Blk), (setB H K b).length = H.length
  | [], _, _ => rfl
  | _ :: _, 0, _ => rfl
  | _ :: H, K + 1, b => by simp [setB, length_setB H K b]
theorem blk_setB_at : ∀ (H : List Blk) (K : Nat) (b : Blk), K < H.length → blk (setB H K b) K = b
  | [], K, _, h => by simp at h
  | _ :: _, 0, _, _ => rfl
  | _ :: H, K + 1, b, h => by simpa [setB, blk] using blk_setB_at H K b (by simpa using h)
theorem blk_setB_ne : ∀ (H : List Blk) (K K' : Nat) (b : Blk), K' ≠ K → blk (setB H K b) K' = blk H K'
  | [], _, _, _, _ => rfl
  | _ :: _, 0, 0, _, h => absurd rfl h
  | _ :: _, 0, _ + 1, _, _ => rfl
  | _ :: _, _ + 1, 0, _, _ => rfl
  | _ :: H, K + 1, K' + 1, b, h => by simpa [setB, blk] using blk_setB_ne H K K' b (fun e => h (by rw [e]))
theorem blk_takeB : ∀ (n : Nat) (H : List Blk) (K : Nat), K < n → blk (takeB n H) K = blk H K
  | 0, _, _, h => by omega
  | _ + 1, [], _, _ => rfl
  | _ + 1, _ :: _, 0, _ => rfl
  | n + 1, _ :: H, K + 1, h => by simpa [takeB, blk] using blk_takeB n H K (by omega)
theorem lt_takeB : ∀ (n : Nat) (H : List Blk) (K : Nat), K < n → K < H.length → K < (takeB n H).length
  | 0, _, _, h, _ => by omega
  | _ + 1, [], _, _, h => by simp at h
  | _ + 1, _ :: _, 0, _, _ => by simp [takeB]
  | n + 1, _ :: H, K + 1, h, h' => by
    have := lt_takeB n H K (by omega) (by simpa using h')
    simpa [takeB] using this
theorem allLo_blk : ∀ (n : Nat) (H : List Blk) (K : Nat), allLo n H = true → K < H.length → (blk H K).lo n = true
  | _, [], _, _, h => by simp at h
  | n, b :: H, 0, h, _ => by simp only [allLo, Bool.and_eq_true] at h; exact h.1
  | n, b :: H, K + 1, h, hk => by
    simp only [allLo, Bool.and_eq_true] at h
    simpa [blk] using allLo_blk n H K h.2 (by simpa using hk)

/-- The map with one block more. -/
def BM.put (m : BM) (K r : Nat) : BM := fun K' => if K' = K then some r else m K'

theorem BM.le_put {m : BM} {K r : Nat} (h : m K = none) : m.le (m.put K r) := by
  intro K' r' h'
  unfold BM.put
  split
  · subst_vars; rw [h] at h'; cases h'
  · exact h'

theorem heap_push_lt (w : World) (o : Obj) {r : Nat} (h : r < w.heap.size) : ({ w with heap := w.heap.push o } : World).heap[r]? = w.heap[r]? := by
  show (w.heap.push o)[r]? = _
  rw [Array.getElem?_push, if_neg (by omega)]
theorem heap_push_at (w : World) (o : Obj) : ({ w with heap := w.heap.push o } : World).heap[w.heap.size]? = some o := by
  show (w.heap.push o)[w.heap.size]? = _
  simp

/-- A new block at place K (a block that the map does not yet name). -/
theorem Sim.new {B : Nat} {w0 : World} {m : BM} {H H' : List Blk} {w : World} (h : Sim B w0 m H w) (K : Nat) (b : Blk) (o : Obj) (hK : m K = none) (hKl : K < H'.length)
    (hH : ∀ K', K' < H.length → K' ≠ K → blk H' K' = blk H K') (hl : H.length ≤ H'.length) (hb : blk H' K = b) (hbr : BR (m.put K w.heap.size) b (some o)) :
    Sim B w0 (m.put K w.heap.size) H' { w with heap := w.heap.push o } := by
  have hB : B ≤ w.heap.size := Nat.le_trans h.base h.below.size
  refine ⟨fun K1 K2 r h1 h2 => ?_, fun K1 r h1 => ?_, ?_, h.base⟩
  · unfold BM.put at h1 h2
    split at h1 <;> split at h2
    · subst_vars; rfl
    · injection h1 with h1; subst h1; have := (h.ok _ _ h2).2.2.1; omega
    · injection h2 with h2; subst h2; have := (h.ok _ _ h1).2.2.1; omega
    · exact h.inj _ _ _ h1 h2
  · unfold BM.put at h1
    split at h1
    · injection h1 with h1; subst_vars
      refine ⟨hKl, hB, by show _ < (w.heap.push o).size; simp, ?_⟩
      rw [heap_push_at]; exact hbr
    · rename_i hne
      obtain ⟨a1, a2, a3, a4⟩ := h.ok _ _ h1
      refine ⟨by omega, a2, by show r < (w.heap.push o).size; simp; omega, ?_⟩
      rw [heap_push_lt w o a3, hH _ a1 hne]
      exact a4.mono (BM.le_put hK)
  · refine h.below.trans ⟨rfl, rfl, rfl, by show w.heap.size ≤ (w.heap.push o).size; simp, fun k hk => heap_push_lt w o (by omega)⟩

/-- A block that is written. -/
theorem Sim.wr {B : Nat} {w0 : World} {m : BM} {H : List Blk} {w w' : World} (h : Sim B w0 m H w) (K r : Nat) (b : Blk) (hK : m K = some r)
    (hs : w'.heap.size = w.heap.size) (hos : w'.os = w.os) (htp : w'.tape = w.tape) (hou : w'.output = w.output) (hk : ∀ j, j ≠ r → w'.heap[j]? = w.heap[j]?) (hbr : BR m b (w'.heap[r]?)) :
    Sim B w0 m (setB H K b) w' := by
  have hKr := h.ok K r hK
  refine ⟨h.inj, fun K1 r1 h1 => ?_, h.below.trans ⟨hos, htp, hou, by omega, fun k hk' => hk k (by omega)⟩, h.base⟩
  obtain ⟨a1, a2, a3, a4⟩ := h.ok _ _ h1
  refine ⟨by rw [length_setB]; exact a1, a2, by omega, ?_⟩
  by_cases e : K1 = K
  · subst e
    rw [hK] at h1; injection h1 with h1; subst h1
    rw [blk_setB_at _ _ _ a1]; exact hbr
  · rw [blk_setB_ne _ _ _ _ e, hk r1 (fun e' => e (h.inj K1 K r1 h1 (by rw [hK, e'])))]
    exact a4

/-- Blocks from n on are dropped. -/
theorem length_scrubB : ∀ (m : Nat) (H : List Blk), (scrubB m H).length = H.length
  | _, [] => rfl
  | m, _ :: H => by simp [scrubB, length_scrubB (m / 2) H]
theorem br_scrubB {m : BM} {o : Option Obj} : ∀ (H : List Blk) (K s : Nat), BR m (blk H K) o → BR m (blk (scrubB s H) K) o
  | [], _, _, h => h
  | b :: H, 0, s, h => by
    show BR m (cond (Nat.beq (s % 2) 1) .dead b) o
    cases Nat.beq (s % 2) 1
    · exact h
    · trivial
  | b :: H, K + 1, s, h => br_scrubB H K (s / 2) h
theorem Sim.scrub {B : Nat} {w0 : World} {m : BM} {H : List Blk} {w : World} (h : Sim B w0 m H w) (s : Nat) : Sim B w0 m (scrubB s H) w :=
  ⟨h.inj, fun K r h1 => by
    obtain ⟨a1, a2, a3, a4⟩ := h.ok K r h1
    exact ⟨by rw [length_scrubB]; exact a1, a2, a3, br_scrubB H K s a4⟩, h.below, h.base⟩

theorem Sim.take {B : Nat} {w0 : World} {m : BM} {H : List Blk} {w : World} (h : Sim B w0 m H w) (n : Nat) (hlo : allLo n (takeB n H) = true) : Sim B w0 (m.cut n) (takeB n H) w := by
  refine ⟨fun K1 K2 r h1 h2 => ?_, fun K r h1 => ?_, h.below, h.base⟩
  · unfold BM.cut at h1 h2
    split at h1 <;> split at h2 <;> first | exact h.inj _ _ _ h1 h2 | simp_all
  · unfold BM.cut at h1
    split at h1
    · rename_i hk
      obtain ⟨a1, a2, a3, a4⟩ := h.ok _ _ h1
      have hl := lt_takeB n H K hk a1
      refine ⟨hl, a2, a3, ?_⟩
      have := allLo_blk n (takeB n H) K hlo hl
      rw [blk_takeB n H K hk] at this ⊢
      exact a4.lo this
    · simp at h1

/-- A map that names fewer blocks, over a heap that has the same there. -/
theorem Sim.sub {B : Nat} {w0 : World} {m m' : BM} {H H' : List Blk} {w : World} (h : Sim B w0 m' H' w) (hm : m.le m') (hl : ∀ K r, m K = some r → K < H.length ∧ BR m (blk H K) (w.heap[r]?)) : Sim B w0 m H w := by
  refine ⟨fun K1 K2 r h1 h2 => h.inj _ _ _ (hm _ _ h1) (hm _ _ h2), fun K r h1 => ?_, h.below, h.base⟩
  obtain ⟨_, a2, a3, _⟩ := h.ok _ _ (hm _ _ h1)
  exact ⟨(hl K r h1).1, a2, a3, (hl K r h1).2⟩

/-- A draw turns no block. -/
theorem Sim.drew {B : Nat} {w0 : World} {m : BM} {H : List Blk} {w : World} (h : Sim B w0 m H w) : Sim B w0 m H { w with drawn := w.drawn + 1 } :=
  ⟨h.inj, h.ok, h.below.trans ⟨rfl, rfl, rfl, Nat.le_refl _, fun _ _ => rfl⟩, h.base⟩

end Go.Proofs.YtbikcndldcfffaaDoor.Sim
