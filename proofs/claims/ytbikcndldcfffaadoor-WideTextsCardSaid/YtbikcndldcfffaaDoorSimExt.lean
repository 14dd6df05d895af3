/- Two functions of package math/bits that have no Go body: a sum with a carry, a difference with a borrow. Condition: none beyond what each theorem says. -/
import Derived.Test.YtbikcndldcfffaaDoorSimCfg
import Derived.Laws.LoneSync
namespace Go.Proofs.YtbikcndldcfffaaDoor.Sim
open Go

def addW (x y c : Int) : AV := .tup [.int .u64 (((x.toNat + y.toNat + c.toNat) % 18446744073709551616 : Nat) : Int), .int .u64 (((x.toNat + y.toNat + c.toNat) / 18446744073709551616 : Nat) : Int)]
def subW (x y c : Int) : AV := .tup [.int .u64 (((x.toNat + 18446744073709551616 - y.toNat - c.toNat) % 18446744073709551616 : Nat) : Int), .int .u64 ((if x.toNat < y.toNat + c.toNat then 1 else 0 : Nat) : Int)]
def threeK (l : List AV) (k : Int → Int → Int → AV) : Option (Bool × AV) :=
  match l with
  | [.int .u64 x, .int .u64 y, .int .u64 c] => some (decide (c.toNat ≤ 1), k x y c)
  | _ => none
def extBits (fa fs : Nat) (f : FuncId) (args : List AV) : Option (Bool × AV) :=
  cond (Nat.beq f fa) (threeK args addW) (cond (Nat.beq f fs) (threeK args subW) none)

def rowOf (n : Nat) : Array Value → Sem Value := (Extern.MathBitsCarry.rows.getD n ("", fun _ => pure .nilFunc)).2

theorem row_add (P : Program) (x y c : Int) (w : World) (h : c.toNat ≤ 1) : (rowOf 0 #[.int .u64 x, .int .u64 y, .int .u64 c]).run P w =
    .ok (.tuple #[.int .u64 (((x.toNat + y.toNat + c.toNat) % 18446744073709551616 : Nat) : Int), .int .u64 (((x.toNat + y.toNat + c.toNat) / 18446744073709551616 : Nat) : Int)]) w :=
  match c, h with
  | .ofNat 0, _ => rfl
  | .ofNat 1, _ => rfl
  | .ofNat (n + 2), h => absurd h (by show ¬ n + 2 ≤ 1; omega)
  | .negSucc _, _ => rfl
theorem row_sub (P : Program) (x y c : Int) (w : World) (h : c.toNat ≤ 1) : (rowOf 1 #[.int .u64 x, .int .u64 y, .int .u64 c]).run P w =
    .ok (.tuple #[.int .u64 (((x.toNat + 18446744073709551616 - y.toNat - c.toNat) % 18446744073709551616 : Nat) : Int), .int .u64 ((if x.toNat < y.toNat + c.toNat then 1 else 0 : Nat) : Int)]) w :=
  match c, h with
  | .ofNat 0, _ => rfl
  | .ofNat 1, _ => rfl
  | .ofNat (n + 2), h => absurd h (by show ¬ n + 2 ≤ 1; omega)
  | .negSucc _, _ => rfl
/-- A function without a Go body that a row of the model answers. -/
def isExt (P : Program) (f : FuncId) (nm : String) : Bool :=
  match P.funcs[f]? with
  | some fn => fn.name == nm && fn.body.isNone
  | none => false

theorem extBits_ok {P : Program} {fa fs : Nat} {na ns : Func} (ha : P.funcs[fa]? = some na) (ha1 : (na.name == "runtime.NumGoroutine") = false) (ha2 : na.body.isNone = true) (ha3 : Extern.findNext na = none) (ha4 : Extern.find na = some (rowOf 0))
    (hs : P.funcs[fs]? = some ns) (hs1 : (ns.name == "runtime.NumGoroutine") = false) (hs2 : ns.body.isNone = true) (hs3 : Extern.findNext ns = none) (hs4 : Extern.find ns = some (rowOf 1))
    (g : FuncId) (args : List AV) (v : AV) (h : extBits fa fs g args = some (true, v)) (m : BM) (vs : List Value) (w : World) (hv : VRs m args vs) :
    ∃ v', (callFunc g vs.toArray).run P w = .ok (.value v') w ∧ VR m v v' := by
  have three : ∀ k : Int → Int → Int → AV, threeK args k = some (true, v) → ∃ x y c, vs = [.int .u64 x, .int .u64 y, .int .u64 c] ∧ c.toNat ≤ 1 ∧ k x y c = v := by
    intro k hk
    unfold threeK at hk
    split at hk
    · rename_i x y c
      simp only [Option.some.injEq, Prod.mk.injEq] at hk
      obtain ⟨h1, h2⟩ := hk
      cases hv with
      | cons _ v1 _ _ a1 hv =>
      cases hv with
      | cons _ v2 _ _ a2 hv =>
      cases hv with
      | cons _ v3 _ _ a3 hv =>
      cases hv
      cases a1; cases a2; cases a3
      exact ⟨x, y, c, rfl, of_decide_eq_true h1, h2⟩
    · cases hk
  unfold extBits at h
  cases e : Nat.beq g fa with
  | true =>
    rw [e] at h
    obtain ⟨x, y, c, rfl, hc, hk⟩ := three _ h
    subst hk
    have : g = fa := Nat.eq_of_beq_eq_true e
    subst this
    refine ⟨_, by rw [run_callFunc_extern ha ha1 ha2 ha3 ha4]; rw [show #[Value.int .u64 x, .int .u64 y, .int .u64 c] = [Value.int .u64 x, .int .u64 y, .int .u64 c].toArray from rfl] at *; rw [row_add P x y c w hc]; rfl, ?_⟩
    exact VR.tup _ [_, _] (.cons _ _ _ _ (.int _ _) (.cons _ _ _ _ (.int _ _) .nil))
  | false =>
    rw [e] at h
    cases e2 : Nat.beq g fs with
    | true =>
      rw [e2] at h
      obtain ⟨x, y, c, rfl, hc, hk⟩ := three _ h
      subst hk
      have : g = fs := Nat.eq_of_beq_eq_true e2
      subst this
      refine ⟨_, by rw [run_callFunc_extern hs hs1 hs2 hs3 hs4]; rw [row_sub P x y c w hc]; rfl, ?_⟩
      exact VR.tup _ [_, _] (.cons _ _ _ _ (.int _ _) (.cons _ _ _ _ (.int _ _) .nil))
    | false => rw [e2] at h; cases h
/-- Where only the difference is reached. -/
def extSub (fs : Nat) (f : FuncId) (args : List AV) : Option (Bool × AV) := cond (Nat.beq f fs) (threeK args subW) none
theorem extSub_ok {P : Program} {fs : Nat} {ns : Func}
    (hs : P.funcs[fs]? = some ns) (hs1 : (ns.name == "runtime.NumGoroutine") = false) (hs2 : ns.body.isNone = true) (hs3 : Extern.findNext ns = none) (hs4 : Extern.find ns = some (rowOf 1))
    (g : FuncId) (args : List AV) (v : AV) (h : extSub fs g args = some (true, v)) (m : BM) (vs : List Value) (w : World) (hv : VRs m args vs) :
    ∃ v', (callFunc g vs.toArray).run P w = .ok (.value v') w ∧ VR m v v' := by
  unfold extSub at h
  cases e2 : Nat.beq g fs with
  | true =>
    rw [e2] at h
    replace h : threeK args subW = some (true, v) := h
    unfold threeK at h
    split at h
    · rename_i x y c
      simp only [Option.some.injEq, Prod.mk.injEq] at h
      obtain ⟨h1, h2⟩ := h
      subst h2
      cases hv with
      | cons _ v1 _ _ a1 hv =>
      cases hv with
      | cons _ v2 _ _ a2 hv =>
      cases hv with
      | cons _ v3 _ _ a3 hv =>
      cases hv
      cases a1; cases a2; cases a3
      have : g = fs := Nat.eq_of_beq_eq_true e2
      subst this
      refine ⟨_, by rw [run_callFunc_extern hs hs1 hs2 hs3 hs4]; rw [show #[Value.int .u64 x, .int .u64 y, .int .u64 c] = [Value.int .u64 x, .int .u64 y, .int .u64 c].toArray from rfl] at *; rw [row_sub P x y c w (of_decide_eq_true h1)]; rfl, ?_⟩
      exact VR.tup _ [_, _] (.cons _ _ _ _ (.int _ _) (.cons _ _ _ _ (.int _ _) .nil))
    · cases h
  | false => rw [e2] at h; cases h
end Go.Proofs.YtbikcndldcfffaaDoor.Sim
