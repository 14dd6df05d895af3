/- What is known beforehand of a program, from lists. Condition: none beyond what each theorem says. -/
import Derived.Test.YtbikcndldcfffaaDoorSimTop
import Derived.Shelf.Abstract
import Derived.KernelRfl
namespace Go.Proofs.YtbikcndldcfffaaDoor.Sim
open Go.RowKit

/-- A value that is used more than once. -/
def bnd {A R : Type} (x : A) (k : A → R) : R := k x
theorem bnd_eq {A R : Type} {x y : A} (k : A → R) (h : x = y) : bnd x k = k y := by subst h; exact of_eq_true (eq_self _)

def lookN {A : Type} (d : A) : List (Nat × A) → Nat → A
  | [], _ => d
  | (k, a) :: l, n => cond (Nat.beq k n) a (lookN d l n)

def enterable (P : Program) (f : FuncId) : Bool :=
  match P.funcs[f]? with
  | some fn => !(fn.name == "runtime.NumGoroutine") && fn.body.isSome
  | none => false

theorem enter_of {P : Program} {f : FuncId} (h : enterable P f = true) (args : Array Value) (w : World) : (callFunc f args).run P w = .ok (.enter f args) w := by
  unfold enterable at h
  split at h
  · rename_i fn hf
    simp only [Bool.and_eq_true, Bool.not_eq_true'] at h
    obtain ⟨c, hc⟩ := Option.isSome_iff_exists.1 h.2
    exact Go.Proofs.enters_of hf h.1 hc args w
  · cases h

theorem mem_of_memN {x : Nat} : ∀ {l : List Nat}, memN x l = true → x ∈ l
  | [], h => by cases h
  | y :: l, h => by
    simp only [memN, Bool.or_eq_true] at h
    rcases h with h | h
    · rw [Nat.eq_of_beq_eq_true h]; exact List.mem_cons_self
    · exact List.mem_cons_of_mem _ (mem_of_memN h)

theorem cfg_isF {P : Program} {l : List Nat} (h : l.all (enterable P) = true) (g : FuncId) (hg : memN g l = true) (args : Array Value) (w : World) : (callFunc g args).run P w = .ok (.enter g args) w :=
  enter_of (List.all_eq_true.1 h g (mem_of_memN hg)) args w

def bodyOf (P : Program) (f : FuncId) : Code :=
  match P.funcs[f]? with
  | some fn => fn.body.getD .skip
  | none => .skip
def endOf (P : Program) (f : FuncId) : Kont :=
  match P.funcs[f]? with
  | some fn => topEnd P fn
  | none => fun _ _ => none
def startOf (P : Program) (f : FuncId) (args : List AV) : St :=
  match P.funcs[f]? with
  | some fn => start fn args []
  | none => ⟨[], []⟩

theorem CP_run (C : Cfg) (n : Nat) (f : FuncId) (args : List AV) (h : enterable C.P f = true) (hk : C.known f args = none := by kernel_rfl) :
    CP C (n + 1) f args = cond (AV.pureL args) (ex (topEnv C (CP C n) n f) (some (jT (topEnv C (CP C n) n f) (bodyOf C.P f) (endOf C.P f))) (bodyOf C.P f) 1 [] [] (endOf C.P f) (startOf C.P f args)) none := by
  unfold enterable at h
  split at h
  · rename_i fn hf
    simp only [Bool.and_eq_true, Bool.not_eq_true'] at h
    obtain ⟨c, hc⟩ := Option.isSome_iff_exists.1 h.2
    rw [← top_eq]
    unfold CP bodyOf endOf startOf
    simp only [hk, hf, hc, Option.getD_some]
  · cases h

theorem CP_pure (C : Cfg) (n : Nat) (f : FuncId) (args : List AV) (h : enterable C.P f = true) (hp : AV.pureL args = true) (hk : C.known f args = none := by kernel_rfl) :
    CP C (n + 1) f args = ex (topEnv C (CP C n) n f) (some (jT (topEnv C (CP C n) n f) (bodyOf C.P f) (endOf C.P f))) (bodyOf C.P f) 1 [] [] (endOf C.P f) (startOf C.P f args) := by
  rw [CP_run C n f args h hk, hp]; rfl

end Go.Proofs.YtbikcndldcfffaaDoor.Sim
