/- Instants as numbers of 128 bits. Condition: none beyond what each theorem says. -/
import Derived.Test.YtlikncnaoafdjaaSpecInst
import Derived.Test.YtlikncnaoafdjaaSpecProg
set_option linter.unusedSimpArgs false
set_option linter.unusedVariables false
namespace Go.Proofs.Ytlikncnaoafdjaa.Sim.S
open Go

def wH (e z : Int) : Int := if e ≠ 0 then 0 else z
abbrev numV (e z : Int) : AV := .tup [wI (wH e z), .int .i64 e]
theorem numV_err {e : Int} (z : Int) (h : e ≠ 0) : numV e z = .tup [.agg [.int .u64 0, .int .u64 0], .int .i64 e] := by
  unfold numV wH; rw [if_pos h]; rfl
theorem numV_ok {e : Int} (z : Int) (h : e = 0) : numV e z = .tup [wI z, .int .i64 0] := by
  unfold numV wH; rw [if_neg (by omega), h]
end Go.Proofs.Ytlikncnaoafdjaa.Sim.S
