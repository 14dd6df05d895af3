/- Sums and products that tell when they overflow. Condition: none beyond what each theorem says. -/
import Derived.Test.YtceigcoipifloaaSpecProg
set_option linter.unusedSimpArgs false
set_option linter.unusedVariables false
namespace Go.Proofs.Ytceigcoipifloaa.Sim.S
open Go

abbrev fit64 (z : Int) : Prop := -9223372036854775808 ≤ z ∧ z ≤ 9223372036854775807
/-- A number and its error: none, or that it is no int. -/
abbrev okV (z : Int) : AV := .tup [.int .i64 (if -9223372036854775808 ≤ z ∧ z ≤ 9223372036854775807 then z else 0), .int .i64 (if -9223372036854775808 ≤ z ∧ z ≤ 9223372036854775807 then 0 else 8)]
theorem natAbs_mul_pos {a b : Int} (h : (a < 0 ∧ b < 0) ∨ (¬ a < 0 ∧ ¬ b < 0)) : ((a.natAbs * b.natAbs : Nat) : Int) = a * b := by
  rw [← Int.natAbs_mul]
  have : 0 ≤ a * b := by
    rcases h with ⟨h1, h2⟩ | ⟨h1, h2⟩
    · exact Int.le_of_lt (Int.mul_pos_of_neg_of_neg h1 h2)
    · exact Int.mul_nonneg (by omega) (by omega)
  omega
theorem natAbs_mul_neg {a b : Int} (h : (a < 0 ∧ ¬ b < 0) ∨ (¬ a < 0 ∧ b < 0)) : -((a.natAbs * b.natAbs : Nat) : Int) = a * b := by
  rw [← Int.natAbs_mul]
  have : a * b ≤ 0 := by
    rcases h with ⟨h1, h2⟩ | ⟨h1, h2⟩
    · exact Int.mul_nonpos_of_nonpos_of_nonneg (by omega) (by omega)
    · exact Int.mul_nonpos_of_nonneg_of_nonpos (by omega) (by omega)
  omega
theorem mul_bound {a b : Int} (ha : -9223372036854775808 ≤ a ∧ a ≤ 9223372036854775807) (hb : -9223372036854775808 ≤ b ∧ b ≤ 9223372036854775807) : a.natAbs * b.natAbs ≤ 9223372036854775808 * 9223372036854775808 :=
  Nat.mul_le_mul (by omega) (by omega)
end Go.Proofs.Ytceigcoipifloaa.Sim.S
