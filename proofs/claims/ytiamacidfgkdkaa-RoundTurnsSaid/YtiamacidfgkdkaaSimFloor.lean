/- Quotients rounded down, by a number of either sign. Condition: none beyond what each theorem says. -/
import Derived.Test.YtiamacidfgkdkaaSimWord
set_option linter.unusedSimpArgs false
set_option linter.unusedVariables false
namespace Go.Proofs.Ytiamacidfgkdkaa.Sim
open Go

/-- The quotient rounded down, and the rest, which has the divisor's sign. -/
def fd (z b : Int) : Int := if b < 0 then (-z) / (-b) else z / b
def fm (z b : Int) : Int := if b < 0 then -((-z) % (-b)) else z % b
theorem fd_mul (z b : Int) : fd z b * b + fm z b = z := by
  unfold fd fm
  by_cases h : b < 0
  · rw [if_pos h, if_pos h]
    have := Int.ediv_mul_add_emod (-z) (-b)
    have e : (-z) / (-b) * b = -((-z) / (-b) * (-b)) := by rw [Int.mul_neg, Int.neg_neg]
    rw [e]; omega
  · rw [if_neg h, if_neg h]; exact Int.ediv_mul_add_emod z b
theorem fm_pos {b : Int} (z : Int) (h : 0 < b) : 0 ≤ fm z b ∧ fm z b < b := by
  unfold fm; rw [if_neg (by omega)]
  exact ⟨Int.emod_nonneg _ (by omega), Int.emod_lt_of_pos _ h⟩
theorem fm_neg {b : Int} (z : Int) (h : b < 0) : b < fm z b ∧ fm z b ≤ 0 := by
  unfold fm; rw [if_pos h]
  have h1 := Int.emod_nonneg (-z) (show -b ≠ 0 by omega)
  have h2 := Int.emod_lt_of_pos (-z) (show 0 < -b by omega)
  omega
/-- In amounts: of one sign. -/
theorem fd_same {z b : Int} (hb : b ≠ 0) (h : (z < 0 ∧ b < 0) ∨ (0 ≤ z ∧ 0 < b)) : fd z b = ((z.natAbs / b.natAbs : Nat) : Int) ∧ fm z b = if b < 0 then -((z.natAbs % b.natAbs : Nat) : Int) else ((z.natAbs % b.natAbs : Nat) : Int) := by
  have hp := floor_pos z.natAbs b.natAbs
  unfold fd fm
  rcases h with ⟨h1, h2⟩ | ⟨h1, h2⟩
  · rw [if_pos h2, if_pos h2, if_pos h2, show -z = (z.natAbs : Int) by omega, show -b = (b.natAbs : Int) by omega, hp.1, hp.2]
    exact ⟨rfl, rfl⟩
  · rw [if_neg (by omega), if_neg (by omega), if_neg (by omega)]
    conv => lhs; lhs; rw [show z = (z.natAbs : Int) by omega, show b = (b.natAbs : Int) by omega]
    conv => rhs; lhs; rw [show z = (z.natAbs : Int) by omega, show b = (b.natAbs : Int) by omega]
    rw [hp.1, hp.2]
    simp only [Int.natAbs_natCast]
    exact ⟨trivial, trivial⟩
/-- In amounts: of unlike signs. -/
theorem fd_unlike {z b : Int} (hb : b ≠ 0) (h : (0 ≤ z ∧ b < 0) ∨ (z ≤ 0 ∧ 0 < b)) :
    fd z b = (if z.natAbs % b.natAbs = 0 then -((z.natAbs / b.natAbs : Nat) : Int) else -((z.natAbs / b.natAbs : Nat) : Int) - 1) ∧
    fm z b = if z.natAbs % b.natAbs = 0 then 0 else if b < 0 then -((b.natAbs : Int) - ((z.natAbs % b.natAbs : Nat) : Int)) else (b.natAbs : Int) - ((z.natAbs % b.natAbs : Nat) : Int) := by
  have hp := floor_neg z.natAbs b.natAbs (by omega)
  unfold fd fm
  rcases h with ⟨h1, h2⟩ | ⟨h1, h2⟩
  · rw [if_pos h2, if_pos h2, if_pos h2]
    rw [show -b = (b.natAbs : Int) by omega]
    rw [show -z = -(z.natAbs : Int) by omega, hp.1, hp.2]
    refine ⟨rfl, ?_⟩
    by_cases c : z.natAbs % b.natAbs = 0
    · rw [if_pos c, if_pos c]; rfl
    · rw [if_neg c, if_neg c]
  · have e1 : z = -(z.natAbs : Int) := by omega
    have e2 : b = (b.natAbs : Int) := by omega
    have hn : ¬ b < 0 := by omega
    have f1 : z / b = -(z.natAbs : Int) / (b.natAbs : Int) := by rw [← e1, ← e2]
    have f2 : z % b = -(z.natAbs : Int) % (b.natAbs : Int) := by rw [← e1, ← e2]
    rw [if_neg hn, if_neg hn, if_neg hn, f1, f2, hp.1, hp.2]
    exact ⟨rfl, rfl⟩
theorem td_same {z b : Int} (h : (z < 0 ∧ b < 0) ∨ (0 ≤ z ∧ 0 < b)) : Int.tdiv z b = ((z.natAbs / b.natAbs : Nat) : Int) ∧ Int.tmod z b = if b < 0 then -((z.natAbs % b.natAbs : Nat) : Int) else ((z.natAbs % b.natAbs : Nat) : Int) := by
  rcases h with ⟨h1, h2⟩ | ⟨h1, h2⟩
  · have e1 : z = -(z.natAbs : Int) := by omega
    have e2 : b = -(b.natAbs : Int) := by omega
    have f1 : Int.tdiv z b = Int.tdiv (-(z.natAbs : Int)) (-(b.natAbs : Int)) := by rw [← e1, ← e2]
    have f2 : Int.tmod z b = Int.tmod (-(z.natAbs : Int)) (-(b.natAbs : Int)) := by rw [← e1, ← e2]
    rw [f1, f2, if_pos h2, Int.neg_tdiv, Int.tdiv_neg, Int.neg_neg, Int.neg_tmod, Int.tmod_neg]
    exact ⟨rfl, rfl⟩
  · have e1 : z = (z.natAbs : Int) := by omega
    have e2 : b = (b.natAbs : Int) := by omega
    have f1 : Int.tdiv z b = Int.tdiv (z.natAbs : Int) (b.natAbs : Int) := by rw [← e1, ← e2]
    have f2 : Int.tmod z b = Int.tmod (z.natAbs : Int) (b.natAbs : Int) := by rw [← e1, ← e2]
    rw [f1, f2, if_neg (by omega)]
    exact ⟨rfl, rfl⟩
theorem td_unlike {z b : Int} (h : (0 ≤ z ∧ b < 0) ∨ (z ≤ 0 ∧ 0 < b)) : Int.tdiv z b = -((z.natAbs / b.natAbs : Nat) : Int) ∧ Int.tmod z b = if b < 0 then ((z.natAbs % b.natAbs : Nat) : Int) else -((z.natAbs % b.natAbs : Nat) : Int) := by
  rcases h with ⟨h1, h2⟩ | ⟨h1, h2⟩
  · have e1 : z = (z.natAbs : Int) := by omega
    have e2 : b = -(b.natAbs : Int) := by omega
    have f1 : Int.tdiv z b = Int.tdiv ((z.natAbs : Int)) (-(b.natAbs : Int)) := by rw [← e1, ← e2]
    have f2 : Int.tmod z b = Int.tmod ((z.natAbs : Int)) (-(b.natAbs : Int)) := by rw [← e1, ← e2]
    rw [f1, f2, if_pos h2, Int.tdiv_neg, Int.tmod_neg]
    exact ⟨rfl, rfl⟩
  · have e1 : z = -(z.natAbs : Int) := by omega
    have e2 : b = (b.natAbs : Int) := by omega
    have f1 : Int.tdiv z b = Int.tdiv (-(z.natAbs : Int)) (b.natAbs : Int) := by rw [← e1, ← e2]
    have f2 : Int.tmod z b = Int.tmod (-(z.natAbs : Int)) (b.natAbs : Int) := by rw [← e1, ← e2]
    rw [f1, f2, if_neg (by omega), Int.neg_tdiv, Int.neg_tmod]
    exact ⟨rfl, rfl⟩
/-- How great a quotient can be. -/
theorem fd_bound {z b : Int} (hb : b ≠ 0) : -(z.natAbs : Int) ≤ fd z b ∧ fd z b ≤ (z.natAbs : Int) := by
  have h0 : z.natAbs / b.natAbs ≤ z.natAbs := Nat.div_le_self _ _
  have h1 : z.natAbs % b.natAbs ≠ 0 → z.natAbs / b.natAbs < z.natAbs := by
    intro c
    by_cases hz : z.natAbs = 0
    · rw [hz, Nat.zero_mod] at c; exact absurd rfl c
    · by_cases hb1 : b.natAbs = 1
      · rw [hb1, Nat.mod_one] at c; exact absurd rfl c
      · exact Nat.div_lt_self (by omega) (by omega)
  by_cases h : (z < 0 ∧ b < 0) ∨ (0 ≤ z ∧ 0 < b)
  · rw [(fd_same hb h).1]
    generalize z.natAbs / b.natAbs = q at *
    omega
  · rw [(fd_unlike hb (by omega)).1]
    by_cases c : z.natAbs % b.natAbs = 0
    · rw [if_pos c]
      generalize z.natAbs / b.natAbs = q at *
      omega
    · have h2 := h1 c
      rw [if_neg c]
      generalize z.natAbs / b.natAbs = q at *
      omega
end Go.Proofs.Ytiamacidfgkdkaa.Sim
