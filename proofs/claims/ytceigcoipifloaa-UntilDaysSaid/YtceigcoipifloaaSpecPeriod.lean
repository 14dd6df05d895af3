/- Periods. Condition: none beyond what each theorem says. -/
import Derived.Test.YtceigcoipifloaaRes
import Derived.Test.YtceigcoipifloaaSimKit
set_option linter.unusedSimpArgs false
set_option linter.unusedVariables false
namespace Go.Proofs.Ytceigcoipifloaa.Sim.S
open Go

def pin (v : Int) : Int := if v < -1000000 ∨ v > 1000000 then 8 else 0
def pE (y m d : Int) : Int := if pin y = 0 ∧ pin m = 0 ∧ pin d = 0 then 0 else 8
abbrev per (y m d : Int) : AV := .agg [.int .i64 y, .int .i64 m, .int .i64 d]
theorem pin_eq (v : Int) : pin v = 0 ∨ pin v = 8 := by unfold pin; omega
theorem pE_zero {y m d : Int} : pE y m d = 0 ↔ (-1000000 ≤ y ∧ y ≤ 1000000) ∧ (-1000000 ≤ m ∧ m ≤ 1000000) ∧ (-1000000 ≤ d ∧ d ≤ 1000000) := by unfold pE pin; omega
theorem pE_eq (y m d : Int) : pE y m d = 0 ∨ pE y m d = 8 := by unfold pE; omega
theorem sp_period_apart (k : Nat) (y m d : Int) : CP C (k + 1) F_period_apart [per y m d] = some (per y m d) := by
  rw [eq_period_apart]; rfl
theorem sp_period_in (k : Nat) (i v : Int) : CP C (k + 1) F_period_in [.int .i64 i, .int .i64 v] = some (.tup [.int .i64 (if pin v = 0 then v else 0), .int .i64 (pin v)]) := by
  rw [eq_period_in]
  unfold R_period_in
  by_cases g : v < -1000000
  · rw [decide_eq_true g, cond_true, show pin v = 8 by unfold pin; omega]; rfl
  rw [decide_eq_false g, cond_false]
  by_cases g2 : v > 1000000
  · rw [decide_eq_true g2, cond_true, show pin v = 8 by unfold pin; omega]; rfl
  rw [decide_eq_false g2, cond_false, show pin v = 0 by unfold pin; omega]; rfl
theorem sp_period_Check (k : Nat) (y m d : Int) : CP C (k + 2) F_period_Check [per y m d] = some (.int .i64 (pE y m d)) := by
  rw [eq_period_Check]
  unfold R_period_Check
  rw [sp_period_apart k]
  simp only [k_bind, k_tup, k_agg, k_cons, k_int, k_nil]
  rw [sp_period_in k 0, sp_period_in k 1, sp_period_in k 2]
  simp only [k_bind, k_tup, k_agg, k_cons, k_int, k_nil]
  unfold pE
  rcases pin_eq y with h | h
  · rcases pin_eq m with h2 | h2
    · rcases pin_eq d with h3 | h3
      · rw [h, h2, h3]; rfl
      · rw [h, h2, h3]; rfl
    · rw [h, h2, if_neg (show ¬ ((0 : Int) = 0 ∧ (8 : Int) = 0 ∧ pin d = 0) by omega)]; rfl
  · rw [h, if_neg (show ¬ ((8 : Int) = 0 ∧ pin m = 0 ∧ pin d = 0) by omega)]; rfl
def pM (y m d : Int) : Int := if pE y m d = 0 then 12 * y + m else 0
theorem sp_period_Months (k : Nat) (y m d : Int) : CP C (k + 3) F_period_Months [per y m d] = some (.int .i64 (pM y m d)) := by
  rw [eq_period_Months]
  unfold R_period_Months pM
  rw [sp_period_Check k]
  simp only [k_bind, k_int]
  by_cases h : pE y m d = 0
  · have h' := pE_zero.1 h
    rw [if_pos h, h, show ((0 : Int) != 0) = false from rfl, cond_false, show IntKind.i64.wrap (IntKind.i64.wrap (y * 12) + m) = 12 * y + m by (first | omega | (simp (disch := omega) only [w64, td_nn, tm_nn] <;> omega))]
  · rw [if_neg h, show (pE y m d != 0) = true from bne_iff_ne.2 h, cond_true]
end Go.Proofs.Ytceigcoipifloaa.Sim.S
