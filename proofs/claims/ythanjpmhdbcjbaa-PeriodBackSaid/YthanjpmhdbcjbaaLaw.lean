/- The laws of periods answer true. Condition: none beyond what each theorem says. -/
import Derived.Test.YthanjpmhdbcjbaaSpecPeriod2
set_option linter.unusedSimpArgs false
set_option linter.unusedVariables false
namespace Go.Proofs.Ythanjpmhdbcjbaa.Sim.S
open Go

theorem sp_awake (n : Nat) : CP C (n + 5) F_law10_awake [] = some (.bool true) := by
  rw [eq_law10_awake]
  unfold R_law10_awake
  rw [sp_period_Balance n 1 (-13) 5, sp_period_Mul n 0 0 500001 2 (by decide)]
  rfl

theorem law_PeriodSums (n : Nat) (a b c x y z : Int) : CP C (n + 7) F_law10_PeriodSums [per a b c, per x y z] = some (.bool true) := by
  rw [eq_law10_PeriodSums]
  unfold R_law10_PeriodSums
  rw [sp_period_Add (n + 3), sp_ref10_Add (n + 2), sp_period_Neg (n + 1), sp_ref10_Mul n a b c (-1) (by decide), sp_period_Check (n + 4), sp_ref10_Check (n + 4), sp_awake (n + 1)]
  simp only [k_int, k_anyInt, k_bool, k_str, k_agg, k_tup, k_cons, k_nil, k_bind, ↓c_not, ↓c_bne, ite_cond, Bool.and_eq_true, Bool.or_eq_true, beq_iff_eq, Bool.and_true, decide_eq_true_eq, Bool.false_eq_true, if_true, if_false, bne_self_eq_false, and_self, Int.reduceEq, Int.reduceLT, Int.reduceNeg, beq_self_eq_true]

theorem law_PeriodTimes (n : Nat) (a b c x : Int) (_ha : IntKind.i64.has a) (_hb : IntKind.i64.has b) (_hc : IntKind.i64.has c) (hx : IntKind.i64.has x) : CP C (n + 7) F_law10_PeriodTimes [per a b c, .int .i64 x] = some (.bool true) := by
  have h : -9223372036854775808 ≤ x ∧ x ≤ 9223372036854775807 := hx
  rw [eq_law10_PeriodTimes]
  unfold R_law10_PeriodTimes
  rw [sp_period_Mul (n + 2) a b c x h, sp_ref10_Mul n a b c x h, sp_period_Balance (n + 2), sp_ref10_Balance (n + 2), sp_period_Months (n + 3), sp_ref10_Months (n + 3), sp_awake (n + 1)]
  simp only [k_int, k_anyInt, k_bool, k_str, k_agg, k_tup, k_cons, k_nil, k_bind, ↓c_not, ↓c_bne, ite_cond, Bool.and_eq_true, Bool.or_eq_true, beq_iff_eq, Bool.and_true, decide_eq_true_eq, Bool.false_eq_true, if_true, if_false, bne_self_eq_false, and_self, Int.reduceEq, Int.reduceLT, Int.reduceNeg, beq_self_eq_true]

theorem pb_ok {a b c : Int} (h : pbE a b c = 0) : pE a b c = 0 ∧ pE (Int.tdiv (12 * a + b) 12) (Int.tmod (12 * a + b) 12) c = 0 := by
  unfold pbE at h
  by_cases g : pE a b c = 0
  · rw [if_pos g] at h; exact ⟨g, h⟩
  · rw [if_neg g] at h; omega
theorem tdm (m : Int) : 12 * Int.tdiv m 12 + Int.tmod m 12 = m := by simp only [IntKind.wrap_i64, tdiv_pos, tmod_pos, Int.reduceLT]; omega

theorem law_PeriodBalanced (n : Nat) (a b c : Int) : CP C (n + 6) F_law10_PeriodBalanced [per a b c] = some (.bool true) := by
  rw [eq_law10_PeriodBalanced]
  unfold R_law10_PeriodBalanced T_law10_PeriodBalanced_1
  rw [sp_period_Balance (n + 1), sp_awake n]
  by_cases h : pbE a b c = 0
  · obtain ⟨h1, h2⟩ := pb_ok h
    rw [perV_ok _ _ _ h]
    simp only [k_bind, k_tup, k_agg, k_cons, k_int, k_nil, k_bool]
    rw [sp_period_Balance (n + 1), show ((0 : Int) != 0) = false from rfl, cond_false, tdm]
    have h3 : pbE (Int.tdiv (12 * a + b) 12) (Int.tmod (12 * a + b) 12) c = 0 := by
      unfold pbE; rw [if_pos h2, tdm]; exact h2
    have h4 : pM (Int.tdiv (12 * a + b) 12) (Int.tmod (12 * a + b) 12) c = pM a b c := by
      unfold pM; rw [if_pos h1, if_pos h2, tdm]
    rw [perV_ok _ _ _ h3]
    simp only [k_bind, k_tup, k_agg, k_cons, k_int, k_nil, k_bool]
    have key : J_law10_PeriodBalanced_63 (CP C (n + 5)) (n + 5) 0 true a b c (Int.tdiv (12 * a + b) 12) (Int.tmod (12 * a + b) 12) c (Int.tdiv (12 * a + b) 12) (Int.tmod (12 * a + b) 12) c = some (.bool true) := by
      unfold J_law10_PeriodBalanced_63 T_law10_PeriodBalanced_63
      rw [sp_period_Months (n + 2), sp_period_Months (n + 2), sp_awake n, h4]
      rw [decide_eq_true (show Int.tmod (12 * a + b) 12 > -12 by simp only [IntKind.wrap_i64, tdiv_pos, tmod_pos, Int.reduceLT]; omega), decide_eq_true (show Int.tmod (12 * a + b) 12 < 12 by simp only [IntKind.wrap_i64, tdiv_pos, tmod_pos, Int.reduceLT]; omega)]
      simp only [k_bind, k_int, k_bool, beq_self_eq_true, Bool.and_self, cond_true]
      rfl
    by_cases g : 12 * a + b ≥ 0
    · rw [decide_eq_true (show Int.tdiv (12 * a + b) 12 ≥ 0 by simp only [IntKind.wrap_i64, tdiv_pos, tmod_pos, Int.reduceLT]; omega), decide_eq_true (show Int.tmod (12 * a + b) 12 ≥ 0 by simp only [IntKind.wrap_i64, tdiv_pos, tmod_pos, Int.reduceLT]; omega), cond_true, cond_true]
      exact key
    · rw [decide_eq_true (show Int.tdiv (12 * a + b) 12 ≤ 0 by simp only [IntKind.wrap_i64, tdiv_pos, tmod_pos, Int.reduceLT]; omega), decide_eq_true (show Int.tmod (12 * a + b) 12 ≤ 0 by simp only [IntKind.wrap_i64, tdiv_pos, tmod_pos, Int.reduceLT]; omega)]
      simp only [cond_true, key]
      cases decide (Int.tdiv (12 * a + b) 12 ≥ 0) <;> cases decide (Int.tmod (12 * a + b) 12 ≥ 0) <;> rfl
  · rw [perV_err _ _ _ h]
    simp only [k_bind, k_tup, k_agg, k_cons, k_int, k_nil, k_bool, beq_self_eq_true, Bool.and_self, cond_true]
    rw [show (pbE a b c != 0) = true from bne_iff_ne.2 h, cond_true]

theorem law_PeriodBack (n : Nat) (a b c x y z : Int) : CP C (n + 6) F_law10_PeriodBack [per a b c, per x y z] = some (.bool true) := by
  rw [eq_law10_PeriodBack]
  unfold R_law10_PeriodBack
  rw [sp_period_Add (n + 2), sp_period_Neg n, sp_awake n]
  by_cases h : paE a b c x y z = 0
  · have hh : pE a b c = 0 ∧ pE x y z = 0 ∧ pE (a + x) (b + y) (c + z) = 0 := by
      unfold paE at h
      by_cases g : pE a b c = 0 ∧ pE x y z = 0
      · rw [if_pos g] at h; exact ⟨g.1, g.2, h⟩
      · rw [if_neg g] at h; omega
    obtain ⟨h1, h2, h3⟩ := hh
    have g2 := pE_zero.1 h2
    have h4 : pE (x * -1) (y * -1) (z * -1) = 0 := pE_zero.2 (by omega)
    have h5 : pmE x y z (-1) = 0 := by unfold pmE; rw [if_pos h2]; exact h4
    have h6 : paE (a + x) (b + y) (c + z) (x * -1) (y * -1) (z * -1) = 0 := by
      unfold paE; rw [if_pos ⟨h3, h4⟩, show a + x + x * -1 = a by omega, show b + y + y * -1 = b by omega, show c + z + z * -1 = c by omega]; exact h1
    rw [perV_ok _ _ _ h, perV_ok _ _ _ h5]
    simp only [k_bind, k_tup, k_agg, k_cons, k_int, k_nil, k_bool]
    rw [show ((0 : Int) != 0) = false from rfl, cond_false, sp_period_Add (n + 2), perV_ok _ _ _ h6, show a + x + x * -1 = a by omega, show b + y + y * -1 = b by omega, show c + z + z * -1 = c by omega]
    simp only [k_bind, k_tup, k_agg, k_cons, k_int, k_nil, k_bool, beq_self_eq_true, Bool.and_self, cond_true]
  · rw [perV_err _ _ _ h]
    simp only [k_bind, k_tup, k_agg, k_cons, k_int, k_nil, k_bool]
    rw [show (paE a b c x y z != 0) = true from bne_iff_ne.2 h, cond_true]

theorem law_PeriodUnits (n : Nat) (p q : Int) : CP C (n + 6) F_law10_PeriodUnits [.int .i64 p, .int .i64 q] = some (.bool true) := by
  rw [eq_law10_PeriodUnits]
  unfold R_law10_PeriodUnits
  have hp : -40000 ≤ Int.tmod p 40000 ∧ Int.tmod p 40000 ≤ 40000 := by simp only [IntKind.wrap_i64, tdiv_pos, tmod_pos, Int.reduceLT]; omega
  have hq : -400000 ≤ Int.tmod q 400000 ∧ Int.tmod q 400000 ≤ 400000 := by simp only [IntKind.wrap_i64, tdiv_pos, tmod_pos, Int.reduceLT]; omega
  generalize Int.tmod p 40000 = y at hp ⊢
  generalize Int.tmod q 400000 = m at hq ⊢
  have hM : -100000 ≤ Int.tdiv (12 * y + m) 12 ∧ Int.tdiv (12 * y + m) 12 ≤ 100000 := by simp only [IntKind.wrap_i64, tdiv_pos, tmod_pos, Int.reduceLT]; omega
  have hR : -12 ≤ Int.tmod (12 * y + m) 12 ∧ Int.tmod (12 * y + m) 12 ≤ 12 := by simp only [IntKind.wrap_i64, tdiv_pos, tmod_pos, Int.reduceLT]; omega
  have h0 : pE (Int.tdiv (12 * y + m) 12) (Int.tmod (12 * y + m) 12) 0 = 0 := pE_zero.2 (by omega)
  have h1 : pE y m 0 = 0 := pE_zero.2 (by omega)
  have h2 : pE 0 (12 * y + m) 0 = 0 := pE_zero.2 (by omega)
  have b1 : pbE y m 0 = 0 := by unfold pbE; rw [if_pos h1]; exact h0
  have b2 : pbE 0 (12 * y + m) 0 = 0 := by unfold pbE; rw [if_pos h2, show 12 * 0 + (12 * y + m) = 12 * y + m by omega]; exact h0
  rw [sp_period_Balance (n + 1), sp_period_Months (n + 2), sp_awake n, perV_ok _ _ _ b1, show pM y m 0 = 12 * y + m by unfold pM; rw [if_pos h1]]
  simp only [k_bind, k_tup, k_agg, k_cons, k_int, k_nil, k_bool]
  rw [sp_period_Balance (n + 1), perV_ok _ _ _ b2, show 12 * 0 + (12 * y + m) = 12 * y + m by omega]
  simp only [k_bind, k_tup, k_agg, k_cons, k_int, k_nil, k_bool, bnd_eq _ (show IntKind.i64.wrap (IntKind.i64.wrap (12 * y) + m) = 12 * y + m by (first | omega | (simp (disch := omega) only [w64, td_nn, tm_nn] <;> omega))), beq_self_eq_true, Bool.and_self, cond_true]
end Go.Proofs.Ythanjpmhdbcjbaa.Sim.S
