/- Sums and products that tell when they overflow. Condition: none beyond what each theorem says. -/
import Derived.Test.YtacnmhgniaagiaaSpecProg
set_option linter.unusedSimpArgs false
set_option linter.unusedVariables false
namespace Go.Proofs.Ytacnmhgniaagiaa.Sim.S
open Go

abbrev fit64 (z : Int) : Prop := -9223372036854775808 ≤ z ∧ z ≤ 9223372036854775807
/-- A number and its error: none, or that it is no int. -/
abbrev okV (z : Int) : AV := .tup [.int .i64 (if -9223372036854775808 ≤ z ∧ z ≤ 9223372036854775807 then z else 0), .int .i64 (if -9223372036854775808 ≤ z ∧ z ≤ 9223372036854775807 then 0 else 8)]
theorem natAbs_mul_pos {a b : Int} (h : (a < 0 ∧ b < 0) ∨ (¬ a < 0 ∧ ¬ b < 0)) : ((a.natAbs * b.natAbs : Nat) : Int) = a * b := by
  rw [← Int.natAbs_mul]
  have : 0 ≤ a * b := by
    rcases h with ⟨h1, h2⟩ | ⟨h1, h2⟩
    · exact Int.le_of_lt (Int.mul_pos_of_neg_of_neg h1 h2)
    · exact Int.mul_nonneg (by omega) (by omega)
  omega
theorem natAbs_mul_neg {a b : Int} (h : (a < 0 ∧ ¬ b < 0) ∨ (¬ a < 0 ∧ b < 0)) : -((a.natAbs * b.natAbs : Nat) : Int) = a * b := by
  rw [← Int.natAbs_mul]
  have : a * b ≤ 0 := by
    rcases h with ⟨h1, h2⟩ | ⟨h1, h2⟩
    · exact Int.mul_nonpos_of_nonpos_of_nonneg (by omega) (by omega)
    · exact Int.mul_nonpos_of_nonneg_of_nonpos (by omega) (by omega)
  omega
theorem mul_bound {a b : Int} (ha : -9223372036854775808 ≤ a ∧ a ≤ 9223372036854775807) (hb : -9223372036854775808 ≤ b ∧ b ≤ 9223372036854775807) : a.natAbs * b.natAbs ≤ 9223372036854775808 * 9223372036854775808 :=
  Nat.mul_le_mul (by omega) (by omega)
theorem sp_checked_amount (n : Nat) (x : Int) (h : -9223372036854775808 ≤ x ∧ x ≤ 9223372036854775807) :
    CP C (n + 1) F_checked_amount [.int .i64 x] = some (.int .u64 ((x.natAbs : Nat) : Int)) := by
  rw [eq_checked_amount]
  unfold R_checked_amount
  by_cases g : x < 0
  · rw [decide_eq_true g, cond_true, IntKind.wrap_u64, IntKind.wrap_u64, show (0 - x % 18446744073709551616) % 18446744073709551616 = ((x.natAbs : Nat) : Int) by omega]
  · rw [decide_eq_false g, cond_false, IntKind.wrap_u64, show x % 18446744073709551616 = ((x.natAbs : Nat) : Int) by omega]
theorem sp_checked_Mul (n : Nat) (a b : Int) (ha : -9223372036854775808 ≤ a ∧ a ≤ 9223372036854775807) (hb : -9223372036854775808 ≤ b ∧ b ≤ 9223372036854775807) :
    CP C (n + 3) F_checked_Mul [.int .i64 a, .int .i64 b] = some (okV (a * b)) := by
  rw [eq_checked_Mul]
  unfold R_checked_Mul
  rw [sp_checked_amount (n + 1) a ha, sp_checked_amount (n + 1) b hb]
  simp only [k_bind, k_int]
  have hm := mul_bound ha hb
  rw [sp_wide_Mul n a.natAbs b.natAbs (by omega) (by omega)]
  simp only [k_bind, k_tup, k_agg, k_cons, k_int, k_nil]
  have neg : ((a < 0 ∧ ¬ b < 0) ∨ (¬ a < 0 ∧ b < 0)) →
      ((CP C (n + 2) F_wide_Neg [wv (a.natAbs * b.natAbs)]).bind fun r21 => AV.aggK r21 fun l22 => consK l22 fun v23 l24 => AV.intK .u64 v23 fun i25 => consK l24 fun v26 l27 => AV.intK .u64 v26 fun i28 => nilK l27
        ((CP C (n + 2) F_wide_Int [.agg [.int .u64 i25, .int .u64 i28]]).bind fun r29 => AV.tupK r29 fun l30 => consK l30 fun v31 l32 => AV.intK .i64 v31 fun i33 => consK l32 fun v34 l35 => AV.intK .i64 v34 fun i36 => nilK l35
          (some (AV.tup [.int .i64 i33, .int .i64 i36])))) = some (okV (a * b)) := by
    intro h
    have e := natAbs_mul_neg h
    rw [wI_of _ (by omega), sg_wide_Neg n, e]
    simp only [k_bind, k_tup, k_agg, k_cons, k_int, k_nil]
    rw [sp_wide_Int n _ (by omega)]
    simp only [k_bind, k_tup, k_agg, k_cons, k_int, k_nil]
  have pos : ((a < 0 ∧ b < 0) ∨ (¬ a < 0 ∧ ¬ b < 0)) →
      (cond (decide (((a.natAbs * b.natAbs / 18446744073709551616 : Nat) : Int) ≥ 9223372036854775808)) (some (AV.tup [.int .i64 0, .int .i64 8]))
        ((CP C (n + 2) F_wide_Int [wv (a.natAbs * b.natAbs)]).bind fun r29 => AV.tupK r29 fun l30 => consK l30 fun v31 l32 => AV.intK .i64 v31 fun i33 => consK l32 fun v34 l35 => AV.intK .i64 v34 fun i36 => nilK l35
          (some (AV.tup [.int .i64 i33, .int .i64 i36])))) = some (okV (a * b)) := by
    intro h
    have e := natAbs_mul_pos h
    rw [decide_eq_false (show ¬ ((a.natAbs * b.natAbs / 18446744073709551616 : Nat) : Int) ≥ 9223372036854775808 by omega), cond_false, wI_of _ (by omega), e]
    rw [sp_wide_Int n _ (by omega)]
    simp only [k_bind, k_tup, k_agg, k_cons, k_int, k_nil]
  by_cases h1 : a < 0
  · rw [decide_eq_true h1, cond_true]
    by_cases h2 : b < 0
    · rw [decide_eq_true h2, cond_true]; exact pos (.inl ⟨h1, h2⟩)
    · rw [decide_eq_false h2, cond_false]; exact neg (.inl ⟨h1, h2⟩)
  · rw [decide_eq_false h1, cond_false]
    by_cases h2 : b < 0
    · rw [decide_eq_true h2, cond_true]; exact neg (.inr ⟨h1, h2⟩)
    · rw [decide_eq_false h2, cond_false]; exact pos (.inr ⟨h1, h2⟩)
theorem sp_ref02_times (n : Nat) (a b : Int) (ha : -9223372036854775808 ≤ a ∧ a ≤ 9223372036854775807) (hb : -9223372036854775808 ≤ b ∧ b ≤ 9223372036854775807) :
    CP C (n + 4) F_ref02_times [.int .i64 a, .int .i64 b] = some (wI (a * b)) := by
  rw [eq_ref02_times]
  unfold R_ref02_times
  rw [sp_ref02_Amount (n + 2) a ha, sp_ref02_Amount (n + 2) b hb]
  simp only [k_bind, k_int]
  have hm := mul_bound ha hb
  rw [sp_ref01_Mul (n + 1) a.natAbs b.natAbs (by omega) (by omega)]
  simp only [k_bind, k_tup, k_agg, k_cons, k_int, k_nil]
  have neg : ((a < 0 ∧ ¬ b < 0) ∨ (¬ a < 0 ∧ b < 0)) →
      ((CP C (n + 3) F_ref01_Neg [wv (a.natAbs * b.natAbs)]).bind fun r21 => AV.aggK r21 fun l22 => consK l22 fun v23 l24 => AV.intK .u64 v23 fun i25 => consK l24 fun v26 l27 => AV.intK .u64 v26 fun i28 => nilK l27
          (some (AV.agg [.int .u64 i25, .int .u64 i28]))) = some (wI (a * b)) := by
    intro h
    have e := natAbs_mul_neg h
    rw [wI_of _ (by omega), sg_ref01_Neg n, e]
    simp only [k_bind, k_tup, k_agg, k_cons, k_int, k_nil]
  by_cases h1 : a < 0
  · rw [decide_eq_true h1]
    by_cases h2 : b < 0
    · rw [decide_eq_true h2, ← natAbs_mul_pos (.inl ⟨h1, h2⟩), ← wI_of _ (by omega)]; rfl
    · rw [decide_eq_false h2]; exact neg (.inl ⟨h1, h2⟩)
  · rw [decide_eq_false h1]
    by_cases h2 : b < 0
    · rw [decide_eq_true h2]; exact neg (.inr ⟨h1, h2⟩)
    · rw [decide_eq_false h2, ← natAbs_mul_pos (.inr ⟨h1, h2⟩), ← wI_of _ (by omega)]; rfl
theorem sp_ref02_Mul (n : Nat) (a b : Int) (ha : -9223372036854775808 ≤ a ∧ a ≤ 9223372036854775807) (hb : -9223372036854775808 ≤ b ∧ b ≤ 9223372036854775807) :
    CP C (n + 5) F_ref02_Mul [.int .i64 a, .int .i64 b] = some (okV (a * b)) := by
  rw [eq_ref02_Mul]
  unfold R_ref02_Mul
  rw [sp_ref02_times n a b ha hb]
  simp only [k_bind, k_tup, k_agg, k_cons, k_int, k_nil]
  have hm := mul_bound ha hb
  rw [← Int.natAbs_mul] at hm
  rw [sp_ref01_Int (n + 2) _ (by omega)]
  simp only [k_bind, k_tup, k_agg, k_cons, k_int, k_nil]
end Go.Proofs.Ytacnmhgniaagiaa.Sim.S
