/- The laws of durations answer true. Condition: none beyond what each theorem says. -/
import Derived.Test.YtomcohbkmlempaaSpecDur2
set_option linter.unusedSimpArgs false
set_option linter.unusedVariables false
namespace Go.Proofs.Ytomcohbkmlempaa.Sim.S
open Go

theorem sp_awake (n : Nat) : CP C (n + 10) F_law04_awake [] = some (.bool true) := by
  rw [eq_law04_awake]
  unfold R_law04_awake
  rw [sp_dur_Neg n 0 1, sp_dur_Mul (n + 3) 0 500000000 3 (by decide) (by decide) (by decide), sp_dur_Div (n + 3) (-1) 999999999 2 (by decide) (by decide) (by decide), sp_dur_New (n + 2) 1099511627776 1 (by decide) (by decide)]
  rfl

theorem law_DurMakes (n : Nat) (s x : Int) (hs : IntKind.i64.has s) (hx : IntKind.i64.has x) : CP C (n + 11) F_law04_DurMakes [.int .i64 s, .int .i64 x] = some (.bool true) := by
  have hs' : -9223372036854775808 ≤ s ∧ s ≤ 9223372036854775807 := hs
  have hx' : -9223372036854775808 ≤ x ∧ x ≤ 9223372036854775807 := hx
  rw [eq_law04_DurMakes]
  unfold R_law04_DurMakes
  rw [sp_dur_New (n + 3) s x hs' hx', sp_ref04_New (n + 3) s x hs' hx', sp_dur_Check (n + 9), sp_ref03_CheckDur (n + 9), sp_awake n]
  simp only [k_int, k_anyInt, k_bool, k_str, k_agg, k_tup, k_cons, k_nil, k_bind, ↓c_not, ↓c_bne, ite_cond, Bool.and_eq_true, Bool.or_eq_true, beq_iff_eq, Bool.and_true, decide_eq_true_eq, Bool.false_eq_true, if_true, if_false, bne_self_eq_false, and_self, Int.reduceEq, Int.reduceLT, Int.reduceNeg, beq_self_eq_true]

theorem law_DurTimes (n : Nat) (s x y : Int) (hs : IntKind.i64.has s) (hx : IntKind.i64.has x) (hy : IntKind.i64.has y) : CP C (n + 11) F_law04_DurTimes [ins s x, .int .i64 y] = some (.bool true) := by
  have hs' : -9223372036854775808 ≤ s ∧ s ≤ 9223372036854775807 := hs
  have hx' : -9223372036854775808 ≤ x ∧ x ≤ 9223372036854775807 := hx
  have hy' : -9223372036854775808 ≤ y ∧ y ≤ 9223372036854775807 := hy
  rw [eq_law04_DurTimes]
  unfold R_law04_DurTimes
  rw [sp_dur_Mul (n + 4) s x y hs' hx' hy', sp_ref04_Mul (n + 3) s x y hy', sp_dur_Div (n + 4) s x y hs' hx' hy', sp_ref04_Div (n + 3) s x y hy', sp_awake n]
  simp only [k_int, k_anyInt, k_bool, k_str, k_agg, k_tup, k_cons, k_nil, k_bind, ↓c_not, ↓c_bne, ite_cond, Bool.and_eq_true, Bool.or_eq_true, beq_iff_eq, Bool.and_true, decide_eq_true_eq, Bool.false_eq_true, if_true, if_false, bne_self_eq_false, and_self, Int.reduceEq, Int.reduceLT, Int.reduceNeg, beq_self_eq_true]

theorem law_DurSums (n : Nat) (s x t y : Int) : CP C (n + 11) F_law04_DurSums [ins s x, ins t y] = some (.bool true) := by
  rw [eq_law04_DurSums]
  unfold R_law04_DurSums
  rw [sp_dur_Add (n + 2), sp_ref04_Add (n + 3), sp_dur_Sub (n + 2), sp_ref04_Sub (n + 3), sp_dur_Neg (n + 1), sp_ref04_Neg (n + 3), sp_dur_Cmp (n + 7), sp_ref03_Cmp (n + 8), sp_awake n]
  simp only [k_int, k_anyInt, k_bool, k_str, k_agg, k_tup, k_cons, k_nil, k_bind, ↓c_not, ↓c_bne, ite_cond, Bool.and_eq_true, Bool.or_eq_true, beq_iff_eq, Bool.and_true, decide_eq_true_eq, Bool.false_eq_true, if_true, if_false, bne_self_eq_false, and_self, Int.reduceEq, Int.reduceLT, Int.reduceNeg, beq_self_eq_true]

theorem words (h l : Int) (hh : IntKind.u64.has h) (hl : IntKind.u64.has l) : ∃ z : Int, (-170141183460469231731687303715884105728 ≤ z ∧ z < 170141183460469231731687303715884105728) ∧ AV.agg [.int .u64 h, .int .u64 l] = wI z := by
  have h1 : 0 ≤ h ∧ h ≤ 18446744073709551615 := hh
  have h2 : 0 ≤ l ∧ l ≤ 18446744073709551615 := hl
  refine ⟨if h ≥ 9223372036854775808 then h * 18446744073709551616 + l - 340282366920938463463374607431768211456 else h * 18446744073709551616 + l, ?_, ?_⟩
  · split <;> omega
  · unfold wI wv
    have e : (((if h ≥ 9223372036854775808 then h * 18446744073709551616 + l - 340282366920938463463374607431768211456 else h * 18446744073709551616 + l) % 340282366920938463463374607431768211456).toNat : Nat) = (h * 18446744073709551616 + l).toNat := by split <;> omega
    rw [e, show (((h * 18446744073709551616 + l).toNat / 18446744073709551616 : Nat) : Int) = h by omega, show (((h * 18446744073709551616 + l).toNat % 18446744073709551616 : Nat) : Int) = l by omega]
theorem law_DurNanos (n : Nat) (s x h l : Int) (hs : IntKind.i64.has s) (hx : IntKind.i64.has x) (hh : IntKind.u64.has h) (hl : IntKind.u64.has l) :
    CP C (n + 11) F_law04_DurNanos [ins s x, .agg [.int .u64 h, .int .u64 l]] = some (.bool true) := by
  have hs' : -9223372036854775808 ≤ s ∧ s ≤ 9223372036854775807 := hs
  have hx' : -9223372036854775808 ≤ x ∧ x ≤ 9223372036854775807 := hx
  obtain ⟨z, hz, e⟩ := words h l hh hl
  rw [e, eq_law04_DurNanos]
  unfold R_law04_DurNanos
  rw [sp_dur_Nanos (n + 6) s x hs' hx', sp_ref04_Nanos (n + 4) s x hs' hx', sp_dur_OfNanos (n + 4) z hz, sp_ref04_OfNanos (n + 4) z hz, sp_awake n]
  by_cases g : dE s x = 0
  · rw [numV_ok _ g]
    have g1 := g
    unfold dE at g1
    simp only [k_bind, k_tup, k_agg, k_cons, k_int, k_nil, k_bool]
    rw [sp_dur_OfNanos (n + 4) _ (by omega), du_of g]
    simp only [k_int, k_anyInt, k_bool, k_str, k_agg, k_tup, k_cons, k_nil, k_bind, ↓c_not, ↓c_bne, ite_cond, Bool.and_eq_true, Bool.or_eq_true, beq_iff_eq, Bool.and_true, decide_eq_true_eq, Bool.false_eq_true, if_true, if_false, bne_self_eq_false, and_self, Int.reduceEq, Int.reduceLT, Int.reduceNeg, beq_self_eq_true, bne_self_eq_false, cond_true, cond_false, Bool.and_self, Bool.not_true]
  · rw [numV_err _ g]
    simp only [k_bind, k_tup, k_agg, k_cons, k_int, k_nil, k_bool]
    rw [show (dE s x == 0) = false from beq_eq_false_iff_ne.2 g]
    simp only [k_int, k_anyInt, k_bool, k_str, k_agg, k_tup, k_cons, k_nil, k_bind, ↓c_not, ↓c_bne, ite_cond, Bool.and_eq_true, Bool.or_eq_true, beq_iff_eq, Bool.and_true, decide_eq_true_eq, Bool.false_eq_true, if_true, if_false, bne_self_eq_false, and_self, Int.reduceEq, Int.reduceLT, Int.reduceNeg, beq_self_eq_true, bne_self_eq_false, cond_true, cond_false, Bool.and_self, Bool.not_true]

theorem fd_mul_self (z n : Int) (h : n ≠ 0) : fd (z * n) n = z := by
  unfold fd
  by_cases c : n < 0
  · rw [if_pos c, show -(z * n) = z * (-n) by rw [Int.mul_neg], Int.mul_ediv_cancel _ (by omega)]
  · rw [if_neg c, Int.mul_ediv_cancel _ h]
theorem uE_eq (z : Int) : uE z = 0 ↔ din z := by unfold uE; split <;> simp_all
theorem back15 (n : Nat) (s x : Int) : J_law04_DurBack_15 (CP C (n + 10)) (n + 10) s x = some (.bool true) := by
  unfold J_law04_DurBack_15 T_law04_DurBack_15
  rw [sp_dur_Neg (n + 1)]
  have h31 : J_law04_DurBack_31 (CP C (n + 10)) (n + 10) = some (.bool true) := by
    unfold J_law04_DurBack_31 T_law04_DurBack_31
    rw [sp_awake n]; rfl
  rw [h31]
  by_cases h : dE s x = 0
  · obtain ⟨h1, h2⟩ := dE_zero.1 h
    have h3 : din (-(s * 1000000000 + x)) := by unfold din at h2 ⊢; omega
    rw [dmV_ok _ h, duV_ok h3]
    simp only [k_bind, k_tup, k_agg, k_cons, k_int, k_nil, k_bool]
    have h4 : dE (-(s * 1000000000 + x) / 1000000000) (-(s * 1000000000 + x) % 1000000000) = 0 := by rw [din_dE, if_pos h3]
    rw [sp_dur_Neg (n + 1), dmV_ok _ h4, show -(-(s * 1000000000 + x) / 1000000000 * 1000000000 + -(s * 1000000000 + x) % 1000000000) = s * 1000000000 + x by omega, du_of h]
    simp only [k_bind, k_tup, k_agg, k_cons, k_int, k_nil, k_bool, beq_self_eq_true, bne_self_eq_false, cond_true, cond_false, Bool.and_self, Bool.not_true]
    unfold J_law04_DurBack_987 T_law04_DurBack_987
    rw [h31]; rfl
  · rw [dmV_err _ h]
    simp only [k_bind, k_tup, k_agg, k_cons, k_int, k_nil, k_bool]
    rw [show (dE s x == 0) = false from beq_eq_false_iff_ne.2 h, cond_false]

theorem law_DurBack (n : Nat) (s x t y m : Int) (hs : IntKind.i64.has s) (hx : IntKind.i64.has x) (_ht : IntKind.i64.has t) (_hy : IntKind.i64.has y) (hm : IntKind.i64.has m) :
    CP C (n + 11) F_law04_DurBack [ins s x, ins t y, .int .i64 m] = some (.bool true) := by
  have hs' : -9223372036854775808 ≤ s ∧ s ≤ 9223372036854775807 := hs
  have hx' : -9223372036854775808 ≤ x ∧ x ≤ 9223372036854775807 := hx
  have hm' : -9223372036854775808 ≤ m ∧ m ≤ 9223372036854775807 := hm
  rw [eq_law04_DurBack]
  unfold R_law04_DurBack T_law04_DurBack_1
  have h15 := back15 n s x
  -- multiplied and divided again
  have mul : ((CP C (n + 10) F_dur_Mul [ins s x, .int .i64 m]).bind fun r1 => AV.tupK r1 fun l2 => consK l2 fun v3 l4 => AV.aggK v3 fun l5 => consK l5 fun v6 l7 => AV.intK .i64 v6 fun i8 => consK l7 fun v9 l10 => AV.intK .i64 v9 fun i11 => nilK l10 (consK l4 fun v12 l13 => AV.intK .i64 v12 fun i14 => nilK l13
      (cond (i14 == 0) (cond (m != 0)
        ((CP C (n + 10) F_dur_Div [.agg [.int .i64 i8, .int .i64 i11], .int .i64 m]).bind fun r1 => AV.tupK r1 fun l2 => consK l2 fun v3 l4 => AV.aggK v3 fun l5 => consK l5 fun v6 l7 => AV.intK .i64 v6 fun i50 => consK l7 fun v9 l10 => AV.intK .i64 v9 fun i53 => nilK l10 (consK l4 fun v12 l13 => AV.intK .i64 v12 fun i56 => nilK l13
          (cond (!((i50 == s) && ((i53 == x) && true))) (some (AV.bool false)) (cond (i56 != 0) (some (.bool false)) (J_law04_DurBack_15 (CP C (n + 10)) (n + 10) s x)))))
        (J_law04_DurBack_15 (CP C (n + 10)) (n + 10) s x)) (J_law04_DurBack_15 (CP C (n + 10)) (n + 10) s x)))) = some (.bool true) := by
    rw [sp_dur_Mul (n + 4) s x m hs' hx' hm', h15]
    by_cases h : dE s x = 0
    · rw [dmV_ok _ h]
      by_cases hd : din ((s * 1000000000 + x) * m)
      · rw [duV_ok hd]
        simp only [k_bind, k_tup, k_agg, k_cons, k_int, k_nil, k_bool]
        by_cases h0 : m = 0
        · rw [h0]; rfl
        · have hdE : dE ((s * 1000000000 + x) * m / 1000000000) ((s * 1000000000 + x) * m % 1000000000) = 0 := by rw [din_dE, if_pos hd]
          have hd2 := hd
          unfold din at hd2
          rw [show (m != 0) = true from bne_iff_ne.2 h0, sp_dur_Div (n + 4) _ _ m (by omega) (by omega) hm']
          have hv : dvE ((s * 1000000000 + x) * m / 1000000000) ((s * 1000000000 + x) * m % 1000000000) m = 0 := by unfold dvE; rw [if_neg h0]; exact hdE
          have he : (s * 1000000000 + x) * m / 1000000000 * 1000000000 + (s * 1000000000 + x) * m % 1000000000 = (s * 1000000000 + x) * m := by omega
          rw [dmV_ok _ hv, he, fd_mul_self _ _ h0, du_of h]
          simp only [k_bind, k_tup, k_agg, k_cons, k_int, k_nil, k_bool, beq_self_eq_true, bne_self_eq_false, cond_true, cond_false, Bool.and_self, Bool.not_true]
      · rw [duV_far hd]; rfl
    · rw [dmV_err _ h]
      simp only [k_bind, k_tup, k_agg, k_cons, k_int, k_nil, k_bool]
      rw [show (dE s x == 0) = false from beq_eq_false_iff_ne.2 h, cond_false]
  rw [sp_dur_Add (n + 2)]
  by_cases h : lst (dE s x) (dE t y) = 0
  · have h1 := (lst_zero h).1
    have h2 := (lst_zero h).2
    rw [dmV_ok _ h]
    by_cases hd : din (s * 1000000000 + x + (t * 1000000000 + y))
    · rw [duV_ok hd]
      simp only [k_bind, k_tup, k_agg, k_cons, k_int, k_nil, k_bool]
      have hdE : dE ((s * 1000000000 + x + (t * 1000000000 + y)) / 1000000000) ((s * 1000000000 + x + (t * 1000000000 + y)) % 1000000000) = 0 := by rw [din_dE, if_pos hd]
      rw [sp_dur_Sub (n + 2), hdE, h2, dmV_ok _ (show lst 0 0 = 0 from rfl), show (s * 1000000000 + x + (t * 1000000000 + y)) / 1000000000 * 1000000000 + (s * 1000000000 + x + (t * 1000000000 + y)) % 1000000000 - (t * 1000000000 + y) = s * 1000000000 + x by omega, du_of h1]
      simp only [k_bind, k_tup, k_agg, k_cons, k_int, k_nil, k_bool, beq_self_eq_true, bne_self_eq_false, cond_true, cond_false, Bool.and_self, Bool.not_true]
      exact mul
    · rw [duV_far hd]
      simp only [k_bind, k_tup, k_agg, k_cons, k_int, k_nil, k_bool]
      rw [show ((8 : Int) == 0) = false from rfl, cond_false]
      exact mul
  · rw [dmV_err _ h]
    simp only [k_bind, k_tup, k_agg, k_cons, k_int, k_nil, k_bool]
    rw [show (lst (dE s x) (dE t y) == 0) = false from beq_eq_false_iff_ne.2 h, cond_false]
    exact mul
end Go.Proofs.Ytomcohbkmlempaa.Sim.S
