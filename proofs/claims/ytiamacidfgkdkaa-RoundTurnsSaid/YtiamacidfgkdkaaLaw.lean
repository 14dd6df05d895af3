/- The laws of rounding answer true. Condition: none beyond what each theorem says. -/
import Derived.Test.YtiamacidfgkdkaaSpecRound3
set_option linter.unusedSimpArgs false
set_option linter.unusedVariables false
namespace Go.Proofs.Ytiamacidfgkdkaa.Sim.S
open Go

/-- What is wrong with a unit and a mode. -/
def aE (s n m : Int) : Int := if ¬ (0 ≤ m ∧ m ≤ 8) ∨ cmp2 s n 0 0 ≤ 0 then 5 else dE s n
theorem lst_comm (a b : Int) : lst a b = lst b a := by unfold lst; omega
theorem sp_round_check (k : Nat) (e s n m : Int) : CP C (k + 4) F_round_check [.int .i64 e, ins s n, .int .i64 m] = some (.int .i64 (lst e (aE s n m))) := by
  rw [eq_round_check]
  unfold R_round_check
  rw [sp_dur_Check (k + 2), sp_round_find (k + 2)]
  simp only [k_bind, k_tup, k_agg, k_cons, k_int, k_nil, k_bool]
  rw [sp_dur_Cmp k s n 0 0]
  simp only [k_bind, k_int]
  have fin : ∀ x : Int, (cond (x == 0) (some (AV.int .i64 e)) (cond (e != 0) (cond (decide (e < x)) (some (.int .i64 e)) (some (.int .i64 x))) (some (.int .i64 x)))) = some (.int .i64 (lst e x)) := by
    intro x
    rw [lst_comm]
    unfold lst
    simp only [k_int, k_anyInt, k_bool, k_str, k_agg, k_tup, k_cons, k_nil, k_bind, ↓c_not, ↓c_bne, ite_cond, Bool.and_eq_true, Bool.or_eq_true, beq_iff_eq, Bool.and_true, decide_eq_true_eq, Bool.false_eq_true, if_true, if_false, bne_self_eq_false, and_self, Int.reduceEq, Int.reduceLT, Int.reduceNeg, i_some, i_int, i_bool, i_agg, i_tup, i_cons, i_self, Option.some.injEq, AV.int.injEq, AV.bool.injEq, AV.agg.injEq, AV.tup.injEq, List.cons.injEq, true_and, and_true]
    omega
  have f5 := fin 5
  rw [show ((5 : Int) == 0) = false from rfl, cond_false] at f5
  unfold aE
  by_cases g : 0 ≤ m ∧ m ≤ 8
  · rw [decide_eq_true g, Bool.not_true, cond_false]
    by_cases g2 : cmp2 s n 0 0 ≤ 0
    · rw [decide_eq_true g2, cond_true, if_pos (.inr g2)]
      exact f5
    · rw [decide_eq_false g2, cond_false, if_neg (by omega)]
      exact fin _
  · rw [decide_eq_false g, Bool.not_false, cond_true, if_pos (.inl g)]
    exact f5
theorem aE_zero {s n m : Int} (h : aE s n m = 0) : (0 ≤ m ∧ m ≤ 8) ∧ dE s n = 0 ∧ 1 ≤ s * 1000000000 + n ∧ s * 1000000000 + n ≤ 1099511627776000000000 := by
  unfold aE at h
  by_cases g : ¬ (0 ≤ m ∧ m ≤ 8) ∨ cmp2 s n 0 0 ≤ 0
  · rw [if_pos g] at h; omega
  · rw [if_neg g] at h
    have h2 := dE_zero.1 h
    unfold din at h2
    unfold cmp2 cmp1 at g
    omega
theorem sp_ref05_args (k : Nat) (s n m : Int) : CP C (k + 2) F_ref05_args [ins s n, .int .i64 m] = some (.int .i64 (aE s n m)) := by
  rw [eq_ref05_args]
  unfold R_ref05_args
  rw [sp_ref03_CheckDur k]
  simp only [k_int, k_anyInt, k_bool, k_str, k_agg, k_tup, k_cons, k_nil, k_bind, ↓c_not, ↓c_bne, ite_cond, Bool.and_eq_true, Bool.or_eq_true, beq_iff_eq, Bool.and_true, decide_eq_true_eq, Bool.false_eq_true, if_true, if_false, bne_self_eq_false, and_self, Int.reduceEq, Int.reduceLT, Int.reduceNeg, i_some, i_int, i_bool, i_agg, i_tup, i_cons, i_self, Option.some.injEq, AV.int.injEq, AV.bool.injEq, AV.agg.injEq, AV.tup.injEq, List.cons.injEq, true_and, and_true]
  unfold aE dE cmp2 cmp1
  omega
theorem wide_in {s n : Int} (h : iE s n = 0) : -1267650600228229401496703205376 ≤ s * 1000000000 + n ∧ s * 1000000000 + n ≤ 1267650600228229401496703205376 := by unfold iE at h; omega
theorem wide_din {s n : Int} (h : dE s n = 0) : -1267650600228229401496703205376 ≤ s * 1000000000 + n ∧ s * 1000000000 + n ≤ 1267650600228229401496703205376 := by
  have := dE_zero.1 h; unfold din at this; omega
theorem sp_round_Instant (k : Nat) (s n t u m : Int) (hs : -9223372036854775808 ≤ t ∧ t ≤ 9223372036854775807) (hn : -9223372036854775808 ≤ u ∧ u ≤ 9223372036854775807) :
    CP C (k + 7) F_round_Instant [ins s n, ins t u, .int .i64 m] = some (errV (lst (iE s n) (aE t u m)) (rW (s * 1000000000 + n) (t * 1000000000 + u) m)) := by
  rw [eq_round_Instant]
  unfold R_round_Instant
  rw [sp_instant_Check]
  simp only [k_bind, k_int]
  rw [sp_round_check (k + 2)]
  simp only [k_bind, k_int]
  by_cases h : lst (iE s n) (aE t u m) = 0
  · obtain ⟨h1, h2⟩ := lst_zero h
    obtain ⟨a1, a2, a3, a4⟩ := aE_zero h2
    have w1 := wide_in h1
    have hok : okR (s * 1000000000 + n) (t * 1000000000 + u) m := by unfold okR; omega
    have hr := rW_rng hok
    rw [errV_ok _ h, h, show ((0 : Int) != 0) = false from rfl, cond_false, sp_instant_Nanos (k + 3), sp_dur_Nanos (k + 2) t u hs hn, numV_ok _ h1, numV_ok _ a2]
    simp only [k_bind, k_tup, k_agg, k_cons, k_int, k_nil]
    rw [sp_round_Wide k _ _ m (by omega) (by omega), rV_ok hok]
    simp only [k_bind, k_tup, k_agg, k_cons, k_int, k_nil]
    rw [sp_instant_OfNanos (k + 1) _ (by omega)]
    simp only [k_bind, k_tup, k_agg, k_cons, k_int, k_nil]
  · rw [show (lst (iE s n) (aE t u m) != 0) = true from bne_iff_ne.2 h, cond_true, errV_err _ h]
theorem sp_round_Dur (k : Nat) (s n t u m : Int) (hs' : -9223372036854775808 ≤ s ∧ s ≤ 9223372036854775807) (hn' : -9223372036854775808 ≤ n ∧ n ≤ 9223372036854775807) (hs : -9223372036854775808 ≤ t ∧ t ≤ 9223372036854775807) (hn : -9223372036854775808 ≤ u ∧ u ≤ 9223372036854775807) :
    CP C (k + 7) F_round_Dur [ins s n, ins t u, .int .i64 m] = some (dmV (lst (dE s n) (aE t u m)) (rW (s * 1000000000 + n) (t * 1000000000 + u) m)) := by
  rw [eq_round_Dur]
  unfold R_round_Dur
  rw [sp_dur_Check (k + 5)]
  simp only [k_bind, k_int]
  rw [sp_round_check (k + 2)]
  simp only [k_bind, k_int]
  by_cases h : lst (dE s n) (aE t u m) = 0
  · obtain ⟨h1, h2⟩ := lst_zero h
    obtain ⟨a1, a2, a3, a4⟩ := aE_zero h2
    have w1 := wide_din h1
    have hok : okR (s * 1000000000 + n) (t * 1000000000 + u) m := by unfold okR; omega
    have hr := rW_rng hok
    rw [dmV_ok _ h, h, show ((0 : Int) != 0) = false from rfl, cond_false, sp_dur_Nanos (k + 2) s n hs' hn', sp_dur_Nanos (k + 2) t u hs hn, numV_ok _ h1, numV_ok _ a2]
    simp only [k_bind, k_tup, k_agg, k_cons, k_int, k_nil]
    rw [sp_round_Wide k _ _ m (by omega) (by omega), rV_ok hok]
    simp only [k_bind, k_tup, k_agg, k_cons, k_int, k_nil]
    rw [sp_dur_OfNanos k _ (by omega)]
    simp only [k_bind, k_tup, k_agg, k_cons, k_int, k_nil]
  · rw [show (lst (dE s n) (aE t u m) != 0) = true from bne_iff_ne.2 h, cond_true, dmV_err _ h]
theorem sp_ref05_Instant (k : Nat) (s n t u m : Int) : CP C (k + 8) F_ref05_Instant [ins s n, ins t u, .int .i64 m] = some (errV (lst (iE s n) (aE t u m)) (rW (s * 1000000000 + n) (t * 1000000000 + u) m)) := by
  rw [eq_ref05_Instant]
  unfold R_ref05_Instant T_ref05_Instant_1
  rw [sp_ref03_Check, sp_ref05_args (k + 5)]
  simp only [k_bind, k_int]
  by_cases h : lst (iE s n) (aE t u m) = 0
  · obtain ⟨h1, h2⟩ := lst_zero h
    obtain ⟨a1, a2, a3, a4⟩ := aE_zero h2
    have w1 := wide_in h1
    have hok : okR (s * 1000000000 + n) (t * 1000000000 + u) m := by unfold okR; omega
    have hr := rW_rng hok
    rw [errV_ok _ h, h1, h2, show ((0 : Int) != 0) = false from rfl, cond_false, cond_false]
    have h1' := h1
    unfold iE at h1'
    have a2' := a2
    unfold dE at a2'
    unfold J_ref05_Instant_7 T_ref05_Instant_7
    rw [sp_ref03_Wide (k + 3) s n (by omega) (by omega), sp_ref03_Wide (k + 3) t u (by omega) (by omega)]
    simp only [k_bind, k_tup, k_agg, k_cons, k_int, k_nil]
    rw [sp_ref05_Wide (k + 2) _ _ m (by omega) (by omega), rV_ok hok]
    simp only [k_bind, k_tup, k_agg, k_cons, k_int, k_nil]
    rw [sp_ref03_OfNanos k _ (by omega)]
    simp only [k_bind, k_tup, k_agg, k_cons, k_int, k_nil]
  · rw [errV_err _ h]
    generalize iE s n = a at *
    generalize aE t u m = b at *
    generalize J_ref05_Instant_7 (CP C (k + 7)) (k + 7) m s n t u = Q
    exact first_err a b (fun e => some (.tup [.agg [.int .i64 0, .int .i64 0], .int .i64 e])) Q h
theorem sp_ref05_Dur (k : Nat) (s n t u m : Int) : CP C (k + 8) F_ref05_Dur [ins s n, ins t u, .int .i64 m] = some (dmV (lst (dE s n) (aE t u m)) (rW (s * 1000000000 + n) (t * 1000000000 + u) m)) := by
  rw [eq_ref05_Dur]
  unfold R_ref05_Dur T_ref05_Dur_1
  rw [sp_ref03_CheckDur, sp_ref05_args (k + 5)]
  simp only [k_bind, k_int]
  by_cases h : lst (dE s n) (aE t u m) = 0
  · obtain ⟨h1, h2⟩ := lst_zero h
    obtain ⟨a1, a2, a3, a4⟩ := aE_zero h2
    have w1 := wide_din h1
    have hok : okR (s * 1000000000 + n) (t * 1000000000 + u) m := by unfold okR; omega
    have hr := rW_rng hok
    rw [dmV_ok _ h, h1, h2, show ((0 : Int) != 0) = false from rfl, cond_false, cond_false]
    have h1' := h1
    unfold dE at h1'
    have a2' := a2
    unfold dE at a2'
    unfold J_ref05_Dur_7 T_ref05_Dur_7
    rw [sp_ref03_Wide (k + 3) s n (by omega) (by omega), sp_ref03_Wide (k + 3) t u (by omega) (by omega)]
    simp only [k_bind, k_tup, k_agg, k_cons, k_int, k_nil]
    rw [sp_ref05_Wide (k + 2) _ _ m (by omega) (by omega), rV_ok hok]
    simp only [k_bind, k_tup, k_agg, k_cons, k_int, k_nil]
    rw [sp_ref04_OfNanos (k + 1) _ (by omega)]
    simp only [k_bind, k_tup, k_agg, k_cons, k_int, k_nil]
  · rw [dmV_err _ h]
    generalize dE s n = a at *
    generalize aE t u m = b at *
    generalize J_ref05_Dur_7 (CP C (k + 7)) (k + 7) m s n t u = Q
    exact first_err a b (fun e => some (.tup [.agg [.int .i64 0, .int .i64 0], .int .i64 e])) Q h

theorem awake_step (n f : Nat) (m w : Int) (h1 : decide (m < 9) = true) (h2 : decide (0 ≤ m) = true) (h3 : fits (0 + ((Int.toNat m) * 1)) 1 [.int .i64 (-20), .int .i64 (-10), .int .i64 (-10), .int .i64 (-20), .int .i64 (-20), .int .i64 (-20), .int .i64 (-10), .int .i64 (-20), .int .i64 (-10)] = true)
    (h4 : nth [AV.int .i64 (-20), .int .i64 (-10), .int .i64 (-10), .int .i64 (-20), .int .i64 (-20), .int .i64 (-20), .int .i64 (-10), .int .i64 (-20), .int .i64 (-10)] (0 + ((Int.toNat m) * 1)) = .int .i64 w) (h5 : rV (-15) 10 m = .tup [wI w, .int .i64 0]) (hw : -9223372036854775808 ≤ w ∧ w ≤ 9223372036854775807) :
    J_law05_awake_116 (CP C (n + 6)) (n + 6) (f + 1) m = J_law05_awake_116 (CP C (n + 6)) (n + 6) f (IntKind.i64.wrap (m + 1)) := by
  rw [Js_law05_awake_116]
  unfold T_law05_awake_116
  have e10 : (AV.agg [.int .u64 0, .int .u64 10]) = wI 10 := rfl
  have ho : CP C (n + 6) F_ref01_Of [.int .i64 (-15)] = some (wI (-15)) := sp_ref01_Of (n + 5) (-15) (by decide)
  have hw2 : CP C (n + 6) F_ref01_Of [.int .i64 w] = some (wI w) := sp_ref01_Of (n + 5) w hw
  rw [h1, cond_true, ho]
  simp only [k_bind, k_agg, k_cons, k_int, k_nil]
  rw [e10, sp_round_Wide n (-15) 10 m (by decide) (by decide), h5]
  simp only [k_bind, k_tup, k_agg, k_cons, k_int, k_nil]
  rw [h2, Bool.and_self, cond_true, h3, cond_true, h4, show (AV.pure (AV.int .i64 w) && true) = true from rfl, cond_true, hw2]
  simp only [k_bind, k_tup, k_agg, k_cons, k_int, k_nil, beq_self_eq_true, Bool.and_self, Bool.not_true, bne_self_eq_false, cF]
theorem sp_awake (n : Nat) : CP C (n + 9) F_law05_awake [] = some (.bool true) := by
  rw [eq_law05_awake]
  unfold R_law05_awake T_law05_awake_1
  rw [show n + 8 + 300 = (n + 298) + 10 by omega]
  rw [awake_step (n + 2) _ 0 (-20) rfl rfl rfl rfl rfl (by decide), show IntKind.i64.wrap (0 + 1) = 1 from rfl, awake_step (n + 2) _ 1 (-10) rfl rfl rfl rfl rfl (by decide), show IntKind.i64.wrap (1 + 1) = 2 from rfl,
    awake_step (n + 2) _ 2 (-10) rfl rfl rfl rfl rfl (by decide), show IntKind.i64.wrap (2 + 1) = 3 from rfl, awake_step (n + 2) _ 3 (-20) rfl rfl rfl rfl rfl (by decide), show IntKind.i64.wrap (3 + 1) = 4 from rfl,
    awake_step (n + 2) _ 4 (-20) rfl rfl rfl rfl rfl (by decide), show IntKind.i64.wrap (4 + 1) = 5 from rfl, awake_step (n + 2) _ 5 (-20) rfl rfl rfl rfl rfl (by decide), show IntKind.i64.wrap (5 + 1) = 6 from rfl,
    awake_step (n + 2) _ 6 (-10) rfl rfl rfl rfl rfl (by decide), show IntKind.i64.wrap (6 + 1) = 7 from rfl, awake_step (n + 2) _ 7 (-20) rfl rfl rfl rfl rfl (by decide), show IntKind.i64.wrap (7 + 1) = 8 from rfl,
    awake_step (n + 2) _ 8 (-10) rfl rfl rfl rfl rfl (by decide), show IntKind.i64.wrap (8 + 1) = 9 from rfl]
  rw [Js_law05_awake_116]
  unfold T_law05_awake_116
  rw [show decide ((9 : Int) < 9) = false from rfl, cond_false, sp_round_Instant (n + 1) (-1) 999999999 1 0 1 (by decide) (by decide), sp_round_Dur (n + 1) 0 0 0 0 0 (by decide) (by decide) (by decide) (by decide)]
  rfl

theorem words (h l : Int) (hh : IntKind.u64.has h) (hl : IntKind.u64.has l) : ∃ z : Int, (-170141183460469231731687303715884105728 ≤ z ∧ z < 170141183460469231731687303715884105728) ∧ AV.agg [.int .u64 h, .int .u64 l] = wI z := by
  have h1 : 0 ≤ h ∧ h ≤ 18446744073709551615 := hh
  have h2 : 0 ≤ l ∧ l ≤ 18446744073709551615 := hl
  refine ⟨if h ≥ 9223372036854775808 then h * 18446744073709551616 + l - 340282366920938463463374607431768211456 else h * 18446744073709551616 + l, ?_, ?_⟩
  · split <;> omega
  · unfold wI wv
    have e : (((if h ≥ 9223372036854775808 then h * 18446744073709551616 + l - 340282366920938463463374607431768211456 else h * 18446744073709551616 + l) % 340282366920938463463374607431768211456).toNat : Nat) = (h * 18446744073709551616 + l).toNat := by split <;> omega
    rw [e, show (((h * 18446744073709551616 + l).toNat / 18446744073709551616 : Nat) : Int) = h by omega, show (((h * 18446744073709551616 + l).toNat % 18446744073709551616 : Nat) : Int) = l by omega]

theorem law_RoundWides (n : Nat) (h l h' l' m : Int) (a1 : IntKind.u64.has h) (a2 : IntKind.u64.has l) (a3 : IntKind.u64.has h') (a4 : IntKind.u64.has l') (_a5 : IntKind.i64.has m) :
    CP C (n + 10) F_law05_RoundWides [.agg [.int .u64 h, .int .u64 l], .agg [.int .u64 h', .int .u64 l'], .int .i64 m] = some (.bool true) := by
  obtain ⟨N, hN, e1⟩ := words h l a1 a2
  obtain ⟨U, hU, e2⟩ := words h' l' a3 a4
  rw [e1, e2, eq_law05_RoundWides]
  unfold R_law05_RoundWides
  rw [sp_round_Wide (n + 3) N U m hN hU, sp_ref05_Wide (n + 4) N U m hN hU, sp_awake n]
  simp only [k_bind, k_tup, k_agg, k_cons, k_int, k_nil, k_bool, beq_self_eq_true, Bool.and_self, cT]

theorem law_RoundInstants (n : Nat) (s x t u m : Int) (_a1 : IntKind.i64.has s) (_a2 : IntKind.i64.has x) (a3 : IntKind.i64.has t) (a4 : IntKind.i64.has u) (_a5 : IntKind.i64.has m) :
    CP C (n + 10) F_law05_RoundInstants [ins s x, ins t u, .int .i64 m] = some (.bool true) := by
  rw [eq_law05_RoundInstants]
  unfold R_law05_RoundInstants
  rw [sp_round_Instant (n + 2) s x t u m a3 a4, sp_ref05_Instant (n + 1), sp_awake n]
  simp only [k_bind, k_tup, k_agg, k_cons, k_int, k_nil, k_bool, beq_self_eq_true, Bool.and_self, cT]

theorem law_RoundDurs (n : Nat) (s x t u m : Int) (a1 : IntKind.i64.has s) (a2 : IntKind.i64.has x) (a3 : IntKind.i64.has t) (a4 : IntKind.i64.has u) (_a5 : IntKind.i64.has m) :
    CP C (n + 10) F_law05_RoundDurs [ins s x, ins t u, .int .i64 m] = some (.bool true) := by
  rw [eq_law05_RoundDurs]
  unfold R_law05_RoundDurs
  rw [sp_round_Dur (n + 2) s x t u m a1 a2 a3 a4, sp_ref05_Dur (n + 1), sp_awake n]
  simp only [k_bind, k_tup, k_agg, k_cons, k_int, k_nil, k_bool, beq_self_eq_true, Bool.and_self, cT]

/-- What was rounded is a multiple: not below the one, not above the next. -/
theorem rW_two (N U m : Int) : rW N U m = rW N U 0 ∨ rW N U m = rW N U 1 := by
  unfold rW
  by_cases h : rLow N U = N
  · rw [if_pos h, if_pos h]; exact .inl rfl
  · rw [if_neg h, if_neg h, if_neg h]
    rw [show upB 0 (decide (N < 0)) (decide (N / U % 2 = 0)) (cmp1 (N - rLow N U) (rLow N U + U - N)) = false from rfl, show upB 1 (decide (N < 0)) (decide (N / U % 2 = 0)) (cmp1 (N - rLow N U) (rLow N U + U - N)) = true from rfl]
    rw [if_neg (show ¬ (false = true) by decide), if_pos rfl]
    split
    · exact .inr rfl
    · exact .inl rfl
theorem low_mul (k U : Int) (hU : 1 ≤ U) : rLow (k * U) U = k * U := by
  unfold rLow; rw [Int.mul_ediv_cancel _ (by omega)]
theorem rW_low (N U m : Int) (hU : 1 ≤ U) : rLow (rW N U m) U = rW N U m := by
  have h1 : rLow (rLow N U) U = rLow N U := low_mul _ _ hU
  have h2 : rLow (rLow N U + U) U = rLow N U + U := by
    have : rLow N U + U = (N / U + 1) * U := by unfold rLow; rw [Int.add_mul, Int.one_mul]
    rw [this]; exact low_mul _ _ hU
  unfold rW
  by_cases h : rLow N U = N
  · rw [if_pos h]; exact h
  · rw [if_neg h]
    split
    · exact h2
    · exact h1
theorem rW_self (a U m : Int) (h : rLow a U = a) : rW a U m = a := by unfold rW; rw [if_pos h]
theorem rW_0 (N U : Int) (hU : 1 ≤ U) : rW N U 0 ≤ N ∧ N ≤ rW N U 1 := by
  have hr := rLow_rng N U hU
  unfold rW
  by_cases h : rLow N U = N
  · rw [if_pos h, if_pos h]; omega
  · rw [if_neg h, if_neg h, show upB 0 (decide (N < 0)) (decide (N / U % 2 = 0)) (cmp1 (N - rLow N U) (rLow N U + U - N)) = false from rfl, show upB 1 (decide (N < 0)) (decide (N / U % 2 = 0)) (cmp1 (N - rLow N U) (rLow N U + U - N)) = true from rfl]
    rw [if_neg (show ¬ (false = true) by decide), if_pos rfl]
    omega

theorem again253 (n : Nat) (U a m : Int) (ha : -170141183460469231731687303715884105728 ≤ a ∧ a < 170141183460469231731687303715884105728) (hU : -170141183460469231731687303715884105728 ≤ U ∧ U < 170141183460469231731687303715884105728) (hl : rLow a U = a) (m0 : Int) :
    J_law05_RoundAgain_253 (CP C (n + 9)) (n + 9) false (((U % 340282366920938463463374607431768211456).toNat / 18446744073709551616 : Nat) : Int) (((U % 340282366920938463463374607431768211456).toNat % 18446744073709551616 : Nat) : Int) m0 m (((a % 340282366920938463463374607431768211456).toNat / 18446744073709551616 : Nat) : Int) (((a % 340282366920938463463374607431768211456).toNat % 18446744073709551616 : Nat) : Int) = some (.bool true) := by
  unfold J_law05_RoundAgain_253 T_law05_RoundAgain_253
  rw [cond_false, sp_round_Wide (n + 3) a U m ha hU, sp_ref05_Wide (n + 4) a U m ha hU, sp_awake n]
  by_cases h : okR a U m
  · rw [rV_ok h, rW_self a U m hl]
    simp only [k_bind, k_tup, k_agg, k_cons, k_int, k_nil, k_bool, beq_self_eq_true, bne_self_eq_false, Bool.and_self, cT, cF]
  · rw [rV_err h]
    rfl
theorem law_RoundAgain (n : Nat) (h l h' l' m m' : Int) (a1 : IntKind.u64.has h) (a2 : IntKind.u64.has l) (a3 : IntKind.u64.has h') (a4 : IntKind.u64.has l') (_a5 : IntKind.i64.has m) (_a6 : IntKind.i64.has m') :
    CP C (n + 10) F_law05_RoundAgain [.agg [.int .u64 h, .int .u64 l], .agg [.int .u64 h', .int .u64 l'], .agg [.int .i64 m, .int .i64 m']] = some (.bool true) := by
  obtain ⟨N, hN, e1⟩ := words h l a1 a2
  obtain ⟨U, hU, e2⟩ := words h' l' a3 a4
  rw [e1, e2, eq_law05_RoundAgain]
  unfold R_law05_RoundAgain T_law05_RoundAgain_1
  rw [sp_round_Wide (n + 3) N U m hN hU, sp_round_Wide (n + 3) N U 0 hN hU, sp_round_Wide (n + 3) N U 1 hN hU, sp_awake n]
  by_cases g : okR N U m
  · have g0 : okR N U 0 := by unfold okR at g ⊢; omega
    have g1 : okR N U 1 := by unfold okR at g ⊢; omega
    have hU1 : 1 ≤ U := g.2.1.1
    have r := rW_rng g
    have r0 := rW_rng g0
    have r1 := rW_rng g1
    have ho := rW_0 N U hU1
    have hl := rW_low N U m hU1
    have two := rW_two N U m
    rw [rV_ok g, rV_ok g0, rV_ok g1]
    simp only [k_bind, k_tup, k_agg, k_cons, k_int, k_nil, k_bool]
    rw [show ((0 : Int) != 0) = false from rfl, cond_false, cond_false, cond_false, sp_ref01_Signed (n + 7) (rW N U 0) N (by omega) hN, sp_ref01_Signed (n + 7) (rW N U 1) N (by omega) hN]
    simp only [k_bind, k_int]
    rw [decide_eq_false (show ¬ cmp1 (rW N U 0) N > 0 by unfold cmp1; omega), cond_false, decide_eq_false (show ¬ cmp1 (rW N U 1) N < 0 by unfold cmp1; omega), cond_false]
    have key := fun m0 => again253 n U (rW N U m) m' (by omega) hU hl m0
    rcases two with t | t
    · rw [← t]
      simp only [beq_self_eq_true, Bool.and_self, Bool.not_true, cF]
      exact key _
    · rw [← t]
      simp only [beq_self_eq_true, Bool.and_self, Bool.not_true]
      rw [key]
      exact (by intro b; cases b <;> rfl : ∀ b : Bool, cond b (some (AV.bool true)) (some (.bool true)) = some (.bool true)) _
  · rw [rV_err g]
    rfl

/-- A mode that looks the other way. -/
def pairs (m t : Int) : Prop := (m = 0 ∧ t = 1) ∨ (m = 1 ∧ t = 0) ∨ (m = 2 ∧ t = 2) ∨ (m = 3 ∧ t = 3) ∨ (m = 4 ∧ t = 4) ∨ (m = 5 ∧ t = 5) ∨ (m = 6 ∧ t = 6) ∨ (m = 7 ∧ t = 8) ∨ (m = 8 ∧ t = 7)
theorem up_turn {m t : Int} (h : pairs m t) (neg even : Bool) (c : Int) : upB t (!neg) (!even) (-c) = !upB m neg even c := by
  have hc : (c > 0) ∨ (c = 0) ∨ (c < 0) := by omega
  unfold upB
  rcases h with ⟨rfl, rfl⟩ | ⟨rfl, rfl⟩ | ⟨rfl, rfl⟩ | ⟨rfl, rfl⟩ | ⟨rfl, rfl⟩ | ⟨rfl, rfl⟩ | ⟨rfl, rfl⟩ | ⟨rfl, rfl⟩ | ⟨rfl, rfl⟩
  · rfl
  · rfl
  · rfl
  · rfl
  all_goals
    rcases hc with h | h | h
    · have h2 : c ≠ 0 := by omega
      have h3 : c ≥ 0 := by omega
      have h4 : ¬ c < 0 := by omega
      have h5 : ¬ c ≤ 0 := by omega
      simp [h, h2, h3, h4, h5]
    · subst h
      simp
    · have h2 : ¬ c > 0 := by omega
      have h3 : c ≠ 0 := by omega
      have h4 : ¬ c ≥ 0 := by omega
      have h5 : c ≤ 0 := by omega
      simp [h, h2, h3, h4, h5]
theorem rW_turn {N U m t : Int} (h : pairs m t) (hU : 1 ≤ U) : rW (-N) U t = -(rW N U m) := by
  have h1 := Int.ediv_mul_add_emod N U
  have h2 := Int.emod_nonneg N (show U ≠ 0 by omega)
  have h3 := Int.emod_lt_of_pos N (show 0 < U by omega)
  by_cases g : N % U = 0
  · have hl : rLow N U = N := by unfold rLow; omega
    have hl2 : rLow (-N) U = -N := by
      have : -N = -(N / U) * U := by rw [Int.neg_mul]; unfold rLow at hl; omega
      rw [this]; exact low_mul _ _ hU
    unfold rW
    rw [if_pos hl, if_pos hl2]
  · have hl : rLow N U ≠ N := by unfold rLow; omega
    have hq : -N / U = -(N / U) - 1 := by
      have e : -N = (U - N % U) + (-(N / U) - 1) * U := by
        rw [Int.sub_mul, Int.neg_mul, Int.one_mul]; omega
      rw [e, Int.add_mul_ediv_right _ _ (by omega), Int.ediv_eq_zero_of_lt (by omega) (by omega)]
      omega
    have hl2 : rLow (-N) U = -(rLow N U) - U := by
      unfold rLow
      rw [hq, Int.sub_mul, Int.neg_mul, Int.one_mul]
    have hl3 : rLow (-N) U ≠ -N := by
      rw [hl2]; have hr := rLow_rng N U hU
      unfold rLow at *
      omega
    have hN0 : N ≠ 0 := by
      intro h0; rw [h0, Int.zero_emod] at g; exact g rfl
    have e1 : decide (-N < 0) = !decide (N < 0) := by rw [← decide_not, decide_eq_decide]; omega
    have e2 : decide (-N / U % 2 = 0) = !decide (N / U % 2 = 0) := by rw [hq, ← decide_not, decide_eq_decide]; omega
    have e3 : cmp1 (-N - (-(rLow N U) - U)) (-(rLow N U) - U + U - -N) = -(cmp1 (N - rLow N U) (rLow N U + U - N)) := by unfold cmp1; omega
    unfold rW
    rw [if_neg hl, if_neg hl3, e1, e2, hl2, e3, up_turn h]
    cases upB m (decide (N < 0)) (decide (N / U % 2 = 0)) (cmp1 (N - rLow N U) (rLow N U + U - N))
    · rw [Bool.not_false, if_pos rfl, if_neg (by decide)]; omega
    · rw [Bool.not_true, if_neg (by decide), if_pos rfl]; omega
theorem okR_turn {N U m t : Int} (h : pairs m t) : okR N U m ↔ okR (-N) U t := by
  unfold pairs at h; unfold okR; omega
theorem turn_step (n f : Nat) (N U m t : Int) (hN : -170141183460469231731687303715884105728 ≤ N ∧ N < 170141183460469231731687303715884105728) (hU : -170141183460469231731687303715884105728 ≤ U ∧ U < 170141183460469231731687303715884105728) (hp : pairs m t)
    (h1 : decide (m < 9) = true) (h2 : decide (0 ≤ m) = true) (h3 : fits (0 + ((Int.toNat m) * 1)) 1 [.int .i64 0, .int .i64 1, .int .i64 2, .int .i64 3, .int .i64 4, .int .i64 5, .int .i64 6, .int .i64 7, .int .i64 8] = true)
    (h3' : fits (0 + ((Int.toNat m) * 1)) 1 [.int .i64 1, .int .i64 0, .int .i64 2, .int .i64 3, .int .i64 4, .int .i64 5, .int .i64 6, .int .i64 8, .int .i64 7] = true)
    (h4 : nth [AV.int .i64 0, .int .i64 1, .int .i64 2, .int .i64 3, .int .i64 4, .int .i64 5, .int .i64 6, .int .i64 7, .int .i64 8] (0 + ((Int.toNat m) * 1)) = .int .i64 m)
    (h4' : nth [AV.int .i64 1, .int .i64 0, .int .i64 2, .int .i64 3, .int .i64 4, .int .i64 5, .int .i64 6, .int .i64 8, .int .i64 7] (0 + ((Int.toNat m) * 1)) = .int .i64 t) :
    J_law05_RoundTurns_244 (CP C (n + 6)) (n + 6) (f + 1) m (((N % 340282366920938463463374607431768211456).toNat / 18446744073709551616 : Nat) : Int) (((N % 340282366920938463463374607431768211456).toNat % 18446744073709551616 : Nat) : Int) (((U % 340282366920938463463374607431768211456).toNat / 18446744073709551616 : Nat) : Int) (((U % 340282366920938463463374607431768211456).toNat % 18446744073709551616 : Nat) : Int) =
    J_law05_RoundTurns_244 (CP C (n + 6)) (n + 6) f (IntKind.i64.wrap (m + 1)) (((N % 340282366920938463463374607431768211456).toNat / 18446744073709551616 : Nat) : Int) (((N % 340282366920938463463374607431768211456).toNat % 18446744073709551616 : Nat) : Int) (((U % 340282366920938463463374607431768211456).toNat / 18446744073709551616 : Nat) : Int) (((U % 340282366920938463463374607431768211456).toNat % 18446744073709551616 : Nat) : Int) := by
  rw [Js_law05_RoundTurns_244]
  unfold T_law05_RoundTurns_244
  rw [h1, cond_true, h2, Bool.and_self, cond_true, h3, cond_true, h4, show (AV.pure (AV.int .i64 m) && true) = true from rfl, cond_true, sp_round_Wide n N U m hN hU]
  simp only [k_bind, k_tup, k_agg, k_cons, k_int, k_nil]
  rw [sg_ref01_Neg (n + 3) N]
  simp only [k_bind, k_tup, k_agg, k_cons, k_int, k_nil]
  rw [cT, h3', cond_true, h4', show (AV.pure (AV.int .i64 t) && true) = true from rfl, cond_true]
  have hneg : CP C (n + 6) F_round_Wide [wI (-N), wI U, .int .i64 t] = some (rV (-N) U t) := by
    by_cases c : N = -170141183460469231731687303715884105728
    · have e : wI (-N) = wI N := by subst c; rfl
      rw [e, sp_round_Wide n N U t hN hU]
      have k1 : ¬ okR N U t := by unfold okR; omega
      have k2 : ¬ okR (-N) U t := by unfold okR; omega
      rw [rV_err k1, rV_err k2]
    · exact sp_round_Wide n (-N) U t (by omega) hU
  rw [hneg]
  by_cases g : okR N U m
  · have g2 := (okR_turn hp).1 g
    have zE : rE N U m = 0 := if_pos g
    have zZ : rZ N U m = rW N U m := if_pos g
    rw [zE, zZ, rV_ok g2, rW_turn hp g.2.1.1]
    simp only [k_bind, k_tup, k_agg, k_cons, k_int, k_nil]
    rw [sg_ref01_Neg (n + 3)]
    simp only [k_bind, k_tup, k_agg, k_cons, k_int, k_nil, beq_self_eq_true, bne_self_eq_false, Bool.and_self, Bool.not_true, cT, cF]
  · have g2 : ¬ okR (-N) U t := fun x => g ((okR_turn hp).2 x)
    have zE : rE N U m = 5 := if_neg g
    rw [zE, rV_err g2]
    simp only [k_bind, k_tup, k_agg, k_cons, k_int, k_nil, bne_self_eq_false, cF]
    rw [show ((5 : Int) == 0) = false from rfl, cond_false]
theorem law_RoundTurns (n : Nat) (h l h' l' : Int) (a1 : IntKind.u64.has h) (a2 : IntKind.u64.has l) (a3 : IntKind.u64.has h') (a4 : IntKind.u64.has l') :
    CP C (n + 10) F_law05_RoundTurns [.agg [.int .u64 h, .int .u64 l], .agg [.int .u64 h', .int .u64 l']] = some (.bool true) := by
  obtain ⟨N, hN, e1⟩ := words h l a1 a2
  obtain ⟨U, hU, e2⟩ := words h' l' a3 a4
  rw [e1, e2, eq_law05_RoundTurns]
  unfold R_law05_RoundTurns T_law05_RoundTurns_1
  rw [show n + 9 + 300 = (n + 299) + 10 by omega]
  rw [turn_step (n + 3) _ N U 0 1 hN hU (.inl ⟨rfl, rfl⟩) rfl rfl rfl rfl rfl rfl, show IntKind.i64.wrap (0 + 1) = 1 from rfl,
    turn_step (n + 3) _ N U 1 0 hN hU (.inr (.inl ⟨rfl, rfl⟩)) rfl rfl rfl rfl rfl rfl, show IntKind.i64.wrap (1 + 1) = 2 from rfl,
    turn_step (n + 3) _ N U 2 2 hN hU (.inr (.inr (.inl ⟨rfl, rfl⟩))) rfl rfl rfl rfl rfl rfl, show IntKind.i64.wrap (2 + 1) = 3 from rfl,
    turn_step (n + 3) _ N U 3 3 hN hU (.inr (.inr (.inr (.inl ⟨rfl, rfl⟩)))) rfl rfl rfl rfl rfl rfl, show IntKind.i64.wrap (3 + 1) = 4 from rfl,
    turn_step (n + 3) _ N U 4 4 hN hU (.inr (.inr (.inr (.inr (.inl ⟨rfl, rfl⟩))))) rfl rfl rfl rfl rfl rfl, show IntKind.i64.wrap (4 + 1) = 5 from rfl,
    turn_step (n + 3) _ N U 5 5 hN hU (.inr (.inr (.inr (.inr (.inr (.inl ⟨rfl, rfl⟩)))))) rfl rfl rfl rfl rfl rfl, show IntKind.i64.wrap (5 + 1) = 6 from rfl,
    turn_step (n + 3) _ N U 6 6 hN hU (.inr (.inr (.inr (.inr (.inr (.inr (.inl ⟨rfl, rfl⟩))))))) rfl rfl rfl rfl rfl rfl, show IntKind.i64.wrap (6 + 1) = 7 from rfl,
    turn_step (n + 3) _ N U 7 8 hN hU (.inr (.inr (.inr (.inr (.inr (.inr (.inr (.inl ⟨rfl, rfl⟩)))))))) rfl rfl rfl rfl rfl rfl, show IntKind.i64.wrap (7 + 1) = 8 from rfl,
    turn_step (n + 3) _ N U 8 7 hN hU (.inr (.inr (.inr (.inr (.inr (.inr (.inr (.inr ⟨rfl, rfl⟩)))))))) rfl rfl rfl rfl rfl rfl, show IntKind.i64.wrap (8 + 1) = 9 from rfl]
  rw [Js_law05_RoundTurns_244]
  unfold T_law05_RoundTurns_244
  rw [show decide ((9 : Int) < 9) = false from rfl, cond_false, sp_awake n]
  rfl
end Go.Proofs.Ytiamacidfgkdkaa.Sim.S
