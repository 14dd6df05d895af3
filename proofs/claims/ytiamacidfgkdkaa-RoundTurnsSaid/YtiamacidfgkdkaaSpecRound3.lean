/- Rounding numbers. Condition: none beyond what each theorem says. -/
import Derived.Test.YtiamacidfgkdkaaSpecRound2
set_option linter.unusedSimpArgs false
set_option linter.unusedVariables false
namespace Go.Proofs.Ytiamacidfgkdkaa.Sim.S
open Go

/-- Is a number that is no multiple rounded up? -/
def upB (m : Int) (neg even : Bool) (by_ : Int) : Bool :=
  if m = 1 then true else if m = 2 then neg else if m = 3 then !neg
  else if m = 4 then (if by_ > 0 then true else if by_ = 0 then !even else false)
  else if m = 5 then (if by_ > 0 then true else if by_ = 0 then !neg else false)
  else if m = 6 then (if by_ > 0 then true else if by_ = 0 then neg else false)
  else if m = 7 then decide (by_ > 0) else if m = 8 then decide (by_ ≥ 0) else false
def rLow (N U : Int) : Int := N / U * U
def rW (N U m : Int) : Int :=
  if rLow N U = N then N else if upB m (decide (N < 0)) (decide (N / U % 2 = 0)) (cmp1 (N - rLow N U) (rLow N U + U - N)) = true then rLow N U + U else rLow N U
def okR (N U m : Int) : Prop := (-1267650600228229401496703205376 ≤ N ∧ N ≤ 1267650600228229401496703205376) ∧ (1 ≤ U ∧ U ≤ 1208925819614629174706176) ∧ (0 ≤ m ∧ m ≤ 8)
instance (N U m : Int) : Decidable (okR N U m) := by unfold okR; infer_instance
def rZ (N U m : Int) : Int := if okR N U m then rW N U m else 0
def rE (N U m : Int) : Int := if okR N U m then 0 else 5
abbrev rV (N U m : Int) : AV := .tup [wI (rZ N U m), .int .i64 (rE N U m)]
theorem rV_ok {N U m : Int} (h : okR N U m) : rV N U m = .tup [wI (rW N U m), .int .i64 0] := by unfold rV rZ rE; rw [if_pos h, if_pos h]
theorem rV_err {N U m : Int} (h : ¬ okR N U m) : rV N U m = .tup [.agg [.int .u64 0, .int .u64 0], .int .i64 5] := by unfold rV rZ rE; rw [if_neg h, if_neg h]; rfl
theorem rLow_rng (N U : Int) (hU : 1 ≤ U) : 0 ≤ N - rLow N U ∧ N - rLow N U < U := by
  unfold rLow
  have h1 := Int.ediv_mul_add_emod N U
  have h2 := Int.emod_nonneg N (show U ≠ 0 by omega)
  have h3 := Int.emod_lt_of_pos N (show 0 < U by omega)
  omega
theorem rW_rng {N U m : Int} (h : okR N U m) : -2535301200456458802993406410752 ≤ rW N U m ∧ rW N U m ≤ 2535301200456458802993406410752 := by
  obtain ⟨h1, h2, h3⟩ := h
  have hr := rLow_rng N U h2.1
  unfold rW
  split
  · omega
  · split <;> omega
theorem sp_ref05_Wide (n : Nat) (N U m : Int) (hN : -170141183460469231731687303715884105728 ≤ N ∧ N < 170141183460469231731687303715884105728) (hU : -170141183460469231731687303715884105728 ≤ U ∧ U < 170141183460469231731687303715884105728) :
    CP C (n + 5) F_ref05_Wide [wI N, wI U, .int .i64 m] = some (rV N U m) := by
  rw [eq_ref05_Wide]
  unfold R_ref05_Wide T_ref05_Wide_1
  have e1 : (AV.agg [.int .u64 0, .int .u64 1]) = wI 1 := rfl
  have e2 : (AV.agg [.int .u64 65536, .int .u64 0]) = wI 1208925819614629174706176 := rfl
  rw [e1, sp_ref01_Signed (n + 2) U 1 hU (by omega)]
  simp only [k_bind, k_int]
  by_cases g1 : U < 1
  · rw [decide_eq_true (show cmp1 U 1 < 0 by unfold cmp1; omega), cond_true, rV_err (by unfold okR; omega)]
  rw [decide_eq_false (show ¬ cmp1 U 1 < 0 by unfold cmp1; omega), cond_false, e2, sp_ref01_Cmp (n + 3) U _ (by omega) (by omega)]
  simp only [k_bind, k_int]
  by_cases g2 : U > 1208925819614629174706176
  · rw [decide_eq_true (show cmp1 U 1208925819614629174706176 > 0 by unfold cmp1; omega), cond_true, rV_err (by unfold okR; omega)]
  rw [decide_eq_false (show ¬ cmp1 U 1208925819614629174706176 > 0 by unfold cmp1; omega), cond_false, sp_ref05_out n N hN]
  simp only [k_bind, k_bool]
  by_cases g3 : N < -1267650600228229401496703205376 ∨ N > 1267650600228229401496703205376
  · rw [decide_eq_true g3, cond_true, rV_err (by unfold okR; omega)]
  rw [decide_eq_false g3, cond_false]
  by_cases g4 : m < 0
  · rw [decide_eq_true g4, cond_true, rV_err (by unfold okR; omega)]
  rw [decide_eq_false g4, cond_false]
  by_cases g5 : m > 8
  · rw [decide_eq_true g5, cond_true, rV_err (by unfold okR; omega)]
  rw [decide_eq_false g5, cond_false]
  have hok : okR N U m := by unfold okR; omega
  have hr := rLow_rng N U (by omega)
  rw [rV_ok hok, sp_ref05_Floor n N U (by omega) (by omega), show N / U * U = rLow N U from rfl]
  simp only [k_bind, k_tup, k_agg, k_cons, k_int, k_nil, k_bool]
  unfold rW
  by_cases g6 : rLow N U = N
  · rw [if_pos g6, g6]
    simp only [beq_self_eq_true, Bool.and_self, cT]
  rw [if_neg g6]
  have ne : ((((rLow N U % 340282366920938463463374607431768211456).toNat / 18446744073709551616 : Nat) : Int) == (((N % 340282366920938463463374607431768211456).toNat / 18446744073709551616 : Nat) : Int) && ((((rLow N U % 340282366920938463463374607431768211456).toNat % 18446744073709551616 : Nat) : Int) == (((N % 340282366920938463463374607431768211456).toNat % 18446744073709551616 : Nat) : Int) && true)) = false := by
    rw [Bool.and_true, Bool.and_eq_false_iff, beq_eq_false_iff_ne, beq_eq_false_iff_ne]; omega
  rw [ne, cond_false, sp_ref05_more (n + 3)]
  simp only [k_bind, k_tup, k_agg, k_cons, k_int, k_nil, k_bool]
  rw [sp_ref01_Below (n + 3) N hN, sp_ref05_near (n + 2) N (rLow N U) (rLow N U + U) (by omega) (by omega)]
  simp only [k_bind, k_int, k_bool]
  have J : ∀ b : Bool, J_ref05_Wide_1023 (CP C (n + 4)) (n + 4) b (((rLow N U % 340282366920938463463374607431768211456).toNat / 18446744073709551616 : Nat) : Int) (((rLow N U % 340282366920938463463374607431768211456).toNat % 18446744073709551616 : Nat) : Int) ((((rLow N U + U) % 340282366920938463463374607431768211456).toNat / 18446744073709551616 : Nat) : Int) ((((rLow N U + U) % 340282366920938463463374607431768211456).toNat % 18446744073709551616 : Nat) : Int) = some (.tup [wI (if b = true then rLow N U + U else rLow N U), .int .i64 0]) := by
    intro b
    unfold J_ref05_Wide_1023 T_ref05_Wide_1023
    cases b
    · rw [cond_false, if_neg (by decide)]
    · rw [cond_true, if_pos rfl]
  simp only [J]
  generalize cmp1 (N - rLow N U) (rLow N U + U - N) = c
  generalize decide (N < 0) = neg
  generalize decide (N / U % 2 = 0) = even
  have hm : m = 0 ∨ m = 1 ∨ m = 2 ∨ m = 3 ∨ m = 4 ∨ m = 5 ∨ m = 6 ∨ m = 7 ∨ m = 8 := by omega
  have hc : (c > 0) ∨ (c = 0) ∨ (c < 0) := by omega
  clear J ne hok
  unfold upB
  rcases hm with rfl | rfl | rfl | rfl | rfl | rfl | rfl | rfl | rfl
  · rfl
  · rfl
  · rfl
  · rfl
  all_goals
    rcases hc with h | h | h
    · have h2 : c ≠ 0 := by omega
      have h3 : c ≥ 0 := by omega
      simp [h, h2, h3]
    · have h2 : ¬ c > 0 := by omega
      have h3 : c ≥ 0 := by omega
      simp [h]
    · have h2 : ¬ c > 0 := by omega
      have h3 : c ≠ 0 := by omega
      have h4 : ¬ c ≥ 0 := by omega
      have h5 : (c == 0) = false := beq_eq_false_iff_ne.2 h3
      simp [h2, h3, h4, h5]
def hfB (m : Int) : Bool := if m = 0 then false else if m = 1 then false else if m = 2 then false else if m = 3 then false else true
def toW (m : Int) : Int := if m = 0 then 0 else if m = 1 then 1 else if m = 2 then 2 else if m = 3 then 3 else if m = 5 then 3 else if m = 6 then 2 else if m = 7 then 0 else if m = 8 then 1 else -1
theorem sp_round_find (n : Nat) (m : Int) : CP C (n + 1) F_round_find [.int .i64 m] = some (.tup [.agg [.bool (hfB m), .int .i64 (toW m)], .bool (decide (0 ≤ m ∧ m ≤ 8))]) := by
  rw [eq_round_find]
  unfold R_round_find
  by_cases hm : 0 ≤ m ∧ m ≤ 8
  · have hm' : m = 0 ∨ m = 1 ∨ m = 2 ∨ m = 3 ∨ m = 4 ∨ m = 5 ∨ m = 6 ∨ m = 7 ∨ m = 8 := by omega
    rcases hm' with rfl | rfl | rfl | rfl | rfl | rfl | rfl | rfl | rfl <;> rfl
  · rw [decide_eq_false hm]
    unfold hfB toW
    rw [if_neg (show ¬ m = 0 by omega), if_neg (show ¬ m = 1 by omega), if_neg (show ¬ m = 2 by omega), if_neg (show ¬ m = 3 by omega), if_neg (show ¬ m = 0 by omega), if_neg (show ¬ m = 1 by omega), if_neg (show ¬ m = 2 by omega), if_neg (show ¬ m = 3 by omega), if_neg (show ¬ m = 5 by omega), if_neg (show ¬ m = 6 by omega), if_neg (show ¬ m = 7 by omega), if_neg (show ¬ m = 8 by omega)]
    rw [show (m == 0) = false by rw [beq_eq_false_iff_ne]; omega, show (m == 1) = false by rw [beq_eq_false_iff_ne]; omega, show (m == 2) = false by rw [beq_eq_false_iff_ne]; omega, show (m == 3) = false by rw [beq_eq_false_iff_ne]; omega, show (m == 4) = false by rw [beq_eq_false_iff_ne]; omega, show (m == 5) = false by rw [beq_eq_false_iff_ne]; omega, show (m == 6) = false by rw [beq_eq_false_iff_ne]; omega, show (m == 7) = false by rw [beq_eq_false_iff_ne]; omega, show (m == 8) = false by rw [beq_eq_false_iff_ne]; omega]
    rfl
theorem sp_round_amount (n : Nat) (N : Int) (hN : -170141183460469231731687303715884105728 ≤ N ∧ N < 170141183460469231731687303715884105728) :
    CP C (n + 3) F_round_amount [wI N] = some (.tup [wv N.natAbs, .bool (decide (N < 0))]) := by
  rw [eq_round_amount]
  unfold R_round_amount
  by_cases g : N < 0
  · have hn := sg_wide_Neg n N
    rw [show wI (-N) = wv N.natAbs by unfold wI; rw [show (-N % 340282366920938463463374607431768211456).toNat = N.natAbs by omega]] at hn
    rw [decide_eq_true (show (((N % 340282366920938463463374607431768211456).toNat / 18446744073709551616 : Nat) : Int) ≥ 9223372036854775808 by omega), cond_true, hn, decide_eq_true g]
    simp only [k_bind, k_tup, k_agg, k_cons, k_int, k_nil, k_bool]
  · rw [decide_eq_false (show ¬ (((N % 340282366920938463463374607431768211456).toNat / 18446744073709551616 : Nat) : Int) ≥ 9223372036854775808 by omega), cond_false, decide_eq_false g, show (N % 340282366920938463463374607431768211456).toNat = N.natAbs by omega]
def farT (t : Int) (neg odd : Bool) : Bool := if t = 0 then neg else if t = 1 then !neg else if t = 2 then false else if t = 3 then true else odd
def farB (half : Bool) (t : Int) (neg odd : Bool) (c : Int) : Bool := if half = true then (if c ≠ 0 then decide (c > 0) else farT t neg odd) else farT t neg odd
theorem sp_round_farther (n : Nat) (half : Bool) (t : Int) (neg : Bool) (q r U : Nat) (hr : r < U) (hU : U < 340282366920938463463374607431768211456) :
    CP C (n + 3) F_round_farther [.agg [.bool half, .int .i64 t], .bool neg, wv q, wv r, wv U] = some (.bool (farB half t neg (decide (q % 2 = 1)) (cmp1 (r : Int) ((U : Int) - (r : Int))))) := by
  rw [eq_round_farther]
  unfold R_round_farther
  have hb : IntKind.u64.wrap (((BitVec.ofInt 64 ((q % 18446744073709551616 : Nat) : Int) &&& BitVec.ofInt 64 1).toNat : Nat) : Int) = ((q % 18446744073709551616 % 2 : Nat) : Int) := bit_one _ (Nat.mod_lt _ (by decide))
  have tl : (cond (t == 0) (some (AV.bool neg)) (cond (t == 1) (some (.bool (!neg))) (cond (t == 2) (some (.bool false)) (cond (t == 3) (some (.bool true))
      (bnd (IntKind.u64.wrap (((BitVec.ofInt 64 ((q % 18446744073709551616 : Nat) : Int) &&& BitVec.ofInt 64 1).toNat : Nat) : Int)) fun y18 => (some (AV.bool (y18 == 1)))))))) = some (.bool (farT t neg (decide (q % 2 = 1)))) := by
    unfold farT
    by_cases h0 : t = 0
    · rw [if_pos h0, h0]; rfl
    rw [if_neg h0, show (t == 0) = false from beq_eq_false_iff_ne.2 h0, cond_false]
    by_cases h1 : t = 1
    · rw [if_pos h1, h1]; rfl
    rw [if_neg h1, show (t == 1) = false from beq_eq_false_iff_ne.2 h1, cond_false]
    by_cases h2 : t = 2
    · rw [if_pos h2, h2]; rfl
    rw [if_neg h2, show (t == 2) = false from beq_eq_false_iff_ne.2 h2, cond_false]
    by_cases h3 : t = 3
    · rw [if_pos h3, h3]; rfl
    rw [if_neg h3, show (t == 3) = false from beq_eq_false_iff_ne.2 h3, cond_false, bnd_eq _ hb]
    rw [show (((q % 18446744073709551616 % 2 : Nat) : Int) == 1) = decide (q % 2 = 1) by rw [Bool.eq_iff_iff, beq_iff_eq, decide_eq_true_eq]; omega]
  cases half
  · rw [cond_false]
    exact tl
  · rw [cond_true]
    have hs := sp_wide_Sub (n + 1) U r hU (by omega)
    rw [show (U + (340282366920938463463374607431768211456 - r)) % 340282366920938463463374607431768211456 = U - r by omega] at hs
    rw [hs]
    simp only [k_bind, k_tup, k_agg, k_cons, k_int, k_nil, k_bool]
    have hc := sp_wide_Cmp n (r : Int) ((U - r : Nat) : Int) (by omega) (by omega)
    rw [← wI_of _ (by omega), ← wI_of _ (by omega)] at hc
    rw [hc, show ((U - r : Nat) : Int) = (U : Int) - (r : Int) by omega]
    simp only [k_bind, k_int]
    unfold farB
    rw [if_pos rfl]
    by_cases h : cmp1 (r : Int) ((U : Int) - (r : Int)) = 0
    · rw [if_neg (fun g => g h), h]
      exact tl
    · rw [if_pos h, show (cmp1 (r : Int) ((U : Int) - (r : Int)) != 0) = true from bne_iff_ne.2 h, cond_true]
/-- Whether an amount goes away from 0, and whether a number is rounded up: the same question. -/
theorem far_up (m : Int) (hm : 0 ≤ m ∧ m ≤ 8) (odd : Bool) (c : Int) :
    upB m false (!odd) c = farB (hfB m) (toW m) false odd c ∧ upB m true odd (-c) = !farB (hfB m) (toW m) true odd c := by
  have hm' : m = 0 ∨ m = 1 ∨ m = 2 ∨ m = 3 ∨ m = 4 ∨ m = 5 ∨ m = 6 ∨ m = 7 ∨ m = 8 := by omega
  have hc : (c > 0) ∨ (c = 0) ∨ (c < 0) := by omega
  unfold upB farB hfB toW farT
  rcases hm' with rfl | rfl | rfl | rfl | rfl | rfl | rfl | rfl | rfl
  · exact ⟨rfl, rfl⟩
  · exact ⟨rfl, rfl⟩
  · exact ⟨rfl, rfl⟩
  · exact ⟨rfl, rfl⟩
  all_goals
    rcases hc with h | h | h
    · have h2 : c ≠ 0 := by omega
      have h3 : c ≥ 0 := by omega
      have h4 : ¬ c < 0 := by omega
      have h5 : ¬ c ≤ 0 := by omega
      simp [h, h2, h3, h4, h5]
    · subst h
      simp
    · have h2 : ¬ c > 0 := by omega
      have h3 : c ≠ 0 := by omega
      have h4 : ¬ c ≥ 0 := by omega
      have h5 : c ≤ 0 := by omega
      simp [h, h2, h3, h4, h5]
/-- The rounded number by its amount. -/
theorem rW_amount {N U m : Int} (h : okR N U m) (hr : N.natAbs % U.toNat ≠ 0) :
    rW N U m = sgn (decide (N < 0)) (N.natAbs - N.natAbs % U.toNat + if farB (hfB m) (toW m) (decide (N < 0)) (decide (N.natAbs / U.toNat % 2 = 1)) (cmp1 ((N.natAbs % U.toNat : Nat) : Int) (U - ((N.natAbs % U.toNat : Nat) : Int))) = true then U.toNat else 0) := by
  obtain ⟨h1, h2, h3⟩ := h
  have hd := Nat.div_add_mod N.natAbs U.toNat
  have hlt : N.natAbs % U.toNat < U.toNat := Nat.mod_lt _ (by omega)
  have hUe : (U.toNat : Int) = U := by omega
  obtain ⟨fu1, fu2⟩ := far_up m h3 (decide (N.natAbs / U.toNat % 2 = 1)) (cmp1 ((N.natAbs % U.toNat : Nat) : Int) (U - ((N.natAbs % U.toNat : Nat) : Int)))
  by_cases g : N < 0
  · have hp := floor_neg N.natAbs U.toNat (by omega)
    rw [show -(N.natAbs : Int) = N by omega, hUe, if_neg hr, if_neg hr] at hp
    have hl : rLow N U = -((N.natAbs - N.natAbs % U.toNat : Nat) : Int) - U := by
      have := Int.ediv_mul_add_emod N U
      unfold rLow
      rw [hp.2] at this
      omega
    rw [decide_eq_true g] at *
    have he : decide (N / U % 2 = 0) = decide (N.natAbs / U.toNat % 2 = 1) := by rw [hp.1, decide_eq_decide]; omega
    unfold rW
    rw [if_neg (by rw [hl]; omega), he, decide_eq_true g, hl]
    have hc : cmp1 (N - (-((N.natAbs - N.natAbs % U.toNat : Nat) : Int) - U)) (-((N.natAbs - N.natAbs % U.toNat : Nat) : Int) - U + U - N) = -(cmp1 ((N.natAbs % U.toNat : Nat) : Int) (U - ((N.natAbs % U.toNat : Nat) : Int))) := by
      unfold cmp1; omega
    rw [hc, fu2]
    cases hf : farB (hfB m) (toW m) true (decide (N.natAbs / U.toNat % 2 = 1)) (cmp1 ((N.natAbs % U.toNat : Nat) : Int) (U - ((N.natAbs % U.toNat : Nat) : Int)))
    · rw [Bool.not_false, if_pos rfl, if_neg (by decide)]
      show _ = -((_ : Nat) : Int)
      omega
    · rw [Bool.not_true, if_neg (by decide), if_pos rfl]
      show _ = -((_ : Nat) : Int)
      omega
  · have hp := floor_pos N.natAbs U.toNat
    rw [show (N.natAbs : Int) = N by omega, hUe] at hp
    have hl : rLow N U = ((N.natAbs - N.natAbs % U.toNat : Nat) : Int) := by
      have := Int.ediv_mul_add_emod N U
      unfold rLow
      rw [hp.2] at this
      omega
    rw [decide_eq_false g] at *
    have he : decide (N / U % 2 = 0) = !decide (N.natAbs / U.toNat % 2 = 1) := by rw [hp.1, ← decide_not, decide_eq_decide]; omega
    unfold rW
    rw [if_neg (by rw [hl]; omega), he, decide_eq_false g, hl]
    have hc : cmp1 (N - ((N.natAbs - N.natAbs % U.toNat : Nat) : Int)) (((N.natAbs - N.natAbs % U.toNat : Nat) : Int) + U - N) = cmp1 ((N.natAbs % U.toNat : Nat) : Int) (U - ((N.natAbs % U.toNat : Nat) : Int)) := by
      unfold cmp1; omega
    rw [hc, fu1]
    cases hf : farB (hfB m) (toW m) false (decide (N.natAbs / U.toNat % 2 = 1)) (cmp1 ((N.natAbs % U.toNat : Nat) : Int) (U - ((N.natAbs % U.toNat : Nat) : Int)))
    · rw [if_neg (by decide), if_neg (by decide)]
      show _ = ((_ : Nat) : Int)
      omega
    · rw [if_pos rfl, if_pos rfl]
      show _ = ((_ : Nat) : Int)
      omega
theorem sp_round_Wide (n : Nat) (N U m : Int) (hN : -170141183460469231731687303715884105728 ≤ N ∧ N < 170141183460469231731687303715884105728) (hU : -170141183460469231731687303715884105728 ≤ U ∧ U < 170141183460469231731687303715884105728) :
    CP C (n + 6) F_round_Wide [wI N, wI U, .int .i64 m] = some (rV N U m) := by
  rw [eq_round_Wide]
  unfold R_round_Wide T_round_Wide_1
  rw [sp_round_find (n + 4) m, sp_round_amount (n + 2) N hN]
  simp only [k_bind, k_tup, k_agg, k_cons, k_int, k_nil, k_bool]
  have bad : ∀ (b0 b6 : Bool) (x2 x3 x4 x5 x7 x8 x9 : Int), ¬ okR N U m → J_round_Wide_61 (CP C (n + 5)) (n + 5) b0 true x2 x3 x4 x5 b6 x7 x8 x9 = some (rV N U m) := by
    intro b0 b6 x2 x3 x4 x5 x7 x8 x9 h
    rw [rV_err h]; rfl
  by_cases g1 : 0 ≤ m ∧ m ≤ 8
  · rw [decide_eq_true g1, Bool.not_true, cond_false]
    by_cases g2 : U = 0
    · rw [show ((((U % 340282366920938463463374607431768211456).toNat / 18446744073709551616 : Nat) : Int) == 0 && ((((U % 340282366920938463463374607431768211456).toNat % 18446744073709551616 : Nat) : Int) == 0 && true)) = true by subst g2; rfl, cond_true]
      exact bad _ _ _ _ _ _ _ _ _ (by unfold okR; omega)
    rw [show ((((U % 340282366920938463463374607431768211456).toNat / 18446744073709551616 : Nat) : Int) == 0 && ((((U % 340282366920938463463374607431768211456).toNat % 18446744073709551616 : Nat) : Int) == 0 && true)) = false by
      rw [Bool.and_true, Bool.and_eq_false_iff, beq_eq_false_iff_ne, beq_eq_false_iff_ne]; omega, cond_false]
    have e2 : (AV.agg [.int .u64 65536, .int .u64 0]) = wI 1208925819614629174706176 := rfl
    have e3 : (AV.agg [.int .u64 68719476736, .int .u64 0]) = wI 1267650600228229401496703205376 := rfl
    have hcU := sp_wide_Cmp (n + 3) (U % 340282366920938463463374607431768211456) 1208925819614629174706176 (by omega) (by omega)
    rw [show wI (U % 340282366920938463463374607431768211456) = wI U by unfold wI; rw [Int.emod_emod_of_dvd _ (Int.dvd_refl _)]] at hcU
    rw [e2, hcU]
    simp only [k_bind, k_int]
    by_cases g3 : U % 340282366920938463463374607431768211456 > 1208925819614629174706176
    · rw [decide_eq_true (show cmp1 (U % 340282366920938463463374607431768211456) 1208925819614629174706176 > 0 by unfold cmp1; omega), cond_true]
      exact bad _ _ _ _ _ _ _ _ _ (by unfold okR; omega)
    rw [decide_eq_false (show ¬ cmp1 (U % 340282366920938463463374607431768211456) 1208925819614629174706176 > 0 by unfold cmp1; omega), cond_false]
    have hcN := sp_wide_Cmp (n + 3) (N.natAbs : Int) 1267650600228229401496703205376 (by omega) (by omega)
    rw [← wI_of _ (by omega)] at hcN
    rw [e3, hcN]
    simp only [k_bind, k_int]
    by_cases g4 : (N.natAbs : Int) > 1267650600228229401496703205376
    · rw [decide_eq_true (show cmp1 (N.natAbs : Int) 1267650600228229401496703205376 > 0 by unfold cmp1; omega)]
      exact bad _ _ _ _ _ _ _ _ _ (by unfold okR; omega)
    rw [decide_eq_false (show ¬ cmp1 (N.natAbs : Int) 1267650600228229401496703205376 > 0 by unfold cmp1; omega)]
    have hok : okR N U m := by unfold okR; omega
    have hUn : (U % 340282366920938463463374607431768211456).toNat = U.toNat := by omega
    have hUp : 1 ≤ U.toNat ∧ U.toNat ≤ 1208925819614629174706176 := by omega
    have hNp : N.natAbs ≤ 1267650600228229401496703205376 := by omega
    have hrm : N.natAbs % U.toNat < U.toNat := Nat.mod_lt _ (by omega)
    have hrl : N.natAbs % U.toNat ≤ N.natAbs := Nat.mod_le _ _
    rw [rV_ok hok, hUn]
    unfold J_round_Wide_61 T_round_Wide_61
    rw [cond_false, sp_round_divide n N.natAbs U.toNat hNp hUp]
    simp only [k_bind, k_tup, k_agg, k_cons, k_int, k_nil, k_bool]
    by_cases g5 : N.natAbs % U.toNat = 0
    · rw [g5, show ((((0 : Nat) / 18446744073709551616 : Nat) : Int) == 0 && ((((0 : Nat) % 18446744073709551616 : Nat) : Int) == 0 && true)) = true by rfl, cond_true]
      have hl : rLow N U = N := by
        unfold rLow
        have h1 := Int.ediv_mul_add_emod N U
        have h2 : N % U = 0 := by
          have hUe : (U.toNat : Int) = U := by omega
          by_cases g : N < 0
          · have hp := (floor_neg N.natAbs U.toNat (by omega)).2
            rw [show -(N.natAbs : Int) = N by omega, hUe, if_pos g5] at hp; exact hp
          · have hp := (floor_pos N.natAbs U.toNat).2
            rw [show (N.natAbs : Int) = N by omega, hUe, g5] at hp; exact hp
        omega
      unfold rW
      rw [if_pos hl]
    · rw [show ((((N.natAbs % U.toNat / 18446744073709551616 : Nat) : Int)) == 0 && ((((N.natAbs % U.toNat % 18446744073709551616 : Nat) : Int)) == 0 && true)) = false by
        rw [Bool.and_true, Bool.and_eq_false_iff, beq_eq_false_iff_ne, beq_eq_false_iff_ne]; omega, cond_false]
      have hs := sp_wide_Sub (n + 4) N.natAbs (N.natAbs % U.toNat) (by omega) (by omega)
      rw [show (N.natAbs + (340282366920938463463374607431768211456 - N.natAbs % U.toNat)) % 340282366920938463463374607431768211456 = N.natAbs - N.natAbs % U.toNat by omega] at hs
      rw [hs, rW_amount hok g5]
      simp only [k_bind, k_tup, k_agg, k_cons, k_int, k_nil, k_bool]
      rw [sp_round_farther (n + 2) (hfB m) (toW m) (decide (N < 0)) (N.natAbs / U.toNat) (N.natAbs % U.toNat) U.toNat hrm (by omega), show (U.toNat : Int) = U by omega]
      simp only [k_bind, k_bool]
      have fin : ∀ V : Nat, V < 340282366920938463463374607431768211456 → (cond (decide (N < 0))
          ((CP C (n + 5) F_wide_Neg [wv V]).bind fun r51 => AV.aggK r51 fun l52 => consK l52 fun v53 l54 => AV.intK .u64 v53 fun i55 => consK l54 fun v56 l57 => AV.intK .u64 v56 fun i58 => nilK l57 (some (AV.tup [.agg [.int .u64 i55, .int .u64 i58], .int .i64 0])))
          (some (AV.tup [wv V, .int .i64 0]))) = some (.tup [wI (sgn (decide (N < 0)) V), .int .i64 0]) := by
        intro V hV
        cases decide (N < 0)
        · rw [cond_false, wI_of _ hV]; rfl
        · have hg := sg_wide_Neg (n + 3) (V : Int)
          rw [← wI_of _ hV] at hg
          rw [cond_true, hg]
          simp only [k_bind, k_agg, k_cons, k_int, k_nil]
          rfl
      cases farB (hfB m) (toW m) (decide (N < 0)) (decide (N.natAbs / U.toNat % 2 = 1)) (cmp1 ((N.natAbs % U.toNat : Nat) : Int) (U - ((N.natAbs % U.toNat : Nat) : Int)))
      · rw [cond_false, if_neg (by decide), Nat.add_zero]
        exact fin _ (by omega)
      · have ha := sp_wide_Add (n + 4) (N.natAbs - N.natAbs % U.toNat) U.toNat (by omega) (by omega)
        rw [Nat.mod_eq_of_lt (show N.natAbs - N.natAbs % U.toNat + U.toNat < 340282366920938463463374607431768211456 by omega)] at ha
        rw [cond_true, ha, if_pos rfl]
        simp only [k_bind, k_tup, k_agg, k_cons, k_int, k_nil, k_bool]
        exact fin _ (by omega)
  · rw [decide_eq_false g1, Bool.not_false, cond_true]
    exact bad _ _ _ _ _ _ _ _ _ (by unfold okR; omega)
end Go.Proofs.Ytiamacidfgkdkaa.Sim.S
