/- Rounding. Condition: none beyond what each theorem says. -/
import Derived.Test.YtiamacidfgkdkaaSpecDur
set_option linter.unusedSimpArgs false
set_option linter.unusedVariables false
namespace Go.Proofs.Ytiamacidfgkdkaa.Sim.S
open Go

theorem wI_nat {z : Int} (h : 0 ≤ z ∧ z < 340282366920938463463374607431768211456) : wI z = wv z.toNat := by
  unfold wI; rw [show (z % 340282366920938463463374607431768211456).toNat = z.toNat by omega]
theorem sp_ref01_Cmp (n : Nat) (a b : Int) (ha : 0 ≤ a ∧ a < 340282366920938463463374607431768211456) (hb : 0 ≤ b ∧ b < 340282366920938463463374607431768211456) :
    CP C (n + 1) F_ref01_Cmp [wI a, wI b] = some (.int .i64 (cmp1 a b)) := by
  rw [eq_ref01_Cmp]
  unfold R_ref01_Cmp
  simp only [k_int, k_anyInt, k_bool, k_str, k_agg, k_tup, k_cons, k_nil, k_bind, ↓c_not, ↓c_bne, ite_cond, Bool.and_eq_true, Bool.or_eq_true, beq_iff_eq, Bool.and_true, decide_eq_true_eq, Bool.false_eq_true, if_true, if_false, bne_self_eq_false, and_self, Int.reduceEq, Int.reduceLT, Int.reduceNeg, i_some, i_int, i_bool, i_agg, i_tup, i_cons, i_self, Option.some.injEq, AV.int.injEq, AV.bool.injEq, AV.agg.injEq, AV.tup.injEq, List.cons.injEq, true_and, and_true]
  unfold cmp1
  omega
theorem sp_wide_Cmp (n : Nat) (a b : Int) (ha : 0 ≤ a ∧ a < 340282366920938463463374607431768211456) (hb : 0 ≤ b ∧ b < 340282366920938463463374607431768211456) :
    CP C (n + 2) F_wide_Cmp [wI a, wI b] = some (.int .i64 (cmp1 a b)) := by
  rw [eq_wide_Cmp]
  unfold R_wide_Cmp
  rw [sg_wide_Sub n a b]
  simp only [k_bind, k_tup, k_agg, k_cons, k_int, k_nil, k_bool]
  rw [show (a % 340282366920938463463374607431768211456).toNat = a.toNat by omega, show (b % 340282366920938463463374607431768211456).toNat = b.toNat by omega]
  by_cases h : a = b
  · subst h
    rw [show cmp1 a a = 0 by unfold cmp1; omega]
    simp only [beq_self_eq_true, Bool.and_self, cond_true]
  · rw [show (((a.toNat / 18446744073709551616 : Nat) : Int) == ((b.toNat / 18446744073709551616 : Nat) : Int) && (((a.toNat % 18446744073709551616 : Nat) : Int) == ((b.toNat % 18446744073709551616 : Nat) : Int) && true)) = false by
      rw [Bool.and_true, Bool.and_eq_false_iff, beq_eq_false_iff_ne, beq_eq_false_iff_ne]; omega, cond_false]
    by_cases g : a < b
    · rw [decide_eq_true (show a.toNat < b.toNat by omega), show cmp1 a b = -1 by unfold cmp1; omega]; rfl
    · rw [decide_eq_false (show ¬ a.toNat < b.toNat by omega), show cmp1 a b = 1 by unfold cmp1; omega]; rfl
theorem sp_ref01_Signed (n : Nat) (a b : Int) (ha : -170141183460469231731687303715884105728 ≤ a ∧ a < 170141183460469231731687303715884105728) (hb : -170141183460469231731687303715884105728 ≤ b ∧ b < 170141183460469231731687303715884105728) :
    CP C (n + 2) F_ref01_Signed [wI a, wI b] = some (.int .i64 (cmp1 a b)) := by
  rw [eq_ref01_Signed]
  unfold R_ref01_Signed
  rw [sp_ref01_Below n a ha, sp_ref01_Below n b hb]
  simp only [k_bind, k_bool]
  by_cases h1 : a < 0
  · by_cases h2 : b < 0
    · have hc := sp_ref01_Cmp n (a + 340282366920938463463374607431768211456) (b + 340282366920938463463374607431768211456) (by omega) (by omega)
      rw [show wI (a + 340282366920938463463374607431768211456) = wI a by unfold wI; rw [show (a + 340282366920938463463374607431768211456) % 340282366920938463463374607431768211456 = a % 340282366920938463463374607431768211456 by omega],
        show wI (b + 340282366920938463463374607431768211456) = wI b by unfold wI; rw [show (b + 340282366920938463463374607431768211456) % 340282366920938463463374607431768211456 = b % 340282366920938463463374607431768211456 by omega]] at hc
      rw [decide_eq_true h1, decide_eq_true h2, hc]
      simp only [k_bind, k_int, beq_self_eq_true, Bool.not_true, cond_false]
      rw [show cmp1 (a + 340282366920938463463374607431768211456) (b + 340282366920938463463374607431768211456) = cmp1 a b by unfold cmp1; omega]
    · rw [decide_eq_true h1, decide_eq_false h2, show cmp1 a b = -1 by unfold cmp1; omega]; rfl
  · by_cases h2 : b < 0
    · rw [decide_eq_false h1, decide_eq_true h2, show cmp1 a b = 1 by unfold cmp1; omega]; rfl
    · rw [decide_eq_false h1, decide_eq_false h2, sp_ref01_Cmp n a b (by omega) (by omega)]
      simp only [k_bind, k_int, beq_self_eq_true, Bool.not_true, cond_false]
theorem sp_ref05_more (n : Nat) (a b : Int) : CP C (n + 1) F_ref05_more [wI a, wI b] = some (wI (a + b)) := by
  rw [eq_ref05_more]
  unfold R_ref05_more wI wv
  by_cases g : IntKind.u64.wrap ((((a % 340282366920938463463374607431768211456).toNat % 18446744073709551616 : Nat) : Int) + (((b % 340282366920938463463374607431768211456).toNat % 18446744073709551616 : Nat) : Int)) < (((a % 340282366920938463463374607431768211456).toNat % 18446744073709551616 : Nat) : Int)
  · rw [decide_eq_true g, cond_true]
    simp only [IntKind.wrap_u64, Option.some.injEq, AV.int.injEq, AV.bool.injEq, AV.agg.injEq, AV.tup.injEq, List.cons.injEq, true_and, and_true] at g ⊢
    omega
  · rw [decide_eq_false g, cond_false]
    simp only [IntKind.wrap_u64, Option.some.injEq, AV.int.injEq, AV.bool.injEq, AV.agg.injEq, AV.tup.injEq, List.cons.injEq, true_and, and_true] at g ⊢
    omega
theorem sp_ref05_less (n : Nat) (a b : Int) : CP C (n + 1) F_ref05_less [wI a, wI b] = some (wI (a - b)) := by
  rw [eq_ref05_less]
  unfold R_ref05_less wI wv
  by_cases g : (((a % 340282366920938463463374607431768211456).toNat % 18446744073709551616 : Nat) : Int) < (((b % 340282366920938463463374607431768211456).toNat % 18446744073709551616 : Nat) : Int)
  · rw [decide_eq_true g, cond_true]
    simp only [IntKind.wrap_u64, Option.some.injEq, AV.int.injEq, AV.bool.injEq, AV.agg.injEq, AV.tup.injEq, List.cons.injEq, true_and, and_true] at g ⊢
    omega
  · rw [decide_eq_false g, cond_false]
    simp only [IntKind.wrap_u64, Option.some.injEq, AV.int.injEq, AV.bool.injEq, AV.agg.injEq, AV.tup.injEq, List.cons.injEq, true_and, and_true] at g ⊢
    omega
theorem sp_ref05_near (n : Nat) (a low high : Int) (h1 : 0 ≤ a - low ∧ a - low < 340282366920938463463374607431768211456) (h2 : 0 ≤ high - a ∧ high - a < 340282366920938463463374607431768211456) :
    CP C (n + 2) F_ref05_near [wI a, wI low, wI high] = some (.int .i64 (cmp1 (a - low) (high - a))) := by
  rw [eq_ref05_near]
  unfold R_ref05_near
  rw [sp_ref05_less n, sp_ref05_less n]
  simp only [k_bind, k_tup, k_agg, k_cons, k_int, k_nil]
  rw [sp_ref01_Cmp n _ _ h1 h2]
  simp only [k_bind, k_int]
theorem sp_ref05_out (n : Nat) (z : Int) (hz : -170141183460469231731687303715884105728 ≤ z ∧ z < 170141183460469231731687303715884105728) :
    CP C (n + 4) F_ref05_out [wI z] = some (.bool (decide (z < -1267650600228229401496703205376 ∨ z > 1267650600228229401496703205376))) := by
  rw [eq_ref05_out]
  unfold R_ref05_out
  have ec : (AV.agg [.int .u64 68719476736, .int .u64 0]) = wI 1267650600228229401496703205376 := by rfl
  rw [sp_ref01_Below (n + 2) z hz]
  simp only [k_bind, k_bool]
  by_cases g : z < 0
  · rw [decide_eq_true g, cond_true, sg_ref01_Neg n]
    simp only [k_bind, k_tup, k_agg, k_cons, k_int, k_nil]
    rw [ec, sp_ref01_Cmp (n + 2) _ _ (by omega) (by omega)]
    simp only [k_bind, k_int]
    rw [show decide (cmp1 (-z) 1267650600228229401496703205376 > 0) = decide (z < -1267650600228229401496703205376 ∨ z > 1267650600228229401496703205376) by rw [decide_eq_decide]; unfold cmp1; omega]
  · rw [decide_eq_false g, cond_false, ec, sp_ref01_Cmp (n + 2) _ _ (by omega) (by omega)]
    simp only [k_bind, k_int]
    rw [show decide (cmp1 z 1267650600228229401496703205376 > 0) = decide (z < -1267650600228229401496703205376 ∨ z > 1267650600228229401496703205376) by rw [decide_eq_decide]; unfold cmp1; omega]
theorem fl_inner (n : Nat) (k : Nat) (b0 b1 : Bool) (U L G : Nat) (R : Bool → Bool → Int → Int → Int → Int → Int → Int → Int → Option AV) (hk : k ≤ 127) (hL : L < 170141183460469231731687303715884105728) (hU : U < 170141183460469231731687303715884105728) :
    ∀ (r f j : Nat), j + r = k → r + 1 < f → U * 2 ^ j < 170141183460469231731687303715884105728 →
    J_ref05_Floor_1042740 (CP C (n + 1)) (n + 1) R f b0 b1 (k : Int) true (j : Int) ((U / 18446744073709551616 : Nat) : Int) ((U % 18446744073709551616 : Nat) : Int) ((L / 18446744073709551616 : Nat) : Int) ((L % 18446744073709551616 : Nat) : Int) ((((G : Int) % 340282366920938463463374607431768211456).toNat / 18446744073709551616 : Nat) : Int) ((((G : Int) % 340282366920938463463374607431768211456).toNat % 18446744073709551616 : Nat) : Int) ((U * 2 ^ j / 18446744073709551616 : Nat) : Int) ((U * 2 ^ j % 18446744073709551616 : Nat) : Int) =
      if U * 2 ^ k ≤ L then R b0 (b1 && decide (k > 0)) ((k : Int) - 1) ((U / 18446744073709551616 : Nat) : Int) ((U % 18446744073709551616 : Nat) : Int) (((L - U * 2 ^ k) / 18446744073709551616 : Nat) : Int) (((L - U * 2 ^ k) % 18446744073709551616 : Nat) : Int) (((((G + U * 2 ^ k : Nat) : Int) % 340282366920938463463374607431768211456).toNat / 18446744073709551616 : Nat) : Int) (((((G + U * 2 ^ k : Nat) : Int) % 340282366920938463463374607431768211456).toNat % 18446744073709551616 : Nat) : Int)
      else R b0 b1 ((k : Int) - 1) ((U / 18446744073709551616 : Nat) : Int) ((U % 18446744073709551616 : Nat) : Int) ((L / 18446744073709551616 : Nat) : Int) ((L % 18446744073709551616 : Nat) : Int) ((((G : Int) % 340282366920938463463374607431768211456).toNat / 18446744073709551616 : Nat) : Int) ((((G : Int) % 340282366920938463463374607431768211456).toNat % 18446744073709551616 : Nat) : Int) := by
  intro r
  have ek : IntKind.i64.wrap ((k : Int) - 1) = (k : Int) - 1 := w64 (by omega)
  induction r with
  | zero =>
    intro f j h1 hf hu
    obtain ⟨f, rfl⟩ : ∃ f', f = f' + 1 := ⟨f - 1, by omega⟩
    have hj : j = k := by omega
    subst hj
    have fc := sp_ref01_Cmp n ((U * 2 ^ j : Nat) : Int) (L : Int) (by omega) (by omega)
    rw [← wI_of _ (by omega), ← wI_of _ (by omega)] at fc
    have fs := sp_ref05_less n (L : Int) ((U * 2 ^ j : Nat) : Int)
    rw [← wI_of _ (by omega), ← wI_of _ (by omega)] at fs
    have fm := sp_ref05_more n (G : Int) ((U * 2 ^ j : Nat) : Int)
    rw [← wI_of (U * 2 ^ j) (by omega)] at fm
    rw [Js_ref05_Floor_1042740]
    unfold T_ref05_Floor_1042740
    rw [decide_eq_false (show ¬ (j : Int) < (j : Int) by omega), cond_false, cond_true, fc]
    simp only [k_bind, k_int]
    by_cases g : U * 2 ^ j ≤ L
    · rw [decide_eq_true (show cmp1 ((U * 2 ^ j : Nat) : Int) (L : Int) ≤ 0 by unfold cmp1; omega), cond_true, if_pos g, fs]
      simp only [k_bind, k_tup, k_agg, k_cons, k_int, k_nil]
      rw [fm]
      simp only [k_bind, k_tup, k_agg, k_cons, k_int, k_nil]
      rw [ek, show ((L : Int) - ((U * 2 ^ j : Nat) : Int)) = ((L - U * 2 ^ j : Nat) : Int) by omega, show (((L - U * 2 ^ j : Nat) : Int) % 340282366920938463463374607431768211456).toNat = L - U * 2 ^ j by omega]
      rw [show decide ((j : Int) > 0) = decide (j > 0) by rw [decide_eq_decide]; omega]
      cases b1
      · rfl
      · rfl
    · rw [decide_eq_false (show ¬ cmp1 ((U * 2 ^ j : Nat) : Int) (L : Int) ≤ 0 by unfold cmp1; omega), cond_false, if_neg g, ek]
  | succ r ih =>
    intro f j h1 hf hu
    obtain ⟨f, rfl⟩ : ∃ f', f = f' + 1 := ⟨f - 1, by omega⟩
    have fm := sp_ref05_more n ((U * 2 ^ j : Nat) : Int) ((U * 2 ^ j : Nat) : Int)
    rw [← wI_of _ (by omega), show ((U * 2 ^ j : Nat) : Int) + ((U * 2 ^ j : Nat) : Int) = ((U * 2 ^ j * 2 : Nat) : Int) by omega, ← wI_of _ (by omega), Nat.mul_assoc U, ← Nat.pow_succ] at fm
    have e1 : IntKind.i64.wrap ((j : Int) + 1) = ((j + 1 : Nat) : Int) := by rw [w64 (by omega)]; omega
    rw [Js_ref05_Floor_1042740]
    unfold T_ref05_Floor_1042740
    rw [decide_eq_true (show (j : Int) < (k : Int) by omega), cond_true, cond_true, fm]
    simp only [k_bind, k_tup, k_agg, k_cons, k_int, k_nil]
    rw [e1]
    by_cases g : U * 2 ^ j < 85070591730234615865843651857942052864
    · rw [decide_eq_true (show ((U * 2 ^ j / 18446744073709551616 : Nat) : Int) < 4611686018427387904 by omega)]
      exact ih f (j + 1) (by omega) (by omega) (by rw [Nat.pow_succ, ← Nat.mul_assoc]; omega)
    · rw [decide_eq_false (show ¬ ((U * 2 ^ j / 18446744073709551616 : Nat) : Int) < 4611686018427387904 by omega)]
      have hbig : ¬ U * 2 ^ k ≤ L := by
        have hp : U * 2 ^ (j + 1) ≤ U * 2 ^ k := Nat.mul_le_mul_left _ (Nat.pow_le_pow_right (by decide) (by omega))
        rw [Nat.pow_succ, ← Nat.mul_assoc] at hp
        omega
      rw [if_neg hbig]
      obtain ⟨f, rfl⟩ : ∃ f', f = f' + 1 := ⟨f - 1, by omega⟩
      rw [Js_ref05_Floor_1042740]
      unfold T_ref05_Floor_1042740
      rw [cond_false, cond_false, ek]
      cases decide (((j + 1 : Nat) : Int) < (k : Int)) <;> rfl
theorem floor_fin (b0 : Bool) (A U Q L : Nat) (hL : L < U) (hA : A = Q * U + L) : A / U = Q ∧ A % U = L := by
  subst hA
  rw [Nat.mul_comm Q U, Nat.mul_add_div (by omega), Nat.mul_add_mod, Nat.div_eq_of_lt hL, Nat.mod_eq_of_lt hL]
  exact ⟨by omega, rfl⟩
theorem fl_outer (n : Nat) (b0 : Bool) (A U : Nat) (N : Int) (hU : 0 < U) (hU2 : U < 170141183460469231731687303715884105728) (hA : A < 170141183460469231731687303715884105728) (hN : N = if b0 then -(A : Int) else (A : Int)) :
    ∀ (c f Q L : Nat), c ≤ 128 → c < f → L < U * 2 ^ c → A = Q * (U * 2 ^ c) + L →
    J_ref05_Floor_2036 (CP C (n + 3)) (n + 3) f b0 (decide (0 < c) || decide (Q % 2 = 0)) ((c : Int) - 1) ((U / 18446744073709551616 : Nat) : Int) ((U % 18446744073709551616 : Nat) : Int) ((L / 18446744073709551616 : Nat) : Int) ((L % 18446744073709551616 : Nat) : Int) (((((Q * (U * 2 ^ c) : Nat) : Int) % 340282366920938463463374607431768211456).toNat / 18446744073709551616 : Nat) : Int) (((((Q * (U * 2 ^ c) : Nat) : Int) % 340282366920938463463374607431768211456).toNat % 18446744073709551616 : Nat) : Int) =
      some (.tup [wI (N / (U : Int) * (U : Int)), .bool (decide (N / (U : Int) % 2 = 0))]) := by
  intro c
  induction c with
  | zero =>
    intro f Q L hc hf hL hAQ
    obtain ⟨f, rfl⟩ : ∃ f', f = f' + 1 := ⟨f - 1, by omega⟩
    rw [Nat.pow_zero, Nat.mul_one] at hL hAQ ⊢
    obtain ⟨q1, q2⟩ := floor_fin b0 A U Q L hL hAQ
    rw [Js_ref05_Floor_2036]
    unfold T_ref05_Floor_2036
    rw [decide_eq_false (show ¬ (((0 : Nat) : Int) - 1 ≥ 0) by decide), cond_false, show decide (0 < 0) = false by rfl, Bool.false_or]
    cases b0
    · rw [if_neg (by decide)] at hN
      have e := (floor_pos A U).1
      rw [hN, e, q1, Bool.not_false, cond_true, show decide (((Q : Nat) : Int) % 2 = 0) = decide (Q % 2 = 0) by rw [decide_eq_decide]; omega, ← Int.natCast_mul]
    · rw [if_pos rfl] at hN
      have e := (floor_neg A U hU).1
      rw [q1, q2] at e
      rw [Bool.not_true, cond_false]
      by_cases h0 : L = 0
      · rw [if_pos h0] at e
        rw [h0, show ((((0 : Nat) / 18446744073709551616 : Nat) : Int) == 0 && ((((0 : Nat) % 18446744073709551616 : Nat) : Int) == 0 && true)) = true by rfl, cond_true, sg_ref01_Neg n]
        simp only [k_bind, k_tup, k_agg, k_cons, k_int, k_nil]
        rw [hN, e, show decide (-((Q : Nat) : Int) % 2 = 0) = decide (Q % 2 = 0) by rw [decide_eq_decide]; omega, Int.neg_mul, ← Int.natCast_mul]
      · rw [if_neg h0] at e
        have fm := sp_ref05_more (n + 2) ((Q * U : Nat) : Int) (U : Int)
        rw [← wI_of U (by omega)] at fm
        rw [show ((((L : Nat) / 18446744073709551616 : Nat) : Int) == 0 && ((((L : Nat) % 18446744073709551616 : Nat) : Int) == 0 && true)) = false by rw [Bool.and_true, Bool.and_eq_false_iff, beq_eq_false_iff_ne, beq_eq_false_iff_ne]; omega, cond_false, fm]
        simp only [k_bind, k_tup, k_agg, k_cons, k_int, k_nil]
        rw [sg_ref01_Neg n]
        simp only [k_bind, k_tup, k_agg, k_cons, k_int, k_nil]
        rw [hN, e, show (!decide (Q % 2 = 0)) = decide ((-((Q : Nat) : Int) - 1) % 2 = 0) by rw [← decide_not, decide_eq_decide]; omega]
        rw [show (-(Q : Int) - 1) * (U : Int) = -(((Q * U : Nat) : Int) + (U : Int)) by rw [Int.sub_mul, Int.neg_mul, Int.one_mul, Int.natCast_mul]; omega]
  | succ c ih =>
    intro f Q L hc hf hL hAQ
    obtain ⟨f, rfl⟩ : ∃ f', f = f' + 1 := ⟨f - 1, by omega⟩
    have hp : U * 2 ^ (c + 1) = U * 2 ^ c * 2 := by rw [Nat.pow_succ, Nat.mul_assoc]
    have hin := fl_inner (n + 2) c b0 true U L (Q * (U * 2 ^ (c + 1))) (J_ref05_Floor_2036 (CP C (n + 3)) (n + 3) f) (by omega) (by omega) hU2 c (n + 3 + 300) 0 (by omega) (by omega) (by rw [Nat.pow_zero, Nat.mul_one]; exact hU2)
    rw [Nat.pow_zero, Nat.mul_one] at hin
    rw [Js_ref05_Floor_2036]
    unfold T_ref05_Floor_2036
    rw [decide_eq_true (show (((c + 1 : Nat) : Int) - 1 ≥ 0) by omega), cond_true, show ((c + 1 : Nat) : Int) - 1 = (c : Int) by omega, show decide (0 < c + 1) = true from decide_eq_true (by omega), Bool.true_or]
    refine Eq.trans hin ?_
    rw [hp] at hL hAQ ⊢
    by_cases g : U * 2 ^ c ≤ L
    · rw [if_pos g]
      have i1 := ih f (2 * Q + 1) (L - U * 2 ^ c) (by omega) (by omega) (by omega) (by
        rw [Nat.add_mul, Nat.one_mul, Nat.mul_right_comm, hAQ, ← Nat.mul_assoc]
        generalize U * 2 ^ c = p at *
        have e : Q * p * 2 = 2 * p * Q := by rw [Nat.mul_comm Q p, Nat.mul_comm (p * Q) 2, Nat.mul_assoc]
        omega)
      rw [show (2 * Q + 1) * (U * 2 ^ c) = Q * (U * 2 ^ c * 2) + U * 2 ^ c by
        rw [Nat.add_mul, Nat.one_mul]
        generalize U * 2 ^ c = p
        rw [← Nat.mul_assoc Q p 2, Nat.mul_right_comm 2 Q p, Nat.mul_comm (2 * p) Q, ← Nat.mul_assoc, Nat.mul_right_comm]] at i1
      rw [← i1, show (decide (0 < c) || decide ((2 * Q + 1) % 2 = 0)) = (true && decide (c > 0)) by rw [decide_eq_false (show ¬ (2 * Q + 1) % 2 = 0 by omega), Bool.or_false, Bool.true_and]]
    · rw [if_neg g]
      have i1 := ih f (2 * Q) L (by omega) (by omega) (by omega) (by
        rw [hAQ]
        generalize U * 2 ^ c = p
        rw [← Nat.mul_assoc Q p 2, Nat.mul_right_comm 2 Q p, Nat.mul_comm (2 * p) Q, ← Nat.mul_assoc, Nat.mul_right_comm])
      rw [show 2 * Q * (U * 2 ^ c) = Q * (U * 2 ^ c * 2) by
        generalize U * 2 ^ c = p
        rw [← Nat.mul_assoc Q p 2, Nat.mul_right_comm 2 Q p, Nat.mul_comm (2 * p) Q, ← Nat.mul_assoc, Nat.mul_right_comm]] at i1
      rw [← i1, show (decide (0 < c) || decide ((2 * Q) % 2 = 0)) = true by rw [decide_eq_true (show (2 * Q) % 2 = 0 by omega), Bool.or_true]]
theorem sp_ref05_Floor (n : Nat) (N U : Int) (hU : 1 ≤ U ∧ U ≤ 1208925819614629174706176) (hN : -1267650600228229401496703205376 ≤ N ∧ N ≤ 1267650600228229401496703205376) :
    CP C (n + 4) F_ref05_Floor [wI N, wI U] = some (.tup [wI (N / U * U), .bool (decide (N / U % 2 = 0))]) := by
  rw [eq_ref05_Floor]
  unfold R_ref05_Floor T_ref05_Floor_1
  rw [sp_ref01_Below (n + 2) N (by omega)]
  simp only [k_bind, k_bool]
  have hUe : (U.toNat : Int) = U := by omega
  have hUm : (U % 340282366920938463463374607431768211456).toNat = U.toNat := by omega
  have big : N.natAbs < U.toNat * 2 ^ 128 := by
    have : 1 * 2 ^ 128 ≤ U.toNat * 2 ^ 128 := Nat.mul_le_mul_right _ (by omega)
    omega
  by_cases g : N < 0
  · have h := fl_outer n true N.natAbs U.toNat N (by omega) (by omega) (by omega) (by rw [if_pos rfl]; omega) 128 (n + 3 + 300) 0 N.natAbs (by omega) (by omega) big (by omega)
    rw [hUe] at h
    rw [Nat.zero_mul, show ((128 : Nat) : Int) - 1 = 127 from rfl, show (decide (0 < 128) || decide (0 % 2 = 0)) = true from rfl, show (((((0 : Nat) : Int) % 340282366920938463463374607431768211456).toNat / 18446744073709551616 : Nat) : Int) = 0 from rfl, show (((((0 : Nat) : Int) % 340282366920938463463374607431768211456).toNat % 18446744073709551616 : Nat) : Int) = 0 from rfl] at h
    rw [decide_eq_true g, cond_true, sg_ref01_Neg n]
    simp only [k_bind, k_tup, k_agg, k_cons, k_int, k_nil]
    rw [hUm, show (-N % 340282366920938463463374607431768211456).toNat = N.natAbs by omega]
    exact h
  · have h := fl_outer n false N.natAbs U.toNat N (by omega) (by omega) (by omega) (by rw [if_neg (by decide)]; omega) 128 (n + 3 + 300) 0 N.natAbs (by omega) (by omega) big (by omega)
    rw [hUe] at h
    rw [Nat.zero_mul, show ((128 : Nat) : Int) - 1 = 127 from rfl, show (decide (0 < 128) || decide (0 % 2 = 0)) = true from rfl, show (((((0 : Nat) : Int) % 340282366920938463463374607431768211456).toNat / 18446744073709551616 : Nat) : Int) = 0 from rfl, show (((((0 : Nat) : Int) % 340282366920938463463374607431768211456).toNat % 18446744073709551616 : Nat) : Int) = 0 from rfl] at h
    rw [decide_eq_false g, cond_false, hUm, show (N % 340282366920938463463374607431768211456).toNat = N.natAbs by omega]
    exact h
end Go.Proofs.Ytiamacidfgkdkaa.Sim.S
