/- Numbers of 128 bits, the program's way: by words. Condition: none beyond what each theorem says. -/
import Derived.Test.YthanjpmhdbcjbaaSpecWide
import Derived.Test.YthanjpmhdbcjbaaSimWord
set_option linter.unusedSimpArgs false
set_option linter.unusedVariables false
namespace Go.Proofs.Ythanjpmhdbcjbaa.Sim.S
open Go

theorem sp_Mul64 (n a b : Nat) (ha : a < 18446744073709551616) (hb : b < 18446744073709551616) :
    CP C (n + 1) F_math_bits_Mul64 [.int .u64 (a : Int), .int .u64 (b : Int)] = some (.tup [.int .u64 ((a * b / 18446744073709551616 : Nat) : Int), .int .u64 ((a * b % 18446744073709551616 : Nat) : Int)]) := by
  rw [eq_math_bits_Mul64]
  unfold R_math_bits_Mul64
  have hm := mul_halves (a / 4294967296) (a % 4294967296) (b / 4294967296) (b % 4294967296) (by omega) (by omega) (by omega) (by omega)
  rw [show a / 4294967296 * 4294967296 + a % 4294967296 = a by omega, show b / 4294967296 * 4294967296 + b % 4294967296 = b by omega] at hm
  obtain ⟨m1, m2, m3⟩ := hm
  rw [bnd_eq _ (and32 a ha), bnd_eq _ (and32 b hb)]
  have fa : Int.fdiv (a : Int) 4294967296 = ((a / 4294967296 : Nat) : Int) := fdiv_nat a 4294967296 (by decide)
  have fb : Int.fdiv (b : Int) 4294967296 = ((b / 4294967296 : Nat) : Int) := fdiv_nat b 4294967296 (by decide)
  have l00 : a % 4294967296 * (b % 4294967296) ≤ 4294967295 * 4294967295 := Nat.mul_le_mul (by omega) (by omega)
  have l10 : a / 4294967296 * (b % 4294967296) ≤ 4294967295 * 4294967295 := Nat.mul_le_mul (by omega) (by omega)
  have l01 : a % 4294967296 * (b / 4294967296) ≤ 4294967295 * 4294967295 := Nat.mul_le_mul (by omega) (by omega)
  have l11 : a / 4294967296 * (b / 4294967296) ≤ 4294967295 * 4294967295 := Nat.mul_le_mul (by omega) (by omega)
  have lab : a * b < 18446744073709551616 * 18446744073709551616 := Nat.mul_lt_mul'' ha hb
  have eab : (a : Int) * (b : Int) = ((a * b : Nat) : Int) := rfl
  have e00 : ((a % 4294967296 : Nat) : Int) * ((b % 4294967296 : Nat) : Int) = ((a % 4294967296 * (b % 4294967296) : Nat) : Int) := rfl
  have e10 : ((a / 4294967296 : Nat) : Int) * ((b % 4294967296 : Nat) : Int) = ((a / 4294967296 * (b % 4294967296) : Nat) : Int) := rfl
  have e01 : ((a % 4294967296 : Nat) : Int) * ((b / 4294967296 : Nat) : Int) = ((a % 4294967296 * (b / 4294967296) : Nat) : Int) := rfl
  have e11 : ((a / 4294967296 : Nat) : Int) * ((b / 4294967296 : Nat) : Int) = ((a / 4294967296 * (b / 4294967296) : Nat) : Int) := rfl
  rw [fa, fb, e00, e10, e11, w64u (show a % 4294967296 * (b % 4294967296) < 18446744073709551616 by omega), w64u (show a / 4294967296 * (b % 4294967296) < 18446744073709551616 by omega)]
  have f00 : Int.fdiv ((a % 4294967296 * (b % 4294967296) : Nat) : Int) 4294967296 = ((a % 4294967296 * (b % 4294967296) / 4294967296 : Nat) : Int) := fdiv_nat _ 4294967296 (by decide)
  rw [f00, bnd_eq _ (show _ = ((a / 4294967296 * (b % 4294967296) + a % 4294967296 * (b % 4294967296) / 4294967296 : Nat) : Int) from by rw [← Int.natCast_add]; exact w64u m1)]
  rw [bnd_eq _ (and32 _ m1), e01, w64u (show a % 4294967296 * (b / 4294967296) < 18446744073709551616 by omega)]
  rw [bnd_eq _ (show _ = (((a / 4294967296 * (b % 4294967296) + a % 4294967296 * (b % 4294967296) / 4294967296) % 4294967296 + a % 4294967296 * (b / 4294967296) : Nat) : Int) from by rw [← Int.natCast_add]; exact w64u m2)]
  rw [bnd_eq _ (w64u (show a / 4294967296 * (b / 4294967296) < 18446744073709551616 by omega)), eab]
  rw [show Int.fdiv ((a / 4294967296 * (b % 4294967296) + a % 4294967296 * (b % 4294967296) / 4294967296 : Nat) : Int) 4294967296 = _ from fdiv_nat _ 4294967296 (by decide),
    show Int.fdiv (((a / 4294967296 * (b % 4294967296) + a % 4294967296 * (b % 4294967296) / 4294967296) % 4294967296 + a % 4294967296 * (b / 4294967296) : Nat) : Int) 4294967296 = _ from fdiv_nat _ 4294967296 (by decide)]
  rw [bnd_eq _ (show _ = ((a * b / 18446744073709551616 : Nat) : Int) from by
    have h9 : a * b / 18446744073709551616 < 18446744073709551616 := by omega
    rw [← m3] at h9 ⊢
    rw [IntKind.wrap_u64, IntKind.wrap_u64]
    omega)]
  rw [show IntKind.u64.wrap ((a * b : Nat) : Int) = ((a * b % 18446744073709551616 : Nat) : Int) by rw [IntKind.wrap_u64]; omega]
theorem sp_wide_Mul (n a b : Nat) (ha : a < 18446744073709551616) (hb : b < 18446744073709551616) : CP C (n + 2) F_wide_Mul [.int .u64 (a : Int), .int .u64 (b : Int)] = some (wv (a * b)) := by
  rw [eq_wide_Mul]
  unfold R_wide_Mul
  rw [sp_Mul64 n a b ha hb]
  simp only [k_bind, k_tup, k_agg, k_cons, k_int, k_nil]
theorem sp_wide_Sub (n A B : Nat) (hA : A < 340282366920938463463374607431768211456) (hB : B < 340282366920938463463374607431768211456) :
    CP C (n + 1) F_wide_Sub [wv A, wv B] = some (.tup [wv ((A + (340282366920938463463374607431768211456 - B)) % 340282366920938463463374607431768211456), .bool (decide (A < B))]) := by
  rw [eq_wide_Sub]
  unfold R_wide_Sub
  simp only [Int.toNat_natCast, Nat.add_zero, Nat.sub_zero]
  rw [bnd_eq _ (show _ = (((A + (340282366920938463463374607431768211456 - B)) % 340282366920938463463374607431768211456 % 18446744073709551616 : Nat) : Int) by omega)]
  have fin : ∀ c : Nat, (c = if A % 18446744073709551616 < B % 18446744073709551616 then 1 else 0) →
      (bnd (c : Int) fun y2 => (cond (decide ((Int.toNat y2) ≤ 1))
        (bnd (((((A / 18446744073709551616) + 18446744073709551616 - (B / 18446744073709551616) - (Int.toNat y2)) % 18446744073709551616 : Nat)) : Int) fun y3 =>
          (bnd ((if (A / 18446744073709551616) < (B / 18446744073709551616) + (Int.toNat y2) then 1 else 0 : Nat) : Int) fun y4 =>
            (some (AV.tup [.agg [.int .u64 y3, .int .u64 (((A + (340282366920938463463374607431768211456 - B)) % 340282366920938463463374607431768211456 % 18446744073709551616 : Nat) : Int)], .bool (y4 == 1)])))) none))
        = some (.tup [wv ((A + (340282366920938463463374607431768211456 - B)) % 340282366920938463463374607431768211456), .bool (decide (A < B))]) := by
    intro c hc
    have hc1 : c ≤ 1 := by rw [hc]; split <;> omega
    have hc2 : (c = 1 ∧ A % 18446744073709551616 < B % 18446744073709551616) ∨ (c = 0 ∧ ¬ A % 18446744073709551616 < B % 18446744073709551616) := by rw [hc]; split <;> simp_all
    rw [bnd_eq _ rfl, Int.toNat_natCast, decide_eq_true hc1, cond_true]
    rw [bnd_eq _ (show _ = (((A + (340282366920938463463374607431768211456 - B)) % 340282366920938463463374607431768211456 / 18446744073709551616 : Nat) : Int) by omega)]
    by_cases g : A < B
    · rw [if_pos (by omega), bnd_eq _ rfl, decide_eq_true g]; rfl
    · rw [if_neg (by omega), bnd_eq _ rfl, decide_eq_false g]; rfl
  exact fin _ rfl
theorem sg_wide_Sub (n : Nat) (a b : Int) : CP C (n + 1) F_wide_Sub [wI a, wI b] = some (.tup [wI (a - b), .bool (decide ((a % 340282366920938463463374607431768211456).toNat < (b % 340282366920938463463374607431768211456).toNat))]) := by
  unfold wI
  rw [sp_wide_Sub n _ _ (by omega) (by omega)]
  rw [show ((a % 340282366920938463463374607431768211456).toNat + (340282366920938463463374607431768211456 - (b % 340282366920938463463374607431768211456).toNat)) % 340282366920938463463374607431768211456 = ((a - b) % 340282366920938463463374607431768211456).toNat by omega]
theorem sp_wide_Neg (n : Nat) (A : Nat) (hA : A < 340282366920938463463374607431768211456) :
    CP C (n + 2) F_wide_Neg [wv A] = some (wv ((340282366920938463463374607431768211456 - A) % 340282366920938463463374607431768211456)) := by
  rw [eq_wide_Neg]
  unfold R_wide_Neg
  have h := sp_wide_Sub n 0 A (by omega) hA
  rw [show wv 0 = .agg [.int .u64 0, .int .u64 0] from rfl, Nat.zero_add] at h
  rw [h]
  simp only [k_bind, k_tup, k_agg, k_cons, k_int, k_nil, k_bool]
theorem sg_wide_Neg (n : Nat) (a : Int) : CP C (n + 2) F_wide_Neg [wI a] = some (wI (-a)) := by
  unfold wI
  rw [sp_wide_Neg n _ (by omega)]
  rw [show (340282366920938463463374607431768211456 - (a % 340282366920938463463374607431768211456).toNat) % 340282366920938463463374607431768211456 = (-a % 340282366920938463463374607431768211456).toNat by omega]
theorem sp_wide_Of (n : Nat) (x : Int) (h : -9223372036854775808 ≤ x ∧ x ≤ 9223372036854775807) : CP C (n + 1) F_wide_Of [.int .i64 x] = some (wI x) := by
  rw [eq_wide_Of]
  unfold R_wide_Of wI wv
  rw [show Int.fdiv x 9223372036854775808 = x / 9223372036854775808 from Int.fdiv_eq_ediv_of_nonneg _ (by omega), IntKind.wrap_u64, IntKind.wrap_u64]
  rw [show x / 9223372036854775808 % 18446744073709551616 = (((x % 340282366920938463463374607431768211456).toNat / 18446744073709551616 : Nat) : Int) by omega, show x % 18446744073709551616 = (((x % 340282366920938463463374607431768211456).toNat % 18446744073709551616 : Nat) : Int) by omega]
theorem sp_wide_Int (n : Nat) (z : Int) (h : -170141183460469231731687303715884105728 ≤ z ∧ z < 170141183460469231731687303715884105728) :
    CP C (n + 2) F_wide_Int [wI z] = some (.tup [.int .i64 (if -9223372036854775808 ≤ z ∧ z ≤ 9223372036854775807 then z else 0), .int .i64 (if -9223372036854775808 ≤ z ∧ z ≤ 9223372036854775807 then 0 else 8)]) := by
  rw [eq_wide_Int]
  unfold R_wide_Int
  rw [sp_wide_Of n _ (by rw [IntKind.wrap_i64]; omega)]
  simp only [k_int, k_anyInt, k_bool, k_str, k_agg, k_tup, k_cons, k_nil, k_bind, ↓c_not, ↓c_bne, ite_cond, Bool.and_eq_true, Bool.or_eq_true, beq_iff_eq, Bool.and_true, decide_eq_true_eq, Bool.false_eq_true, if_true, if_false, bne_self_eq_false, and_self, Int.reduceEq, Int.reduceLT, Int.reduceNeg, i_some, i_int, i_bool, i_agg, i_tup, i_cons, i_self, Option.some.injEq, AV.int.injEq, AV.bool.injEq, AV.agg.injEq, AV.tup.injEq, List.cons.injEq, true_and, and_true]
  rw [IntKind.wrap_i64]
  omega
end Go.Proofs.Ythanjpmhdbcjbaa.Sim.S
