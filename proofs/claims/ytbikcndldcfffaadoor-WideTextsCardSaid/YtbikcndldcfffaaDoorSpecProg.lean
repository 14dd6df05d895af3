/- Numbers of 128 bits, the program's way: by words. Condition: none beyond what each theorem says. -/
import Derived.Test.YtbikcndldcfffaaDoorSpecWide
import Derived.Test.YtbikcndldcfffaaDoorSimWord
set_option linter.unusedSimpArgs false
set_option linter.unusedVariables false
namespace Go.Proofs.YtbikcndldcfffaaDoor.Sim.S
open Go

theorem sp_Mul64 (n a b : Nat) (ha : a < 18446744073709551616) (hb : b < 18446744073709551616) :
    CP C (n + 1) F_math_bits_Mul64 [.int .u64 (a : Int), .int .u64 (b : Int)] = some (.tup [.int .u64 ((a * b / 18446744073709551616 : Nat) : Int), .int .u64 ((a * b % 18446744073709551616 : Nat) : Int)]) := by
  rw [eq_math_bits_Mul64]
  unfold R_math_bits_Mul64
  have hm := mul_halves (a / 4294967296) (a % 4294967296) (b / 4294967296) (b % 4294967296) (by omega) (by omega) (by omega) (by omega)
  rw [show a / 4294967296 * 4294967296 + a % 4294967296 = a by omega, show b / 4294967296 * 4294967296 + b % 4294967296 = b by omega] at hm
  obtain ⟨m1, m2, m3⟩ := hm
  rw [bnd_eq _ (and32 a ha), bnd_eq _ (and32 b hb)]
  have fa : Int.fdiv (a : Int) 4294967296 = ((a / 4294967296 : Nat) : Int) := fdiv_nat a 4294967296 (by decide)
  have fb : Int.fdiv (b : Int) 4294967296 = ((b / 4294967296 : Nat) : Int) := fdiv_nat b 4294967296 (by decide)
  have l00 : a % 4294967296 * (b % 4294967296) ≤ 4294967295 * 4294967295 := Nat.mul_le_mul (by omega) (by omega)
  have l10 : a / 4294967296 * (b % 4294967296) ≤ 4294967295 * 4294967295 := Nat.mul_le_mul (by omega) (by omega)
  have l01 : a % 4294967296 * (b / 4294967296) ≤ 4294967295 * 4294967295 := Nat.mul_le_mul (by omega) (by omega)
  have l11 : a / 4294967296 * (b / 4294967296) ≤ 4294967295 * 4294967295 := Nat.mul_le_mul (by omega) (by omega)
  have lab : a * b < 18446744073709551616 * 18446744073709551616 := Nat.mul_lt_mul'' ha hb
  have eab : (a : Int) * (b : Int) = ((a * b : Nat) : Int) := rfl
  have e00 : ((a % 4294967296 : Nat) : Int) * ((b % 4294967296 : Nat) : Int) = ((a % 4294967296 * (b % 4294967296) : Nat) : Int) := rfl
  have e10 : ((a / 4294967296 : Nat) : Int) * ((b % 4294967296 : Nat) : Int) = ((a / 4294967296 * (b % 4294967296) : Nat) : Int) := rfl
  have e01 : ((a % 4294967296 : Nat) : Int) * ((b / 4294967296 : Nat) : Int) = ((a % 4294967296 * (b / 4294967296) : Nat) : Int) := rfl
  have e11 : ((a / 4294967296 : Nat) : Int) * ((b / 4294967296 : Nat) : Int) = ((a / 4294967296 * (b / 4294967296) : Nat) : Int) := rfl
  rw [fa, fb, e00, e10, e11, w64u (show a % 4294967296 * (b % 4294967296) < 18446744073709551616 by omega), w64u (show a / 4294967296 * (b % 4294967296) < 18446744073709551616 by omega)]
  have f00 : Int.fdiv ((a % 4294967296 * (b % 4294967296) : Nat) : Int) 4294967296 = ((a % 4294967296 * (b % 4294967296) / 4294967296 : Nat) : Int) := fdiv_nat _ 4294967296 (by decide)
  rw [f00, bnd_eq _ (show _ = ((a / 4294967296 * (b % 4294967296) + a % 4294967296 * (b % 4294967296) / 4294967296 : Nat) : Int) from by rw [← Int.natCast_add]; exact w64u m1)]
  rw [bnd_eq _ (and32 _ m1), e01, w64u (show a % 4294967296 * (b / 4294967296) < 18446744073709551616 by omega)]
  rw [bnd_eq _ (show _ = (((a / 4294967296 * (b % 4294967296) + a % 4294967296 * (b % 4294967296) / 4294967296) % 4294967296 + a % 4294967296 * (b / 4294967296) : Nat) : Int) from by rw [← Int.natCast_add]; exact w64u m2)]
  rw [bnd_eq _ (w64u (show a / 4294967296 * (b / 4294967296) < 18446744073709551616 by omega)), eab]
  rw [show Int.fdiv ((a / 4294967296 * (b % 4294967296) + a % 4294967296 * (b % 4294967296) / 4294967296 : Nat) : Int) 4294967296 = _ from fdiv_nat _ 4294967296 (by decide),
    show Int.fdiv (((a / 4294967296 * (b % 4294967296) + a % 4294967296 * (b % 4294967296) / 4294967296) % 4294967296 + a % 4294967296 * (b / 4294967296) : Nat) : Int) 4294967296 = _ from fdiv_nat _ 4294967296 (by decide)]
  rw [bnd_eq _ (show _ = ((a * b / 18446744073709551616 : Nat) : Int) from by
    have h9 : a * b / 18446744073709551616 < 18446744073709551616 := by omega
    rw [← m3] at h9 ⊢
    rw [IntKind.wrap_u64, IntKind.wrap_u64]
    omega)]
  rw [show IntKind.u64.wrap ((a * b : Nat) : Int) = ((a * b % 18446744073709551616 : Nat) : Int) by rw [IntKind.wrap_u64]; omega]
theorem sp_wide_Mul (n a b : Nat) (ha : a < 18446744073709551616) (hb : b < 18446744073709551616) : CP C (n + 2) F_wide_Mul [.int .u64 (a : Int), .int .u64 (b : Int)] = some (wv (a * b)) := by
  rw [eq_wide_Mul]
  unfold R_wide_Mul
  rw [sp_Mul64 n a b ha hb]
  simp only [k_bind, k_tup, k_agg, k_cons, k_int, k_nil]
theorem sp_wide_Add (n A B : Nat) (hA : A < 340282366920938463463374607431768211456) (hB : B < 340282366920938463463374607431768211456) :
    CP C (n + 1) F_wide_Add [wv A, wv B] = some (.tup [wv ((A + B) % 340282366920938463463374607431768211456), .bool (decide (340282366920938463463374607431768211456 ≤ A + B))]) := by
  rw [eq_wide_Add]
  unfold R_wide_Add
  simp only [Int.toNat_natCast]
  rw [bnd_eq _ (show _ = (((A + B) % 340282366920938463463374607431768211456 % 18446744073709551616 : Nat) : Int) by omega)]
  rw [bnd_eq _ (show _ = (((A % 18446744073709551616 + B % 18446744073709551616) / 18446744073709551616 : Nat) : Int) by omega)]
  simp only [Int.toNat_natCast]
  rw [decide_eq_true (show (A % 18446744073709551616 + B % 18446744073709551616) / 18446744073709551616 ≤ 1 by omega), cond_true]
  rw [bnd_eq _ (show _ = (((A + B) % 340282366920938463463374607431768211456 / 18446744073709551616 : Nat) : Int) by omega)]
  rw [bnd_eq _ (show _ = (((A + B) / 340282366920938463463374607431768211456 : Nat) : Int) by omega)]
  rw [show ((((A + B) / 340282366920938463463374607431768211456 : Nat) : Int) == 1) = decide (340282366920938463463374607431768211456 ≤ A + B) by
    rw [Bool.eq_iff_iff, beq_iff_eq, decide_eq_true_eq]; omega]
theorem sg_wide_Add (n : Nat) (a b : Int) : CP C (n + 1) F_wide_Add [wI a, wI b] = some (.tup [wI (a + b), .bool (decide (340282366920938463463374607431768211456 ≤ (a % 340282366920938463463374607431768211456).toNat + (b % 340282366920938463463374607431768211456).toNat))]) := by
  unfold wI
  rw [sp_wide_Add n _ _ (by omega) (by omega)]
  rw [show ((a % 340282366920938463463374607431768211456).toNat + (b % 340282366920938463463374607431768211456).toNat) % 340282366920938463463374607431768211456 = ((a + b) % 340282366920938463463374607431768211456).toNat by omega]
theorem sp_wide_Sub (n A B : Nat) (hA : A < 340282366920938463463374607431768211456) (hB : B < 340282366920938463463374607431768211456) :
    CP C (n + 1) F_wide_Sub [wv A, wv B] = some (.tup [wv ((A + (340282366920938463463374607431768211456 - B)) % 340282366920938463463374607431768211456), .bool (decide (A < B))]) := by
  rw [eq_wide_Sub]
  unfold R_wide_Sub
  simp only [Int.toNat_natCast, Nat.add_zero, Nat.sub_zero]
  rw [bnd_eq _ (show _ = (((A + (340282366920938463463374607431768211456 - B)) % 340282366920938463463374607431768211456 % 18446744073709551616 : Nat) : Int) by omega)]
  have fin : ∀ c : Nat, (c = if A % 18446744073709551616 < B % 18446744073709551616 then 1 else 0) →
      (bnd (c : Int) fun y2 => (cond (decide ((Int.toNat y2) ≤ 1))
        (bnd (((((A / 18446744073709551616) + 18446744073709551616 - (B / 18446744073709551616) - (Int.toNat y2)) % 18446744073709551616 : Nat)) : Int) fun y3 =>
          (bnd ((if (A / 18446744073709551616) < (B / 18446744073709551616) + (Int.toNat y2) then 1 else 0 : Nat) : Int) fun y4 =>
            (some (AV.tup [.agg [.int .u64 y3, .int .u64 (((A + (340282366920938463463374607431768211456 - B)) % 340282366920938463463374607431768211456 % 18446744073709551616 : Nat) : Int)], .bool (y4 == 1)])))) none))
        = some (.tup [wv ((A + (340282366920938463463374607431768211456 - B)) % 340282366920938463463374607431768211456), .bool (decide (A < B))]) := by
    intro c hc
    have hc1 : c ≤ 1 := by rw [hc]; split <;> omega
    have hc2 : (c = 1 ∧ A % 18446744073709551616 < B % 18446744073709551616) ∨ (c = 0 ∧ ¬ A % 18446744073709551616 < B % 18446744073709551616) := by rw [hc]; split <;> simp_all
    rw [bnd_eq _ rfl, Int.toNat_natCast, decide_eq_true hc1, cond_true]
    rw [bnd_eq _ (show _ = (((A + (340282366920938463463374607431768211456 - B)) % 340282366920938463463374607431768211456 / 18446744073709551616 : Nat) : Int) by omega)]
    by_cases g : A < B
    · rw [if_pos (by omega), bnd_eq _ rfl, decide_eq_true g]; rfl
    · rw [if_neg (by omega), bnd_eq _ rfl, decide_eq_false g]; rfl
  exact fin _ rfl
theorem sg_wide_Sub (n : Nat) (a b : Int) : CP C (n + 1) F_wide_Sub [wI a, wI b] = some (.tup [wI (a - b), .bool (decide ((a % 340282366920938463463374607431768211456).toNat < (b % 340282366920938463463374607431768211456).toNat))]) := by
  unfold wI
  rw [sp_wide_Sub n _ _ (by omega) (by omega)]
  rw [show ((a % 340282366920938463463374607431768211456).toNat + (340282366920938463463374607431768211456 - (b % 340282366920938463463374607431768211456).toNat)) % 340282366920938463463374607431768211456 = ((a - b) % 340282366920938463463374607431768211456).toNat by omega]
theorem sp_wide_Neg (n : Nat) (A : Nat) (hA : A < 340282366920938463463374607431768211456) :
    CP C (n + 2) F_wide_Neg [wv A] = some (wv ((340282366920938463463374607431768211456 - A) % 340282366920938463463374607431768211456)) := by
  rw [eq_wide_Neg]
  unfold R_wide_Neg
  have h := sp_wide_Sub n 0 A (by omega) hA
  rw [show wv 0 = .agg [.int .u64 0, .int .u64 0] from rfl, Nat.zero_add] at h
  rw [h]
  simp only [k_bind, k_tup, k_agg, k_cons, k_int, k_nil, k_bool]
theorem sg_wide_Neg (n : Nat) (a : Int) : CP C (n + 2) F_wide_Neg [wI a] = some (wI (-a)) := by
  unfold wI
  rw [sp_wide_Neg n _ (by omega)]
  rw [show (340282366920938463463374607431768211456 - (a % 340282366920938463463374607431768211456).toNat) % 340282366920938463463374607431768211456 = (-a % 340282366920938463463374607431768211456).toNat by omega]
theorem sp_wide_Of (n : Nat) (x : Int) (h : -9223372036854775808 ≤ x ∧ x ≤ 9223372036854775807) : CP C (n + 1) F_wide_Of [.int .i64 x] = some (wI x) := by
  rw [eq_wide_Of]
  unfold R_wide_Of wI wv
  rw [show Int.fdiv x 9223372036854775808 = x / 9223372036854775808 from Int.fdiv_eq_ediv_of_nonneg _ (by omega), IntKind.wrap_u64, IntKind.wrap_u64]
  rw [show x / 9223372036854775808 % 18446744073709551616 = (((x % 340282366920938463463374607431768211456).toNat / 18446744073709551616 : Nat) : Int) by omega, show x % 18446744073709551616 = (((x % 340282366920938463463374607431768211456).toNat % 18446744073709551616 : Nat) : Int) by omega]
theorem sp_wide_Int (n : Nat) (z : Int) (h : -170141183460469231731687303715884105728 ≤ z ∧ z < 170141183460469231731687303715884105728) :
    CP C (n + 2) F_wide_Int [wI z] = some (.tup [.int .i64 (if -9223372036854775808 ≤ z ∧ z ≤ 9223372036854775807 then z else 0), .int .i64 (if -9223372036854775808 ≤ z ∧ z ≤ 9223372036854775807 then 0 else 8)]) := by
  rw [eq_wide_Int]
  unfold R_wide_Int
  rw [sp_wide_Of n _ (by rw [IntKind.wrap_i64]; omega)]
  simp only [k_int, k_anyInt, k_bool, k_str, k_agg, k_tup, k_cons, k_nil, k_bind, ↓c_not, ↓c_bne, ite_cond, Bool.and_eq_true, Bool.or_eq_true, beq_iff_eq, Bool.and_true, decide_eq_true_eq, Bool.false_eq_true, if_true, if_false, bne_self_eq_false, and_self, Int.reduceEq, Int.reduceLT, Int.reduceNeg, i_some, i_int, i_bool, i_agg, i_tup, i_cons, i_self, Option.some.injEq, AV.int.injEq, AV.bool.injEq, AV.agg.injEq, AV.tup.injEq, List.cons.injEq, true_and, and_true]
  rw [IntKind.wrap_i64]
  omega
theorem len_leaf (n m : Nat) (x k : Nat) (hx : 1 ≤ x ∧ x < 256) (hk : k ≤ 56) : ∃ l : Nat, 1 ≤ l ∧ l ≤ 8 ∧ 2 ^ (l - 1) ≤ x ∧ x < 2 ^ l ∧ J_math_bits_Len64_31 (CP C n) m (x : Int) (k : Int) = some (.int .i64 ((k + l : Nat) : Int)) := by
  refine ⟨Nat.log2 x + 1, by omega, ?_, ?_, ?_, ?_⟩
  · have : Nat.log2 x < 8 := (Nat.log2_lt (by omega)).2 (by omega)
    omega
  · exact Nat.log2_self_le (by omega)
  · exact Nat.lt_log2_self
  unfold J_math_bits_Len64_31 T_math_bits_Len64_31
  have e8 : IntKind.u8.wrap (x : Int) = (x : Int) := by rw [IntKind.wrap_u8]; omega
  rw [e8, decide_eq_true (show (0 : Int) ≤ (x : Int) by omega), cond_true, Int.toNat_natCast]
  have key : ∀ i : Fin 256, 1 ≤ i.val → (ByteArray.mk #[0, 1, 2, 2, 3, 3, 3, 3, 4, 4, 4, 4, 4, 4, 4, 4, 5, 5, 5, 5, 5, 5, 5, 5, 5, 5, 5, 5, 5, 5, 5, 5, 6, 6, 6, 6, 6, 6, 6, 6, 6, 6, 6, 6, 6, 6, 6, 6, 6, 6, 6, 6, 6, 6, 6, 6, 6, 6, 6, 6, 6, 6, 6, 6, 7, 7, 7, 7, 7, 7, 7, 7, 7, 7, 7, 7, 7, 7, 7, 7, 7, 7, 7, 7, 7, 7, 7, 7, 7, 7, 7, 7, 7, 7, 7, 7, 7, 7, 7, 7, 7, 7, 7, 7, 7, 7, 7, 7, 7, 7, 7, 7, 7, 7, 7, 7, 7, 7, 7, 7, 7, 7, 7, 7, 7, 7, 7, 7, 8, 8, 8, 8, 8, 8, 8, 8, 8, 8, 8, 8, 8, 8, 8, 8, 8, 8, 8, 8, 8, 8, 8, 8, 8, 8, 8, 8, 8, 8, 8, 8, 8, 8, 8, 8, 8, 8, 8, 8, 8, 8, 8, 8, 8, 8, 8, 8, 8, 8, 8, 8, 8, 8, 8, 8, 8, 8, 8, 8, 8, 8, 8, 8, 8, 8, 8, 8, 8, 8, 8, 8, 8, 8, 8, 8, 8, 8, 8, 8, 8, 8, 8, 8, 8, 8, 8, 8, 8, 8, 8, 8, 8, 8, 8, 8, 8, 8, 8, 8, 8, 8, 8, 8, 8, 8, 8, 8, 8, 8, 8, 8, 8, 8, 8, 8, 8, 8, 8, 8, 8, 8, 8, 8, 8, 8, 8, 8])[i.val]? = some (UInt8.ofNat (Nat.log2 i.val + 1)) := by
    decide +kernel
  rw [key ⟨x, hx.2⟩ hx.1]
  have hl : Nat.log2 x < 8 := (Nat.log2_lt (by omega)).2 (by omega)
  have e : ((UInt8.ofNat (Nat.log2 x + 1)).toNat : Int) = ((Nat.log2 x + 1 : Nat) : Int) := by
    rw [UInt8.toNat_ofNat']; omega
  show bnd (IntKind.i64.wrap ((k : Int) + IntKind.i64.wrap (((UInt8.ofNat (Nat.log2 x + 1)).toNat : Nat) : Int))) _ = _
  rw [e, w64 (show -9223372036854775808 ≤ ((Nat.log2 x + 1 : Nat) : Int) ∧ ((Nat.log2 x + 1 : Nat) : Int) ≤ 9223372036854775807 by omega), bnd_eq _ (show _ = ((k + (Nat.log2 x + 1) : Nat) : Int) by rw [w64 (by omega)]; omega)]
theorem sp_Len64 (n y : Nat) (h0 : 0 < y) (hy : y < 18446744073709551616) : ∃ k l : Nat, 1 ≤ l ∧ k + l ≤ 64 ∧ 2 ^ (l - 1) ≤ y / 2 ^ k ∧ y / 2 ^ k < 2 ^ l ∧ CP C (n + 1) F_math_bits_Len64 [.int .u64 (y : Int)] = some (.int .i64 ((k + l : Nat) : Int)) := by
  rw [eq_math_bits_Len64]
  unfold R_math_bits_Len64 T_math_bits_Len64_1
  have f32 : ∀ x : Nat, Int.fdiv (x : Int) 4294967296 = ((x / 4294967296 : Nat) : Int) := fun x => fdiv_nat x 4294967296 (by decide)
  have f16 : ∀ x : Nat, Int.fdiv (x : Int) 65536 = ((x / 65536 : Nat) : Int) := fun x => fdiv_nat x 65536 (by decide)
  have f8 : ∀ x : Nat, Int.fdiv (x : Int) 256 = ((x / 256 : Nat) : Int) := fun x => fdiv_nat x 256 (by decide)
  have leaf : ∀ (k x : Nat), k ≤ 56 → x = y / 2 ^ k → 1 ≤ x ∧ x < 256 → ∃ k' l : Nat, 1 ≤ l ∧ k' + l ≤ 64 ∧ 2 ^ (l - 1) ≤ y / 2 ^ k' ∧ y / 2 ^ k' < 2 ^ l ∧ J_math_bits_Len64_31 (CP C n) n (x : Int) ((k : Nat) : Int) = some (.int .i64 ((k' + l : Nat) : Int)) := by
    intro k x hk hx h1
    obtain ⟨l, a1, a2, a3, a4, a5⟩ := len_leaf n n x k h1 hk
    exact ⟨k, l, a1, by omega, hx ▸ a3, hx ▸ a4, a5⟩
  rw [f32, f16, f16, f8, f8, f8, f8]
  have d : ∀ a b c : Nat, a / b / c = a / (b * c) := fun a b c => Nat.div_div_eq_div_mul a b c
  by_cases g1 : y ≥ 4294967296
  · rw [decide_eq_true (show (y : Int) ≥ 4294967296 by omega), cond_true]
    by_cases g2 : y / 4294967296 ≥ 65536
    · rw [decide_eq_true (show ((y / 4294967296 : Nat) : Int) ≥ 65536 by omega), cond_true]
      by_cases g3 : y / 4294967296 / 65536 ≥ 256
      · rw [decide_eq_true (show ((y / 4294967296 / 65536 : Nat) : Int) ≥ 256 by omega), cond_true]
        exact leaf 56 _ (by omega) (by rw [d, d]) (by omega)
      · rw [decide_eq_false (show ¬ ((y / 4294967296 / 65536 : Nat) : Int) ≥ 256 by omega), cond_false]
        exact leaf 48 _ (by omega) (by rw [d]) (by omega)
    · rw [decide_eq_false (show ¬ ((y / 4294967296 : Nat) : Int) ≥ 65536 by omega), cond_false]
      by_cases g3 : y / 4294967296 ≥ 256
      · rw [decide_eq_true (show ((y / 4294967296 : Nat) : Int) ≥ 256 by omega), cond_true]
        exact leaf 40 _ (by omega) (by rw [d]) (by omega)
      · rw [decide_eq_false (show ¬ ((y / 4294967296 : Nat) : Int) ≥ 256 by omega), cond_false]
        exact leaf 32 _ (by omega) rfl (by omega)
  · rw [decide_eq_false (show ¬ (y : Int) ≥ 4294967296 by omega), cond_false]
    by_cases g2 : y ≥ 65536
    · rw [decide_eq_true (show (y : Int) ≥ 65536 by omega), cond_true]
      by_cases g3 : y / 65536 ≥ 256
      · rw [decide_eq_true (show ((y / 65536 : Nat) : Int) ≥ 256 by omega), cond_true]
        exact leaf 24 _ (by omega) (by rw [d]) (by omega)
      · rw [decide_eq_false (show ¬ ((y / 65536 : Nat) : Int) ≥ 256 by omega), cond_false]
        exact leaf 16 _ (by omega) rfl (by omega)
    · rw [decide_eq_false (show ¬ (y : Int) ≥ 65536 by omega), cond_false]
      by_cases g3 : y ≥ 256
      · rw [decide_eq_true (show (y : Int) ≥ 256 by omega), cond_true]
        exact leaf 8 _ (by omega) rfl (by omega)
      · rw [decide_eq_false (show ¬ (y : Int) ≥ 256 by omega), cond_false]
        exact leaf 0 _ (by omega) (by rw [Nat.pow_zero, Nat.div_one]) (by omega)
theorem sp_Leading (n y : Nat) (h0 : 0 < y) (hy : y < 18446744073709551616) : ∃ s : Nat, s < 64 ∧ 9223372036854775808 ≤ y * 2 ^ s ∧ y * 2 ^ s < 18446744073709551616 ∧ CP C (n + 2) F_math_bits_LeadingZeros64 [.int .u64 (y : Int)] = some (.int .i64 (s : Int)) := by
  obtain ⟨k, l, a1, a2, a3, a4, a5⟩ := sp_Len64 n y h0 hy
  obtain ⟨b1, b2⟩ := norm y k l a3 a4 a1 a2
  refine ⟨64 - (k + l), by omega, b1, b2, ?_⟩
  rw [eq_math_bits_LeadingZeros64]
  unfold R_math_bits_LeadingZeros64
  rw [a5]
  simp only [k_bind, k_int]
  rw [w64 (by omega), show (64 : Int) - ((k + l : Nat) : Int) = ((64 - (k + l) : Nat) : Int) by omega]
theorem div_fin (Y q1 u u0 Q s : Nat) (hYp : 0 < Y) (hY : Y < 18446744073709551616) (hu0 : u0 < 4294967296) (hq1 : q1 < 4294967296) (hq0 : Q < 4294967296) (hQ : Q = (u * 4294967296 + u0) / Y) (hs : s < 64) :
    (bnd (IntKind.u64.wrap ((IntKind.u64.wrap ((q1 : Int) * 4294967296)) + (Q : Int))) fun y1 =>
     (bnd (IntKind.u64.wrap ((IntKind.u64.wrap ((u : Int) * 4294967296)) + (u0 : Int))) fun y2 =>
     (bnd (IntKind.u64.wrap (y2 - (IntKind.u64.wrap ((Q : Int) * (Y : Int))))) fun y3 =>
     (cond (decide ((s : Int) < 0)) none (some (AV.tup [.int .u64 y1, .int .u64 (Int.fdiv y3 (2 ^ (min (Int.toNat (s : Int)) 64)))]))))))
    = some (.tup [.int .u64 ((q1 * 4294967296 + (u * 4294967296 + u0) / Y : Nat) : Int), .int .u64 (((u * 4294967296 + u0) % Y / 2 ^ s : Nat) : Int)]) := by
  rw [bnd_eq _ (show _ = ((q1 * 4294967296 + (u * 4294967296 + u0) / Y : Nat) : Int) by
    rw [← hQ, IntKind.wrap_u64, IntKind.wrap_u64]; omega)]
  rw [bnd_eq _ rfl, bnd_eq _ (kn_rest Y u u0 Q hYp hY hu0 hQ), decide_eq_false (show ¬ ((s : Int) < 0) by omega), cond_false, Int.toNat_natCast, Nat.min_eq_left (by omega)]
  rw [show ((2 : Int) ^ s) = ((2 ^ s : Nat) : Int) by simp, fdiv_nat _ _ (Nat.two_pow_pos s)]
theorem div_lp2 (n Y s y1 y0 u0 q1 u : Nat) (hY : Y < 18446744073709551616) (hq1 : q1 < 4294967296) (hs : s < 64) : ∀ (r f q rh : Nat), r < f → 4294967296 ≤ rh + r * y1 → Kn Y y1 y0 u u0 q rh →
    J_math_bits_Div64_4194296 (CP C n) n f (Y : Int) (s : Int) (y1 : Int) (y0 : Int) (u0 : Int) (q1 : Int) (rh : Int) (u : Int) (q : Int) =
      some (.tup [.int .u64 ((q1 * 4294967296 + (u * 4294967296 + u0) / Y : Nat) : Int), .int .u64 (((u * 4294967296 + u0) % Y / 2 ^ s : Nat) : Int)]) := by
  intro r
  induction r with
  | zero => intro f q rh _ h1 h2; have := h2.hr; omega
  | succ r ih =>
    intro f q rh hf h1 hk
    obtain ⟨f, rfl⟩ : ∃ f', f = f' + 1 := ⟨f - 1, by omega⟩
    have hr := hk.hr
    have hq1' := hk.hq1
    have hd := hk.digit
    have n2 := hk.n2
    have n3 := hk.n3
    have hu0 := hk.hu1
    have hYp : 0 < Y := by have := hk.hu; omega
    rw [Nat.add_mul, Nat.one_mul] at h1
    have hadd : IntKind.u64.wrap ((rh : Int) + (y1 : Int)) = ((rh + y1 : Nat) : Int) := by rw [IntKind.wrap_u64]; omega
    have down : (4294967296 ≤ q ∨ 4294967296 * rh + u0 < q * y0) →
        (cond (decide ((IntKind.u64.wrap ((rh : Int) + (y1 : Int))) ≥ 4294967296))
         (bnd (IntKind.u64.wrap ((IntKind.u64.wrap ((q1 : Int) * 4294967296)) + (IntKind.u64.wrap ((q : Int) - 1)))) fun y1 =>
         (bnd (IntKind.u64.wrap ((IntKind.u64.wrap ((u : Int) * 4294967296)) + (u0 : Int))) fun y2 =>
         (bnd (IntKind.u64.wrap (y2 - (IntKind.u64.wrap ((IntKind.u64.wrap ((q : Int) - 1)) * (Y : Int))))) fun y3 =>
         (cond (decide ((s : Int) < 0)) none (some (AV.tup [.int .u64 y1, .int .u64 (Int.fdiv y3 (2 ^ (min (Int.toNat (s : Int)) 64)))]))))))
         (J_math_bits_Div64_4194296 (CP C n) n f (Y : Int) (s : Int) (y1 : Int) (y0 : Int) (u0 : Int) (q1 : Int) (IntKind.u64.wrap ((rh : Int) + (y1 : Int))) (u : Int) (IntKind.u64.wrap ((q : Int) - 1)))) =
        some (.tup [.int .u64 ((q1 * 4294967296 + (u * 4294967296 + u0) / Y : Nat) : Int), .int .u64 (((u * 4294967296 + u0) % Y / 2 ^ s : Nat) : Int)]) := by
      intro hb
      obtain ⟨d1, d2, d3⟩ := hk.dec hb
      have hsub : IntKind.u64.wrap ((q : Int) - 1) = ((q - 1 : Nat) : Int) := by rw [IntKind.wrap_u64]; omega
      rw [hadd, hsub]
      by_cases c : 4294967296 ≤ rh + y1
      · rw [decide_eq_true (show ((rh + y1 : Nat) : Int) ≥ 4294967296 by omega), cond_true]
        have hQ := d3 c
        exact div_fin Y q1 u u0 (q - 1) s hYp hY hu0 hq1 (by omega) hQ hs
      · rw [decide_eq_false (show ¬ ((rh + y1 : Nat) : Int) ≥ 4294967296 by omega), cond_false]
        exact ih f (q - 1) (rh + y1) (by omega) (by omega) (d2 (by omega))
    rw [Js_math_bits_Div64_4194296]
    unfold T_math_bits_Div64_4194296
    by_cases g : 4294967296 ≤ q
    · rw [decide_eq_true (show (q : Int) ≥ 4294967296 by omega), cond_true]
      exact down (.inl g)
    · rw [decide_eq_false (show ¬ (q : Int) ≥ 4294967296 by omega), cond_false]
      have hmul : q * y0 ≤ 4294967295 * 4294967295 := Nat.mul_le_mul (by omega) (by omega)
      have e4 : IntKind.u64.wrap ((IntKind.u64.wrap (4294967296 * (rh : Int))) + (u0 : Int)) = ((4294967296 * rh + u0 : Nat) : Int) := by rw [IntKind.wrap_u64, IntKind.wrap_u64]; omega
      have e5 : IntKind.u64.wrap ((q : Int) * (y0 : Int)) = ((q * y0 : Nat) : Int) := w64u (by omega)
      rw [bnd_eq _ e4, e5]
      by_cases g2 : 4294967296 * rh + u0 < q * y0
      · rw [decide_eq_true (show ((q * y0 : Nat) : Int) > ((4294967296 * rh + u0 : Nat) : Int) by omega), cond_true]
        exact down (.inr g2)
      · rw [decide_eq_false (show ¬ ((q * y0 : Nat) : Int) > ((4294967296 * rh + u0 : Nat) : Int) by omega), cond_false]
        have hQ := hk.stop g2
        rw [bnd_eq _ (show _ = ((q1 * 4294967296 + (u * 4294967296 + u0) / Y : Nat) : Int) by
          rw [← hQ, IntKind.wrap_u64, IntKind.wrap_u64]; omega)]
        rw [bnd_eq _ rfl, kn_rest Y u u0 q hYp hY hu0 hQ, decide_eq_false (show ¬ ((s : Int) < 0) by omega), cond_false, Int.toNat_natCast, Nat.min_eq_left (by omega)]
        rw [show ((2 : Int) ^ s) = ((2 ^ s : Nat) : Int) by simp, fdiv_nat _ _ (Nat.two_pow_pos s), bnd_eq _ rfl]
theorem div_lp1 (n Y s y1 y0 u1 u0 u : Nat) (hY : Y < 18446744073709551616) (hs : s < 64) (hu0 : u0 < 4294967296) : ∀ (r f q rh : Nat), r < f → 4294967296 ≤ rh + r * y1 → Kn Y y1 y0 u u1 q rh →
    J_math_bits_Div64_262136 (CP C n) n f (Y : Int) (s : Int) (y1 : Int) (y0 : Int) (u : Int) (u1 : Int) (u0 : Int) (q : Int) (rh : Int) =
      some (.tup [.int .u64 (((u * 18446744073709551616 + u1 * 4294967296 + u0) / Y : Nat) : Int), .int .u64 (((u * 18446744073709551616 + u1 * 4294967296 + u0) % Y / 2 ^ s : Nat) : Int)]) := by
  intro r
  induction r with
  | zero => intro f q rh _ h1 h2; have := h2.hr; omega
  | succ r ih =>
    intro f q rh hf h1 hk
    obtain ⟨f, rfl⟩ : ∃ f', f = f' + 1 := ⟨f - 1, by omega⟩
    have hr := hk.hr
    have hq1' := hk.hq1
    have hd := hk.digit
    have n1 := hk.n1
    have n2 := hk.n2
    have n3 := hk.n3
    have hu1 := hk.hu1
    have hYp : 0 < Y := by have := hk.hu; omega
    rw [Nat.add_mul, Nat.one_mul] at h1
    have hadd : IntKind.u64.wrap ((rh : Int) + (y1 : Int)) = ((rh + y1 : Nat) : Int) := by rw [IntKind.wrap_u64]; omega
    have hR : (u * 4294967296 + u1) % Y < Y := Nat.mod_lt _ hYp
    have fin : ∀ Q : Nat, Q = (u * 4294967296 + u1) / Y →
        (bnd (IntKind.u64.wrap ((IntKind.u64.wrap ((u : Int) * 4294967296)) + (u1 : Int))) fun y1' =>
         (bnd (IntKind.u64.wrap (y1' - (IntKind.u64.wrap ((Q : Int) * (Y : Int))))) fun y2 =>
         (cond (decide ((y1 : Int) = 0)) none
         (bnd (IntKind.u64.wrap ((IntKind.u64.wrap (Int.tdiv y2 (y1 : Int))) * (y1 : Int))) fun y3 =>
         (J_math_bits_Div64_4194296 (CP C n) n (n + 300) (Y : Int) (s : Int) (y1 : Int) (y0 : Int) (u0 : Int) (Q : Int) (IntKind.u64.wrap (y2 - y3)) y2 (IntKind.u64.wrap (Int.tdiv y2 (y1 : Int)))))))) =
        some (.tup [.int .u64 (((u * 18446744073709551616 + u1 * 4294967296 + u0) / Y : Nat) : Int), .int .u64 (((u * 18446744073709551616 + u1 * 4294967296 + u0) % Y / 2 ^ s : Nat) : Int)]) := by
      intro Q hQ
      obtain ⟨v, hvv⟩ : ∃ v, v = (u * 4294967296 + u1) % Y := ⟨_, rfl⟩
      have hQd : Q < 4294967296 := by rw [hQ]; exact hd
      have hvY : v < Y := by rw [hvv]; exact hR
      have hQv : Y * Q + v = u * 4294967296 + u1 := by rw [hQ, hvv]; exact Nat.div_add_mod _ _
      rw [bnd_eq _ rfl, bnd_eq _ (show _ = ((v : Nat) : Int) by rw [hvv]; exact kn_rest Y u u1 Q hYp hY hu1 hQ), decide_eq_false (show ¬ ((y1 : Int) = 0) by omega), cond_false]
      obtain ⟨t1, t2⟩ := kn_two' Y (u * 4294967296 + u1) (u * 18446744073709551616 + u1 * 4294967296 + u0) u0 Q v hYp hQv (by omega)
      have hk2 := Kn.init (u1 := u0) hk.hY hk.n1 hk.n2 hk.n3 hvY hu0
      rw [← t1, ← t2]
      clear hvv hQ t1 t2
      have hv := Nat.div_add_mod v y1
      have hvm := Nat.mod_lt v (show 0 < y1 by omega)
      have e6 : IntKind.u64.wrap (Int.tdiv (v : Int) (y1 : Int)) = ((v / y1 : Nat) : Int) := by
        rw [Int.tdiv_eq_ediv_of_nonneg (by omega), ← Int.natCast_ediv]
        exact w64u (Nat.lt_of_le_of_lt (Nat.div_le_self _ _) (by omega))
      have e7 : ((v / y1 : Nat) : Int) * (y1 : Int) = ((y1 * (v / y1) : Nat) : Int) := by rw [← Int.natCast_mul, Nat.mul_comm]
      rw [e6, e7]
      have e8 : IntKind.u64.wrap ((y1 * (v / y1) : Nat) : Int) = ((y1 * (v / y1) : Nat) : Int) := w64u (by omega)
      rw [bnd_eq _ e8]
      have e9 : IntKind.u64.wrap ((v : Int) - ((y1 * (v / y1) : Nat) : Int)) = ((v % y1 : Nat) : Int) := by rw [IntKind.wrap_u64]; omega
      rw [e9]
      exact div_lp2 n Y s y1 y0 u0 Q v hY hQd hs 2 (n + 300) (v / y1) (v % y1) (by omega) (by omega) hk2
    have down : (4294967296 ≤ q ∨ 4294967296 * rh + u1 < q * y0) →
        (cond (decide ((IntKind.u64.wrap ((rh : Int) + (y1 : Int))) ≥ 4294967296))
         (bnd (IntKind.u64.wrap ((IntKind.u64.wrap ((u : Int) * 4294967296)) + (u1 : Int))) fun y1' =>
         (bnd (IntKind.u64.wrap (y1' - (IntKind.u64.wrap ((IntKind.u64.wrap ((q : Int) - 1)) * (Y : Int))))) fun y2 =>
         (cond (decide ((y1 : Int) = 0)) none
         (bnd (IntKind.u64.wrap ((IntKind.u64.wrap (Int.tdiv y2 (y1 : Int))) * (y1 : Int))) fun y3 =>
         (J_math_bits_Div64_4194296 (CP C n) n (n + 300) (Y : Int) (s : Int) (y1 : Int) (y0 : Int) (u0 : Int) (IntKind.u64.wrap ((q : Int) - 1)) (IntKind.u64.wrap (y2 - y3)) y2 (IntKind.u64.wrap (Int.tdiv y2 (y1 : Int))))))))
         (J_math_bits_Div64_262136 (CP C n) n f (Y : Int) (s : Int) (y1 : Int) (y0 : Int) (u : Int) (u1 : Int) (u0 : Int) (IntKind.u64.wrap ((q : Int) - 1)) (IntKind.u64.wrap ((rh : Int) + (y1 : Int))))) =
        some (.tup [.int .u64 (((u * 18446744073709551616 + u1 * 4294967296 + u0) / Y : Nat) : Int), .int .u64 (((u * 18446744073709551616 + u1 * 4294967296 + u0) % Y / 2 ^ s : Nat) : Int)]) := by
      intro hb
      obtain ⟨d1, d2, d3⟩ := hk.dec hb
      have hsub : IntKind.u64.wrap ((q : Int) - 1) = ((q - 1 : Nat) : Int) := by rw [IntKind.wrap_u64]; omega
      rw [hadd, hsub]
      by_cases c : 4294967296 ≤ rh + y1
      · rw [decide_eq_true (show ((rh + y1 : Nat) : Int) ≥ 4294967296 by omega), cond_true]
        exact fin (q - 1) (d3 c)
      · rw [decide_eq_false (show ¬ ((rh + y1 : Nat) : Int) ≥ 4294967296 by omega), cond_false]
        exact ih f (q - 1) (rh + y1) (by omega) (by omega) (d2 (by omega))
    rw [Js_math_bits_Div64_262136]
    unfold T_math_bits_Div64_262136
    by_cases g : 4294967296 ≤ q
    · rw [decide_eq_true (show (q : Int) ≥ 4294967296 by omega), cond_true]
      exact down (.inl g)
    · rw [decide_eq_false (show ¬ (q : Int) ≥ 4294967296 by omega), cond_false]
      have hmul : q * y0 ≤ 4294967295 * 4294967295 := Nat.mul_le_mul (by omega) (by omega)
      have e4 : IntKind.u64.wrap ((IntKind.u64.wrap (4294967296 * (rh : Int))) + (u1 : Int)) = ((4294967296 * rh + u1 : Nat) : Int) := by rw [IntKind.wrap_u64, IntKind.wrap_u64]; omega
      have e5 : IntKind.u64.wrap ((q : Int) * (y0 : Int)) = ((q * y0 : Nat) : Int) := w64u (by omega)
      rw [bnd_eq _ e4, e5]
      by_cases g2 : 4294967296 * rh + u1 < q * y0
      · rw [decide_eq_true (show ((q * y0 : Nat) : Int) > ((4294967296 * rh + u1 : Nat) : Int) by omega), cond_true]
        exact down (.inr g2)
      · rw [decide_eq_false (show ¬ ((q * y0 : Nat) : Int) > ((4294967296 * rh + u1 : Nat) : Int) by omega), cond_false]
        exact fin q (hk.stop g2)
theorem sp_Div64 (n h l y : Nat) (hh : h < y) (hl : l < 18446744073709551616) (hy : y < 18446744073709551616) :
    CP C (n + 3) F_math_bits_Div64 [.int .u64 (h : Int), .int .u64 (l : Int), .int .u64 (y : Int)] = some (.tup [.int .u64 (((h * 18446744073709551616 + l) / y : Nat) : Int), .int .u64 (((h * 18446744073709551616 + l) % y : Nat) : Int)]) := by
  rw [eq_math_bits_Div64]
  unfold R_math_bits_Div64 T_math_bits_Div64_1
  rw [show ((y : Int) == 0) = false by rw [beq_eq_false_iff_ne]; omega, cond_false, decide_eq_false (show ¬ (y : Int) ≤ (h : Int) by omega), cond_false]
  by_cases c : h = 0
  · subst c
    rw [show (((0 : Nat) : Int) == 0) = true from rfl, cond_true, decide_eq_false (show ¬ (y : Int) = 0 by omega), cond_false, cond_false, Int.tdiv_eq_ediv_of_nonneg (by omega), Int.tmod_eq_emod_of_nonneg (by omega), ← Int.natCast_ediv, ← Int.natCast_emod, w64u (Nat.lt_of_le_of_lt (Nat.div_le_self _ _) hl), Nat.zero_mul, Nat.zero_add]
  · rw [show ((h : Int) == 0) = false by rw [beq_eq_false_iff_ne]; omega, cond_false]
    obtain ⟨s, s1, s2, s3, s4⟩ := sp_Leading n y (by omega) hy
    rw [s4]
    simp only [k_bind, k_int]
    have ws : IntKind.u64.wrap (s : Int) = (s : Int) := w64u (by omega)
    have ws2 : IntKind.u64.wrap (64 - (s : Int)) = ((64 - s : Nat) : Int) := by rw [IntKind.wrap_u64]; omega
    have p2 : ∀ k : Nat, k ≤ 64 → ((2 : Int) ^ (min (Int.toNat (k : Int)) 64)) = ((2 ^ k : Nat) : Int) := by
      intro k hk
      rw [Int.toNat_natCast, Nat.min_eq_left hk]; simp
    have ds : decide ((s : Int) < 0) = false := decide_eq_false (by omega)
    have ds2 : decide (((64 - s : Nat) : Int) < 0) = false := decide_eq_false (by omega)
    rw [ws, ws2, p2 s (by omega), p2 (64 - s) (by omega)]
    simp only [ds, ds2, cond_false]
    have e1 : IntKind.u64.wrap ((y : Int) * ((2 ^ s : Nat) : Int)) = ((y * 2 ^ s : Nat) : Int) := w64u s3
    have hs2 : h * 2 ^ s < 18446744073709551616 := Nat.lt_trans (Nat.mul_lt_mul_of_pos_right hh (Nat.two_pow_pos s)) s3
    have e2 : IntKind.u64.wrap ((h : Int) * ((2 ^ s : Nat) : Int)) = ((h * 2 ^ s : Nat) : Int) := w64u hs2
    have hpw : 2 ^ s * 2 ^ (64 - s) = 18446744073709551616 := by
      rw [← Nat.pow_add, show s + (64 - s) = 64 by omega]
    obtain ⟨_, hlo', hU⟩ := moved h l y (2 ^ s) (2 ^ (64 - s)) (Nat.two_pow_pos _) (Nat.two_pow_pos _) hpw hh
    have hlo := hlo' hl
    have huY : h * 2 ^ s + l / 2 ^ (64 - s) < y * 2 ^ s := by
      have h6 : (h + 1) * 2 ^ s ≤ y * 2 ^ s := Nat.mul_le_mul_right _ hh
      rw [Nat.add_mul, Nat.one_mul] at h6
      exact Nat.lt_of_lt_of_le (Nat.add_lt_add_left hlo _) h6
    clear hlo' hpw
    have e3 : Int.fdiv (l : Int) ((2 ^ (64 - s) : Nat) : Int) = ((l / 2 ^ (64 - s) : Nat) : Int) := fdiv_nat _ _ (Nat.two_pow_pos _)
    have e4 : IntKind.u64.wrap ((l : Int) * ((2 ^ s : Nat) : Int)) = ((l * 2 ^ s % 18446744073709551616 : Nat) : Int) := by
      rw [IntKind.wrap_u64, ← Int.natCast_mul]; omega
    have hlm : l * 2 ^ s % 18446744073709551616 < 18446744073709551616 := Nat.mod_lt _ (by decide)
    rw [bnd_eq _ e1, bnd_eq _ (and32 _ s3), bnd_eq _ e2, bnd_eq _ e3, bnd_eq _ (or_sum h (l / 2 ^ (64 - s)) s s1 hs2 hlo), bnd_eq _ e4, bnd_eq _ (and32 _ hlm)]
    obtain ⟨u, hv⟩ : ∃ u, u = h * 2 ^ s + l / 2 ^ (64 - s) := ⟨_, rfl⟩
    obtain ⟨w, hw⟩ : ∃ w, w = l * 2 ^ s % 18446744073709551616 := ⟨_, rfl⟩
    rw [← hv] at hU huY ⊢
    rw [← hw] at hU hlm ⊢
    clear hlo hv hw e1 e2 e3 e4 hs2
    have hdiv : (u * 18446744073709551616 + w / 4294967296 * 4294967296 + w % 4294967296) = (h * 18446744073709551616 + l) * 2 ^ s := by
      have hw2 : u * 18446744073709551616 + w / 4294967296 * 4294967296 + w % 4294967296 = u * 18446744073709551616 + w := by clear hU huY; omega
      exact hw2.trans hU
    have hw1 : w / 4294967296 < 4294967296 := by clear hU hdiv; omega
    have hw0 : w % 4294967296 < 4294967296 := by clear hU hdiv; omega
    have hk0 := Kn.init (Y := y * 2 ^ s) (y1 := y * 2 ^ s / 4294967296) (y0 := y * 2 ^ s % 4294967296) (u := u) (u1 := w / 4294967296) (by omega) (by omega) (by omega) (by omega) huY hw1
    have f1 : Int.fdiv ((y * 2 ^ s : Nat) : Int) 4294967296 = ((y * 2 ^ s / 4294967296 : Nat) : Int) := fdiv_nat _ 4294967296 (by decide)
    have f2 : Int.fdiv ((w : Nat) : Int) 4294967296 = ((w / 4294967296 : Nat) : Int) := fdiv_nat _ 4294967296 (by decide)
    have hY1 : 2147483648 ≤ y * 2 ^ s / 4294967296 := by omega
    rw [f1, f2, decide_eq_false (show ¬ (((y * 2 ^ s / 4294967296 : Nat) : Int) = 0) by omega), cond_false]
    have hfin := div_lp1 (n + 2) (y * 2 ^ s) s (y * 2 ^ s / 4294967296) (y * 2 ^ s % 4294967296) (w / 4294967296) (w % 4294967296) u s3 s1 hw0 2 (n + 2 + 300) (u / (y * 2 ^ s / 4294967296)) (u % (y * 2 ^ s / 4294967296)) (by omega) (by omega) hk0
    rw [hdiv, Nat.mul_div_mul_right _ _ (Nat.two_pow_pos s), Nat.mul_mod_mul_right, Nat.mul_div_cancel _ (Nat.two_pow_pos s)] at hfin
    rw [← hfin]
    generalize y * 2 ^ s / 4294967296 = y1 at *
    have hv2 := Nat.div_add_mod u y1
    have e6 : IntKind.u64.wrap (Int.tdiv (u : Int) (y1 : Int)) = ((u / y1 : Nat) : Int) := by
      rw [Int.tdiv_eq_ediv_of_nonneg (by omega), ← Int.natCast_ediv]
      exact w64u (Nat.lt_of_le_of_lt (Nat.div_le_self _ _) (by omega))
    have e7 : ((u / y1 : Nat) : Int) * (y1 : Int) = ((y1 * (u / y1) : Nat) : Int) := by rw [← Int.natCast_mul, Nat.mul_comm]
    rw [e6, e7]
    have e8 : IntKind.u64.wrap ((y1 * (u / y1) : Nat) : Int) = ((y1 * (u / y1) : Nat) : Int) := w64u (by omega)
    rw [bnd_eq _ e8]
    have e9 : IntKind.u64.wrap ((u : Int) - ((y1 * (u / y1) : Nat) : Int)) = ((u % y1 : Nat) : Int) := by rw [IntKind.wrap_u64]; omega
    rw [e9]
theorem sp_wide_Div (n A b : Nat) (hA : A < 340282366920938463463374607431768211456) (hb0 : 0 < b) (hb : b < 18446744073709551616) :
    CP C (n + 4) F_wide_Div [wv A, .int .u64 (b : Int)] = some (.tup [wv (A / b), .int .u64 ((A % b : Nat) : Int), .int .i64 0]) := by
  rw [eq_wide_Div]
  unfold R_wide_Div
  have hm : A / 18446744073709551616 % b < b := Nat.mod_lt _ hb0
  have hd := Nat.div_add_mod (A / 18446744073709551616) b
  have hA1 : A / 18446744073709551616 / b ≤ A / 18446744073709551616 := Nat.div_le_self _ _
  have h64 := sp_Div64 n (A / 18446744073709551616 % b) (A % 18446744073709551616) b hm (by omega) hb
  have eA : A = (A / 18446744073709551616 % b * 18446744073709551616 + A % 18446744073709551616) + b * (A / 18446744073709551616 / b * 18446744073709551616) := by
    rw [← Nat.mul_assoc]
    generalize b * (A / 18446744073709551616 / b) = p at *
    omega
  have eq : A / b = (A / 18446744073709551616 % b * 18446744073709551616 + A % 18446744073709551616) / b + A / 18446744073709551616 / b * 18446744073709551616 := by
    conv => lhs; rw [eA]
    rw [Nat.add_mul_div_left _ _ hb0]
  have er : A % b = (A / 18446744073709551616 % b * 18446744073709551616 + A % 18446744073709551616) % b := by
    conv => lhs; rw [eA]
    rw [Nat.add_mul_mod_self_left]
  have hlt : (A / 18446744073709551616 % b * 18446744073709551616 + A % 18446744073709551616) / b < 18446744073709551616 := by
    rw [Nat.div_lt_iff_lt_mul hb0]; omega
  rw [show ((b : Int) == 0) = false by rw [beq_eq_false_iff_ne]; omega, cond_false, decide_eq_false (show ¬ (b : Int) = 0 by omega), cond_false]
  rw [Int.tmod_eq_emod_of_nonneg (show (0 : Int) ≤ ((A / 18446744073709551616 : Nat) : Int) by omega), ← Int.natCast_emod, h64]
  simp only [k_bind, k_tup, k_agg, k_cons, k_int, k_nil]
  rw [cond_false, Int.tdiv_eq_ediv_of_nonneg (show (0 : Int) ≤ ((A / 18446744073709551616 : Nat) : Int) by omega), ← Int.natCast_ediv, w64u (show A / 18446744073709551616 / b < 18446744073709551616 by omega), er, eq]
  unfold wv
  revert hlt
  generalize (A / 18446744073709551616 % b * 18446744073709551616 + A % 18446744073709551616) / b = q1
  generalize A / 18446744073709551616 / b = q2
  intro hlt
  rw [show (q1 + q2 * 18446744073709551616) / 18446744073709551616 = q2 by omega, show (q1 + q2 * 18446744073709551616) % 18446744073709551616 = q1 by omega]
end Go.Proofs.YtbikcndldcfffaaDoor.Sim.S
