/- The laws of numbers of 128 bits answer true. Condition: none beyond what each theorem says. -/
import Derived.Test.YtbikcndldcfffaaDoorSpecProg
set_option linter.unusedSimpArgs false
set_option linter.unusedVariables false
open Go Go.Proofs
namespace Go.Proofs.YtbikcndldcfffaaDoor.Sim.S
open Go

set_option maxRecDepth 100000 in
theorem sp_awake : CP C 12 F_law01_awake [] = some (.bool true) := by kernel_rfl

theorem cF {R : Type} (x y : R) : cond false x y = y := of_eq_true (eq_self _)
theorem cT {R : Type} (x y : R) : cond true x y = x := of_eq_true (eq_self _)
def cmp1 (a b : Int) : Int := if a < b then -1 else if a > b then 1 else 0
theorem wordsN (h l : Int) (hh : IntKind.u64.has h) (hl : IntKind.u64.has l) : ∃ A : Nat, A < 340282366920938463463374607431768211456 ∧ AV.agg [.int .u64 h, .int .u64 l] = wv A := by
  have h1 : 0 ≤ h ∧ h ≤ 18446744073709551615 := hh
  have h2 : 0 ≤ l ∧ l ≤ 18446744073709551615 := hl
  refine ⟨(h * 18446744073709551616 + l).toNat, by omega, ?_⟩
  unfold wv
  rw [show (((h * 18446744073709551616 + l).toNat / 18446744073709551616 : Nat) : Int) = h by omega, show (((h * 18446744073709551616 + l).toNat % 18446744073709551616 : Nat) : Int) = l by omega]
theorem wordN (b : Int) (hb : IntKind.u64.has b) : ∃ B : Nat, B < 18446744073709551616 ∧ b = (B : Int) := by
  have h1 : 0 ≤ b ∧ b ≤ 18446744073709551615 := hb
  exact ⟨b.toNat, by omega, by omega⟩
theorem sp_ref01_Cmp (n : Nat) (A B : Nat) (ha : A < 340282366920938463463374607431768211456) (hb : B < 340282366920938463463374607431768211456) :
    CP C (n + 1) F_ref01_Cmp [wv A, wv B] = some (.int .i64 (cmp1 A B)) := by
  rw [eq_ref01_Cmp]
  unfold R_ref01_Cmp
  simp only [k_int, k_anyInt, k_bool, k_str, k_agg, k_tup, k_cons, k_nil, k_bind, ↓c_not, ↓c_bne, ite_cond, Bool.and_eq_true, Bool.or_eq_true, beq_iff_eq, Bool.and_true, decide_eq_true_eq, Bool.false_eq_true, if_true, if_false, bne_self_eq_false, and_self, Int.reduceEq, Int.reduceLT, Int.reduceNeg, i_some, i_int, i_bool, i_agg, i_tup, i_cons, i_self, Option.some.injEq, AV.int.injEq, AV.bool.injEq, AV.agg.injEq, AV.tup.injEq, List.cons.injEq, true_and, and_true]
  unfold cmp1
  omega
theorem sp_wide_Cmp (n : Nat) (A B : Nat) (ha : A < 340282366920938463463374607431768211456) (hb : B < 340282366920938463463374607431768211456) :
    CP C (n + 2) F_wide_Cmp [wv A, wv B] = some (.int .i64 (cmp1 A B)) := by
  rw [eq_wide_Cmp]
  unfold R_wide_Cmp
  rw [sp_wide_Sub n A B ha hb]
  simp only [k_bind, k_tup, k_agg, k_cons, k_int, k_nil, k_bool]
  by_cases h : A = B
  · subst h
    rw [show cmp1 (A : Int) (A : Int) = 0 by unfold cmp1; omega]
    simp only [beq_self_eq_true, Bool.and_self, cT]
  · rw [show (((A / 18446744073709551616 : Nat) : Int) == ((B / 18446744073709551616 : Nat) : Int) && (((A % 18446744073709551616 : Nat) : Int) == ((B % 18446744073709551616 : Nat) : Int) && true)) = false by
      rw [Bool.and_true, Bool.and_eq_false_iff, beq_eq_false_iff_ne, beq_eq_false_iff_ne]; omega, cond_false]
    by_cases g : A < B
    · rw [decide_eq_true g, show cmp1 (A : Int) (B : Int) = -1 by unfold cmp1; omega]; rfl
    · rw [decide_eq_false g, show cmp1 (A : Int) (B : Int) = 1 by unfold cmp1; omega]; rfl
theorem sp_Below (n : Nat) (A : Nat) (ha : A < 340282366920938463463374607431768211456) : CP C (n + 1) F_ref01_Below [wv A] = some (.bool (decide (170141183460469231731687303715884105728 ≤ A))) := by
  rw [eq_ref01_Below]
  unfold R_ref01_Below
  rw [show decide (((A / 18446744073709551616 : Nat) : Int) ≥ 9223372036854775808) = decide (170141183460469231731687303715884105728 ≤ A) by rw [decide_eq_decide]; omega]
/-- Signed: the order of the numbers with the highest bit turned. -/
def top (A : Nat) : Nat := (A + 170141183460469231731687303715884105728) % 340282366920938463463374607431768211456
theorem sp_ref01_Signed (n : Nat) (A B : Nat) (ha : A < 340282366920938463463374607431768211456) (hb : B < 340282366920938463463374607431768211456) :
    CP C (n + 2) F_ref01_Signed [wv A, wv B] = some (.int .i64 (cmp1 (top A) (top B))) := by
  rw [eq_ref01_Signed]
  unfold R_ref01_Signed
  rw [sp_Below n A ha, sp_Below n B hb, sp_ref01_Cmp n A B ha hb]
  simp only [k_bind, k_bool, k_int]
  by_cases h1 : 170141183460469231731687303715884105728 ≤ A
  · by_cases h2 : 170141183460469231731687303715884105728 ≤ B
    · rw [decide_eq_true h1, decide_eq_true h2, show cmp1 (top A) (top B) = cmp1 A B by unfold cmp1 top; omega]; rfl
    · rw [decide_eq_true h1, decide_eq_false h2, show cmp1 (top A) (top B) = -1 by unfold cmp1 top; omega]; rfl
  · by_cases h2 : 170141183460469231731687303715884105728 ≤ B
    · rw [decide_eq_false h1, decide_eq_true h2, show cmp1 (top A) (top B) = 1 by unfold cmp1 top; omega]; rfl
    · rw [decide_eq_false h1, decide_eq_false h2, show cmp1 (top A) (top B) = cmp1 A B by unfold cmp1 top; omega]; rfl
theorem xor_top (x : Nat) (h : x < 18446744073709551616) : IntKind.u64.wrap (((BitVec.ofInt 64 (x : Int) ^^^ BitVec.ofInt 64 9223372036854775808).toNat : Nat) : Int) = (((x + 9223372036854775808) % 18446744073709551616 : Nat) : Int) := by
  have e : x ^^^ 2 ^ 63 = (2 ^ 63 + x) % 2 ^ 64 := by
    refine Nat.eq_of_testBit_eq fun i => ?_
    rw [Nat.testBit_xor, Nat.testBit_mod_two_pow, Nat.testBit_two_pow]
    by_cases h1 : i < 63
    · rw [Nat.testBit_two_pow_add_gt h1, decide_eq_false (show ¬ 63 = i by omega), decide_eq_true (show i < 64 by omega), Bool.xor_false, Bool.true_and]
    · by_cases h2 : i = 63
      · subst h2
        rw [Nat.testBit_two_pow_add_eq, decide_eq_true rfl, decide_eq_true (show 63 < 64 by decide), Bool.xor_true, Bool.true_and]
      · rw [decide_eq_false (show ¬ 63 = i by omega), decide_eq_false (show ¬ i < 64 by omega), Bool.false_and, Bool.xor_false]
        exact Nat.testBit_lt_two_pow (Nat.lt_of_lt_of_le (show x < 2 ^ 64 from h) (Nat.pow_le_pow_right (by decide) (by omega)))
  rw [ofInt_nat, show (BitVec.ofInt 64 9223372036854775808) = BitVec.ofNat 64 9223372036854775808 from rfl, BitVec.toNat_xor, BitVec.toNat_ofNat, BitVec.toNat_ofNat, Nat.mod_eq_of_lt (show x < 2 ^ 64 from h), show (9223372036854775808 % 2 ^ 64 : Nat) = 2 ^ 63 by decide, e, IntKind.wrap_u64, show (2 : Nat) ^ 63 = 9223372036854775808 by decide, show (2 : Nat) ^ 64 = 18446744073709551616 by decide]
  omega
theorem sp_wide_Signed (n : Nat) (A B : Nat) (ha : A < 340282366920938463463374607431768211456) (hb : B < 340282366920938463463374607431768211456) :
    CP C (n + 3) F_wide_Signed [wv A, wv B] = some (.int .i64 (cmp1 (top A) (top B))) := by
  rw [eq_wide_Signed]
  unfold R_wide_Signed
  rw [bnd_eq _ (xor_top _ (by omega)), bnd_eq _ (xor_top _ (by omega))]
  have hc := sp_wide_Cmp n (top A) (top B) (by unfold top; omega) (by unfold top; omega)
  unfold wv at hc
  rw [show top A / 18446744073709551616 = (A / 18446744073709551616 + 9223372036854775808) % 18446744073709551616 by unfold top; omega, show top A % 18446744073709551616 = A % 18446744073709551616 by unfold top; omega,
    show top B / 18446744073709551616 = (B / 18446744073709551616 + 9223372036854775808) % 18446744073709551616 by unfold top; omega, show top B % 18446744073709551616 = B % 18446744073709551616 by unfold top; omega] at hc
  rw [hc]
  simp only [k_bind, k_int]

theorem law_WideSums (n : Nat) (h l h' l' : Int) (a1 : IntKind.u64.has h) (a2 : IntKind.u64.has l) (a3 : IntKind.u64.has h') (a4 : IntKind.u64.has l') :
    CP C 13 F_law01_WideSums [.agg [.int .u64 h, .int .u64 l], .agg [.int .u64 h', .int .u64 l']] = some (.bool true) := by
  obtain ⟨A, hA, e1⟩ := wordsN h l a1 a2
  obtain ⟨B, hB, e2⟩ := wordsN h' l' a3 a4
  rw [e1, e2, eq_law01_WideSums]
  unfold R_law01_WideSums
  have f1 : CP C 12 F_wide_Add [wv A, wv B] = _ := sp_wide_Add 11 A B hA hB
  have f2 : CP C 12 F_ref01_Add [wv A, wv B] = _ := sp_ref01_Add 10 A B hA hB
  have f3 : CP C 12 F_wide_Sub [wv A, wv B] = _ := sp_wide_Sub 11 A B hA hB
  have f4 : CP C 12 F_ref01_Sub [wv A, wv B] = _ := sp_ref01_Sub 10 A B hA hB
  have f5 : CP C 12 F_wide_Neg [wv A] = _ := sp_wide_Neg 10 A hA
  have f6 : CP C 12 F_ref01_Neg [wv A] = _ := sp_ref01_Neg 9 A hA
  have f7 : CP C 12 F_wide_Cmp [wv A, wv B] = _ := sp_wide_Cmp 10 A B hA hB
  have f8 : CP C 12 F_ref01_Cmp [wv A, wv B] = _ := sp_ref01_Cmp 11 A B hA hB
  have f9 : CP C 12 F_wide_Signed [wv A, wv B] = _ := sp_wide_Signed 9 A B hA hB
  have f0 : CP C 12 F_ref01_Signed [wv A, wv B] = _ := sp_ref01_Signed 10 A B hA hB
  rw [f1, f2, f3, f4, f5, f6, f7, f8, f9, f0, sp_awake]
  simp only [k_bind, k_tup, k_agg, k_cons, k_int, k_nil, k_bool, beq_self_eq_true, Bool.and_self, cT]

theorem law_WideMuls (n : Nat) (h l b c : Int) (a1 : IntKind.u64.has h) (a2 : IntKind.u64.has l) (a3 : IntKind.u64.has b) (a4 : IntKind.u64.has c) :
    CP C 13 F_law01_WideMuls [.agg [.int .u64 h, .int .u64 l], .int .u64 b, .int .u64 c] = some (.bool true) := by
  obtain ⟨A, hA, e1⟩ := wordsN h l a1 a2
  obtain ⟨B, hB, e2⟩ := wordN b a3
  obtain ⟨D, hD, e3⟩ := wordN c a4
  rw [e1, e2, e3, eq_law01_WideMuls]
  unfold R_law01_WideMuls
  have f3 : CP C 12 F_wide_Mul [.int .u64 (B : Int), .int .u64 (D : Int)] = _ := sp_wide_Mul 10 B D hB hD
  have f4 : CP C 12 F_ref01_Mul [.int .u64 (B : Int), .int .u64 (D : Int)] = _ := sp_ref01_Mul 10 B D hB hD
  by_cases h0 : B = 0
  · subst h0
    have f1 : CP C 12 F_wide_Div [wv A, .int .u64 ((0 : Nat) : Int)] = some (.tup [.agg [.int .u64 0, .int .u64 0], .int .u64 0, .int .i64 5]) := by rw [eq_wide_Div]; rfl
    have f2 : CP C 12 F_ref01_Div [wv A, .int .u64 ((0 : Nat) : Int)] = some (.tup [.agg [.int .u64 0, .int .u64 0], .int .u64 0, .int .i64 5]) := by rw [eq_ref01_Div]; rfl
    rw [f1, f2, f3, f4, sp_awake]
    simp only [k_bind, k_tup, k_agg, k_cons, k_int, k_nil, k_bool, beq_self_eq_true, Bool.and_self, cT]
  · have f1 : CP C 12 F_wide_Div [wv A, .int .u64 (B : Int)] = _ := sp_wide_Div 8 A B hA (by omega) hB
    have f2 : CP C 12 F_ref01_Div [wv A, .int .u64 (B : Int)] = _ := sp_ref01_Div 10 A B hA (by omega) hB
    rw [f1, f2, f3, f4, sp_awake]
    simp only [k_bind, k_tup, k_agg, k_cons, k_int, k_nil, k_bool, beq_self_eq_true, Bool.and_self, cT]

theorem wordsI (h l : Int) (hh : IntKind.u64.has h) (hl : IntKind.u64.has l) : ∃ z : Int, (-170141183460469231731687303715884105728 ≤ z ∧ z < 170141183460469231731687303715884105728) ∧ AV.agg [.int .u64 h, .int .u64 l] = wI z := by
  have h1 : 0 ≤ h ∧ h ≤ 18446744073709551615 := hh
  have h2 : 0 ≤ l ∧ l ≤ 18446744073709551615 := hl
  refine ⟨if h ≥ 9223372036854775808 then h * 18446744073709551616 + l - 340282366920938463463374607431768211456 else h * 18446744073709551616 + l, ?_, ?_⟩
  · split <;> omega
  · unfold wI wv
    have e : (((if h ≥ 9223372036854775808 then h * 18446744073709551616 + l - 340282366920938463463374607431768211456 else h * 18446744073709551616 + l) % 340282366920938463463374607431768211456).toNat : Nat) = (h * 18446744073709551616 + l).toNat := by split <;> omega
    rw [e, show (((h * 18446744073709551616 + l).toNat / 18446744073709551616 : Nat) : Int) = h by omega, show (((h * 18446744073709551616 + l).toNat % 18446744073709551616 : Nat) : Int) = l by omega]
theorem law_WideInts (n : Nat) (x h l : Int) (ax : IntKind.i64.has x) (a1 : IntKind.u64.has h) (a2 : IntKind.u64.has l) :
    CP C 13 F_law01_WideInts [.int .i64 x, .agg [.int .u64 h, .int .u64 l]] = some (.bool true) := by
  have hx : -9223372036854775808 ≤ x ∧ x ≤ 9223372036854775807 := ax
  obtain ⟨z, hz, e1⟩ := wordsI h l a1 a2
  rw [e1, eq_law01_WideInts]
  unfold R_law01_WideInts
  have f1 : CP C 12 F_wide_Of [.int .i64 x] = some (wI x) := sp_wide_Of 11 x hx
  have f2 : CP C 12 F_wide_Int [wI x] = _ := sp_wide_Int 10 x (by omega)
  have f3 : CP C 12 F_wide_Int [wI z] = _ := sp_wide_Int 10 z hz
  have f4 : CP C 12 F_ref01_Int [wI z] = _ := sp_ref01_Int 10 z hz
  have f5 : CP C 12 F_ref01_Of [.int .i64 x] = some (wI x) := sp_ref01_Of 11 x hx
  rw [if_pos hx, if_pos hx] at f2
  rw [f1]
  simp only [k_bind, k_tup, k_agg, k_cons, k_int, k_nil, k_bool]
  rw [f2, f3, f4, f5, sp_awake]
  simp only [k_bind, k_tup, k_agg, k_cons, k_int, k_nil, k_bool, beq_self_eq_true, Bool.and_self, cT]

theorem halves (V a : Nat) : V * a = V % 18446744073709551616 * a + V / 18446744073709551616 * a * 18446744073709551616 := by
  have h := Nat.div_add_mod V 18446744073709551616
  have h2 : V * a = (18446744073709551616 * (V / 18446744073709551616) + V % 18446744073709551616) * a := by rw [h]
  rw [h2, Nat.add_mul, Nat.add_comm, Nat.mul_assoc, Nat.mul_comm 18446744073709551616]
theorem wv_high (H : Nat) (h : H < 18446744073709551616) : AV.agg [.int .u64 (H : Int), .int .u64 0] = wv (H * 18446744073709551616) := by
  unfold wv
  rw [show H * 18446744073709551616 / 18446744073709551616 = H by omega, show H * 18446744073709551616 % 18446744073709551616 = 0 by omega]; rfl
theorem wv_low (L : Nat) (h : L < 18446744073709551616) : AV.agg [.int .u64 0, .int .u64 (L : Int)] = wv L := by
  unfold wv
  rw [show L / 18446744073709551616 = 0 by omega, show L % 18446744073709551616 = L by omega]; rfl
theorem law_WideBack (n : Nat) (h l b h' l' : Int) (a1 : IntKind.u64.has h) (a2 : IntKind.u64.has l) (a3 : IntKind.u64.has b) (a4 : IntKind.u64.has h') (a5 : IntKind.u64.has l') :
    CP C 13 F_law01_WideBack [.agg [.int .u64 h, .int .u64 l], .int .u64 b, .agg [.int .u64 h', .int .u64 l']] = some (.bool true) := by
  obtain ⟨A, hA, e1⟩ := wordsN h l a1 a2
  obtain ⟨B, hB, e2⟩ := wordN b a3
  obtain ⟨D, hD, e3⟩ := wordsN h' l' a4 a5
  rw [e1, e2, e3, eq_law01_WideBack]
  unfold R_law01_WideBack
  by_cases h0 : B = 0
  · subst h0
    have f1 : CP C 12 F_wide_Div [wv A, .int .u64 ((0 : Nat) : Int)] = some (.tup [.agg [.int .u64 0, .int .u64 0], .int .u64 0, .int .i64 5]) := by rw [eq_wide_Div]; rfl
    rw [f1, sp_awake]
    simp only [k_bind, k_tup, k_agg, k_cons, k_int, k_nil, k_bool]
    rw [show (((0 : Nat) : Int) == 0) = true from rfl, cond_true, show ((5 : Int) == 5) = true from rfl, cond_true]
  · have hd := Nat.div_add_mod A B
    have hr : A % B < B := Nat.mod_lt _ (by omega)
    have hq : A / B ≤ A := Nat.div_le_self _ _
    have hh := halves (A / B) B
    rw [Nat.mul_comm B (A / B)] at hd
    have hlo : A / B % 18446744073709551616 * B < 340282366920938463463374607431768211456 := by omega
    have hhi : A / B / 18446744073709551616 * B < 18446744073709551616 := by omega
    have f1 : CP C 12 F_wide_Div [wv A, .int .u64 (B : Int)] = _ := sp_wide_Div 8 A B hA (by omega) hB
    have f2 : CP C 12 F_wide_Mul [.int .u64 ((A / B % 18446744073709551616 : Nat) : Int), .int .u64 (B : Int)] = _ := sp_wide_Mul 10 _ B (by omega) hB
    have f3 : CP C 12 F_wide_Mul [.int .u64 ((A / B / 18446744073709551616 : Nat) : Int), .int .u64 (B : Int)] = _ := sp_wide_Mul 10 _ B (by omega) hB
    have f4 : CP C 12 F_wide_Add [wv (A / B % 18446744073709551616 * B), wv (A / B / 18446744073709551616 * B * 18446744073709551616)] = _ := sp_wide_Add 11 _ _ hlo (by omega)
    rw [← hh, Nat.mod_eq_of_lt (show A / B * B < 340282366920938463463374607431768211456 by omega), decide_eq_false (show ¬ 340282366920938463463374607431768211456 ≤ A / B * B by omega)] at f4
    have f5 : CP C 12 F_wide_Add [wv (A / B * B), wv (A % B)] = _ := sp_wide_Add 11 _ _ (by omega) (by omega)
    rw [hd, Nat.mod_eq_of_lt hA, decide_eq_false (show ¬ 340282366920938463463374607431768211456 ≤ A by omega)] at f5
    have f6 : CP C 12 F_wide_Add [wv A, wv D] = _ := sp_wide_Add 11 A D hA hD
    have f7 : CP C 12 F_wide_Sub [wv ((A + D) % 340282366920938463463374607431768211456), wv D] = _ := sp_wide_Sub 11 _ D (by omega) hD
    rw [show ((A + D) % 340282366920938463463374607431768211456 + (340282366920938463463374607431768211456 - D)) % 340282366920938463463374607431768211456 = A by omega] at f7
    rw [f1, f6]
    simp only [k_bind, k_tup, k_agg, k_cons, k_int, k_nil, k_bool]
    rw [show ((B : Int) == 0) = false by rw [beq_eq_false_iff_ne]; omega, cond_false, f2, f3]
    simp only [k_bind, k_tup, k_agg, k_cons, k_int, k_nil, k_bool]
    rw [show A / B / 18446744073709551616 * B % 18446744073709551616 = A / B / 18446744073709551616 * B by omega, wv_high _ hhi, f4]
    simp only [k_bind, k_tup, k_agg, k_cons, k_int, k_nil, k_bool]
    rw [wv_low _ (by omega), f5]
    simp only [k_bind, k_tup, k_agg, k_cons, k_int, k_nil, k_bool]
    rw [f7, sp_awake]
    simp only [k_bind, k_tup, k_agg, k_cons, k_int, k_nil, k_bool, beq_self_eq_true, Bool.and_self, cT, Bool.not_false]
    rw [decide_eq_true (show ((A % B : Nat) : Int) < (B : Int) by omega), cond_true, show A / B / 18446744073709551616 * B / 18446744073709551616 = 0 by omega]
    rfl
end Go.Proofs.YtbikcndldcfffaaDoor.Sim.S
