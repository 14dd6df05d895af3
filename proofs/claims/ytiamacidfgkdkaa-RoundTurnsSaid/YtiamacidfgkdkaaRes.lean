/- What each function of the program answers, as a plain function, printed by a program of ours. Condition: none beyond what each theorem says. -/

import Derived.Test.YtiamacidfgkdkaaCfg
set_option maxRecDepth 100000
set_option linter.unusedVariables false
open Go Go.Proofs.Ytiamacidfgkdkaa.Sim Go.Proofs
namespace Go.Proofs.Ytiamacidfgkdkaa.Sim.S
-- round_find
def R_round_find (cp : FuncId → List AV → Option AV) (_n : Nat) (a0 : Int) : Option AV :=
 (cond (a0 == 0)
 (some (.tup [.agg [.bool false, .int .i64 0], .bool true]))
 (cond (a0 == 1)
 (some (.tup [.agg [.bool false, .int .i64 1], .bool true]))
 (cond (a0 == 2)
 (some (.tup [.agg [.bool false, .int .i64 2], .bool true]))
 (cond (a0 == 3)
 (some (.tup [.agg [.bool false, .int .i64 3], .bool true]))
 (cond (a0 == 5)
 (some (.tup [.agg [.bool true, .int .i64 3], .bool true]))
 (cond (a0 == 6)
 (some (.tup [.agg [.bool true, .int .i64 2], .bool true]))
 (cond (a0 == 7)
 (some (.tup [.agg [.bool true, .int .i64 0], .bool true]))
 (cond (a0 == 8)
 (some (.tup [.agg [.bool true, .int .i64 1], .bool true]))
 (some (.tup [.agg [.bool true, .int .i64 (-1)], .bool (a0 == 4)]))))))))))
theorem eq_round_find (n : Nat) (a0 : Int) : CP C (n + 1) F_round_find [.int .i64 a0] = R_round_find (CP C n) n a0 := by kernel_rfl
-- wide_Sub
def R_wide_Sub (cp : FuncId → List AV → Option AV) (_n : Nat) (a0_0 : Int) (a0_1 : Int) (a1_0 : Int) (a1_1 : Int) : Option AV :=
 (bnd (((((Int.toNat a0_1) + 18446744073709551616 - (Int.toNat a1_1) - 0) % 18446744073709551616 : Nat)) : Int) fun y1 =>
 (bnd ((if (Int.toNat a0_1) < (Int.toNat a1_1) + 0 then 1 else 0 : Nat) : Int) fun y2 =>
 (cond (decide ((Int.toNat y2) ≤ 1))
 (bnd (((((Int.toNat a0_0) + 18446744073709551616 - (Int.toNat a1_0) - (Int.toNat y2)) % 18446744073709551616 : Nat)) : Int) fun y3 =>
 (bnd ((if (Int.toNat a0_0) < (Int.toNat a1_0) + (Int.toNat y2) then 1 else 0 : Nat) : Int) fun y4 =>
 (some (.tup [.agg [.int .u64 y3, .int .u64 y1], .bool (y4 == 1)]))))
 none)))
theorem eq_wide_Sub (n : Nat) (a0_0 : Int) (a0_1 : Int) (a1_0 : Int) (a1_1 : Int) : CP C (n + 1) F_wide_Sub [.agg [.int .u64 a0_0, .int .u64 a0_1], .agg [.int .u64 a1_0, .int .u64 a1_1]] = R_wide_Sub (CP C n) n a0_0 a0_1 a1_0 a1_1 := by kernel_rfl
-- wide_Neg
def R_wide_Neg (cp : FuncId → List AV → Option AV) (_n : Nat) (a0_0 : Int) (a0_1 : Int) : Option AV :=
 ((cp F_wide_Sub [.agg [.int .u64 0, .int .u64 0], .agg [.int .u64 a0_0, .int .u64 a0_1]]).bind fun r1 =>
 (AV.tupK r1 fun l2 =>
 (consK l2 fun v3 l4 =>
 (AV.aggK v3 fun l5 =>
 (consK l5 fun v6 l7 =>
 (AV.intK .u64 v6 fun i8 =>
 (consK l7 fun v9 l10 =>
 (AV.intK .u64 v9 fun i11 =>
 (nilK l10
 (consK l4 fun v12 l13 =>
 (AV.boolK v12 fun b14 =>
 (nilK l13
 (some (.agg [.int .u64 i8, .int .u64 i11]))))))))))))))
theorem eq_wide_Neg (n : Nat) (a0_0 : Int) (a0_1 : Int) : CP C (n + 1) F_wide_Neg [.agg [.int .u64 a0_0, .int .u64 a0_1]] = R_wide_Neg (CP C n) n a0_0 a0_1 := by kernel_rfl
-- round_amount
def R_round_amount (cp : FuncId → List AV → Option AV) (_n : Nat) (a0_0 : Int) (a0_1 : Int) : Option AV :=
 (cond (decide (a0_0 ≥ 9223372036854775808))
 ((cp F_wide_Neg [.agg [.int .u64 a0_0, .int .u64 a0_1]]).bind fun r1 =>
 (AV.aggK r1 fun l2 =>
 (consK l2 fun v3 l4 =>
 (AV.intK .u64 v3 fun i5 =>
 (consK l4 fun v6 l7 =>
 (AV.intK .u64 v6 fun i8 =>
 (nilK l7
 (some (.tup [.agg [.int .u64 i5, .int .u64 i8], .bool true])))))))))
 (some (.tup [.agg [.int .u64 a0_0, .int .u64 a0_1], .bool false])))
theorem eq_round_amount (n : Nat) (a0_0 : Int) (a0_1 : Int) : CP C (n + 1) F_round_amount [.agg [.int .u64 a0_0, .int .u64 a0_1]] = R_round_amount (CP C n) n a0_0 a0_1 := by kernel_rfl
-- wide_Cmp
def R_wide_Cmp (cp : FuncId → List AV → Option AV) (_n : Nat) (a0_0 : Int) (a0_1 : Int) (a1_0 : Int) (a1_1 : Int) : Option AV :=
 (cond ((a0_0 == a1_0) && ((a0_1 == a1_1) && true))
 (some (.int .i64 0))
 ((cp F_wide_Sub [.agg [.int .u64 a0_0, .int .u64 a0_1], .agg [.int .u64 a1_0, .int .u64 a1_1]]).bind fun r1 =>
 (AV.tupK r1 fun l2 =>
 (consK l2 fun v3 l4 =>
 (AV.aggK v3 fun l5 =>
 (consK l5 fun v6 l7 =>
 (AV.intK .u64 v6 fun i8 =>
 (consK l7 fun v9 l10 =>
 (AV.intK .u64 v9 fun i11 =>
 (nilK l10
 (consK l4 fun v12 l13 =>
 (AV.boolK v12 fun b14 =>
 (nilK l13
 (cond b14
 (some (.int .i64 (-1)))
 (some (.int .i64 1))))))))))))))))
theorem eq_wide_Cmp (n : Nat) (a0_0 : Int) (a0_1 : Int) (a1_0 : Int) (a1_1 : Int) : CP C (n + 1) F_wide_Cmp [.agg [.int .u64 a0_0, .int .u64 a0_1], .agg [.int .u64 a1_0, .int .u64 a1_1]] = R_wide_Cmp (CP C n) n a0_0 a0_1 a1_0 a1_1 := by kernel_rfl
-- math_bits_Len64
def S_math_bits_Len64_31 (x0 : Int) (x1 : Int) : St := ⟨[.int .u64 x0, .junk, .int .i64 x1, .junk, .junk, .junk, .junk, .junk, .junk, .junk, .junk, .junk, .junk, .junk, .junk, .junk, .junk, .junk, .junk, .junk, .junk, .junk, .junk, .junk, .junk], []⟩
def T_math_bits_Len64_31 (cp : FuncId → List AV → Option AV) (x0 : Int) (x1 : Int) : Option AV :=
 (cond (decide (0 ≤ (IntKind.u8.wrap x0)))
 (match (ByteArray.mk #[0, 1, 2, 2, 3, 3, 3, 3, 4, 4, 4, 4, 4, 4, 4, 4, 5, 5, 5, 5, 5, 5, 5, 5, 5, 5, 5, 5, 5, 5, 5, 5, 6, 6, 6, 6, 6, 6, 6, 6, 6, 6, 6, 6, 6, 6, 6, 6, 6, 6, 6, 6, 6, 6, 6, 6, 6, 6, 6, 6, 6, 6, 6, 6, 7, 7, 7, 7, 7, 7, 7, 7, 7, 7, 7, 7, 7, 7, 7, 7, 7, 7, 7, 7, 7, 7, 7, 7, 7, 7, 7, 7, 7, 7, 7, 7, 7, 7, 7, 7, 7, 7, 7, 7, 7, 7, 7, 7, 7, 7, 7, 7, 7, 7, 7, 7, 7, 7, 7, 7, 7, 7, 7, 7, 7, 7, 7, 7, 8, 8, 8, 8, 8, 8, 8, 8, 8, 8, 8, 8, 8, 8, 8, 8, 8, 8, 8, 8, 8, 8, 8, 8, 8, 8, 8, 8, 8, 8, 8, 8, 8, 8, 8, 8, 8, 8, 8, 8, 8, 8, 8, 8, 8, 8, 8, 8, 8, 8, 8, 8, 8, 8, 8, 8, 8, 8, 8, 8, 8, 8, 8, 8, 8, 8, 8, 8, 8, 8, 8, 8, 8, 8, 8, 8, 8, 8, 8, 8, 8, 8, 8, 8, 8, 8, 8, 8, 8, 8, 8, 8, 8, 8, 8, 8, 8, 8, 8, 8, 8, 8, 8, 8, 8, 8, 8, 8, 8, 8, 8, 8, 8, 8, 8, 8, 8, 8, 8, 8, 8, 8, 8, 8, 8, 8, 8, 8])[(Int.toNat (IntKind.u8.wrap x0))]? with
 | some c1 => (bnd (IntKind.i64.wrap (x1 + (IntKind.i64.wrap ((c1.toNat : Nat) : Int)))) fun y2 =>
 (some (.int .i64 y2)))
 | none => none)
 none)
theorem K_math_bits_Len64_31 (j : Jump) (n : Nat) (x0 : Int) (x1 : Int) : enter (topEnv C (CP C n) n F_math_bits_Len64) (some j) (bodyOf C.P F_math_bits_Len64) (endOf C.P F_math_bits_Len64) [true, true, true, true] [] (S_math_bits_Len64_31 x0 x1) = T_math_bits_Len64_31 (CP C n) x0 x1 := by kernel_rfl
def J_math_bits_Len64_31 (cp : FuncId → List AV → Option AV) (n : Nat) (x0 : Int) (x1 : Int) : Option AV := T_math_bits_Len64_31 cp x0 x1
theorem JE_math_bits_Len64_31 (n : Nat) (x0 : Int) (x1 : Int) : jT (topEnv C (CP C n) n F_math_bits_Len64) (bodyOf C.P F_math_bits_Len64) (endOf C.P F_math_bits_Len64) [true, true, true, true] [] (S_math_bits_Len64_31 x0 x1) = J_math_bits_Len64_31 (CP C n) n x0 x1 :=
  (jT_eq _ _ _ _ _ _).trans ((K_math_bits_Len64_31 _ n x0 x1).trans (rfl))
def T_math_bits_Len64_1 (cp : FuncId → List AV → Option AV) (a0 : Int) (j31 : Int → Int → Option AV) : Option AV :=
 (cond (decide (a0 ≥ 4294967296))
 (cond (decide ((Int.fdiv a0 4294967296) ≥ 65536))
 (cond (decide ((Int.fdiv (Int.fdiv a0 4294967296) 65536) ≥ 256))
 (j31 (Int.fdiv (Int.fdiv (Int.fdiv a0 4294967296) 65536) 256) 56)
 (j31 (Int.fdiv (Int.fdiv a0 4294967296) 65536) 48))
 (cond (decide ((Int.fdiv a0 4294967296) ≥ 256))
 (j31 (Int.fdiv (Int.fdiv a0 4294967296) 256) 40)
 (j31 (Int.fdiv a0 4294967296) 32)))
 (cond (decide (a0 ≥ 65536))
 (cond (decide ((Int.fdiv a0 65536) ≥ 256))
 (j31 (Int.fdiv (Int.fdiv a0 65536) 256) 24)
 (j31 (Int.fdiv a0 65536) 16))
 (cond (decide (a0 ≥ 256))
 (j31 (Int.fdiv a0 256) 8)
 (j31 a0 0))))
theorem K_math_bits_Len64_1 (j : Jump) (n : Nat) (a0 : Int) : ex (topEnv C (CP C n) n F_math_bits_Len64) (some j) (bodyOf C.P F_math_bits_Len64) 1 [] [] (endOf C.P F_math_bits_Len64) (startOf C.P F_math_bits_Len64 [.int .u64 a0]) = T_math_bits_Len64_1 (CP C n) a0 (fun x0 x1 => j [true, true, true, true] [] (S_math_bits_Len64_31 x0 x1)) := by kernel_rfl
def R_math_bits_Len64 (cp : FuncId → List AV → Option AV) (n : Nat) (a0 : Int) : Option AV := T_math_bits_Len64_1 cp a0 (J_math_bits_Len64_31 cp n)
theorem eq_math_bits_Len64 (n : Nat) (a0 : Int) : CP C (n + 1) F_math_bits_Len64 [.int .u64 a0] = R_math_bits_Len64 (CP C n) n a0 :=
  (CP_pure C n F_math_bits_Len64 _ (by kernel_rfl) (by kernel_rfl)).trans ((K_math_bits_Len64_1 _ n a0).trans (congrArg (T_math_bits_Len64_1 (CP C n) a0) (funext fun x0 => (funext fun x1 => (JE_math_bits_Len64_31 n) x0 x1))))
-- math_bits_LeadingZeros64
def R_math_bits_LeadingZeros64 (cp : FuncId → List AV → Option AV) (_n : Nat) (a0 : Int) : Option AV :=
 ((cp F_math_bits_Len64 [.int .u64 a0]).bind fun r1 =>
 (AV.intK .i64 r1 fun i2 =>
 (some (.int .i64 (IntKind.i64.wrap (64 - i2))))))
theorem eq_math_bits_LeadingZeros64 (n : Nat) (a0 : Int) : CP C (n + 1) F_math_bits_LeadingZeros64 [.int .u64 a0] = R_math_bits_LeadingZeros64 (CP C n) n a0 := by kernel_rfl
-- math_bits_Div64
def S_math_bits_Div64_262136 (x0 : Int) (x1 : Int) (x2 : Int) (x3 : Int) (x4 : Int) (x5 : Int) (x6 : Int) (x7 : Int) (x8 : Int) : St := ⟨[.junk, .junk, .int .u64 x0, .junk, .junk, .junk, .junk, .junk, .int .u64 x1, .int .u64 x2, .int .u64 x3, .int .u64 x4, .junk, .int .u64 x5, .int .u64 x6, .int .u64 x7, .int .u64 x8, .junk, .junk, .junk, .junk, .junk, .junk, .junk, .junk, .junk, .junk, .junk, .junk, .junk, .junk, .junk, .junk, .junk, .junk, .junk, .junk, .junk, .junk, .junk, .junk, .junk, .junk, .junk, .junk, .junk, .junk, .junk, .junk, .junk, .junk, .junk, .junk, .junk, .junk, .junk, .junk, .junk, .junk, .junk, .junk, .junk, .junk, .junk, .junk, .junk, .junk, .junk, .junk, .junk, .junk, .junk, .junk, .junk, .junk, .junk, .junk, .junk, .junk, .junk, .junk, .junk, .junk, .junk, .junk, .junk, .junk, .junk, .junk, .junk, .junk, .junk, .junk, .junk, .junk, .junk, .junk, .junk, .junk, .junk, .junk, .junk, .junk, .junk, .junk, .junk, .junk, .junk, .junk, .junk, .junk, .junk, .junk, .junk, .junk, .junk, .junk, .junk, .junk, .junk, .junk, .junk, .junk, .junk, .junk, .junk, .junk, .junk, .junk, .junk, .junk, .junk, .junk, .junk, .junk], []⟩
def S_math_bits_Div64_4194296 (x0 : Int) (x1 : Int) (x2 : Int) (x3 : Int) (x4 : Int) (x5 : Int) (x6 : Int) (x7 : Int) (x8 : Int) : St := ⟨[.junk, .junk, .int .u64 x0, .junk, .junk, .junk, .junk, .junk, .int .u64 x1, .int .u64 x2, .int .u64 x3, .junk, .junk, .junk, .int .u64 x4, .int .u64 x5, .int .u64 x6, .int .u64 x7, .int .u64 x8, .junk, .junk, .junk, .junk, .junk, .junk, .junk, .junk, .junk, .junk, .junk, .junk, .junk, .junk, .junk, .junk, .junk, .junk, .junk, .junk, .junk, .junk, .junk, .junk, .junk, .junk, .junk, .junk, .junk, .junk, .junk, .junk, .junk, .junk, .junk, .junk, .junk, .junk, .junk, .junk, .junk, .junk, .junk, .junk, .junk, .junk, .junk, .junk, .junk, .junk, .junk, .junk, .junk, .junk, .junk, .junk, .junk, .junk, .junk, .junk, .junk, .junk, .junk, .junk, .junk, .junk, .junk, .junk, .junk, .junk, .junk, .junk, .junk, .junk, .junk, .junk, .junk, .junk, .junk, .junk, .junk, .junk, .junk, .junk, .junk, .junk, .junk, .junk, .junk, .junk, .junk, .junk, .junk, .junk, .junk, .junk, .junk, .junk, .junk, .junk, .junk, .junk, .junk, .junk, .junk, .junk, .junk, .junk, .junk, .junk, .junk, .junk, .junk, .junk, .junk, .junk], []⟩
def T_math_bits_Div64_4194296 (cp : FuncId → List AV → Option AV) (x0 : Int) (x1 : Int) (x2 : Int) (x3 : Int) (x4 : Int) (x5 : Int) (x6 : Int) (x7 : Int) (x8 : Int) (r4194296 : Int → Int → Int → Int → Int → Int → Int → Int → Int → Option AV) : Option AV :=
 (cond (decide (x8 ≥ 4294967296))
 (cond (decide ((IntKind.u64.wrap (x6 + x2)) ≥ 4294967296))
 (bnd (IntKind.u64.wrap ((IntKind.u64.wrap (x5 * 4294967296)) + (IntKind.u64.wrap (x8 - 1)))) fun y1 =>
 (bnd (IntKind.u64.wrap ((IntKind.u64.wrap (x7 * 4294967296)) + x4)) fun y2 =>
 (bnd (IntKind.u64.wrap (y2 - (IntKind.u64.wrap ((IntKind.u64.wrap (x8 - 1)) * x0)))) fun y3 =>
 (cond (decide (x1 < 0))
 none
 (some (.tup [.int .u64 y1, .int .u64 (Int.fdiv y3 (2 ^ (min (Int.toNat x1) 64)))]))))))
 (r4194296 x0 x1 x2 x3 x4 x5 (IntKind.u64.wrap (x6 + x2)) x7 (IntKind.u64.wrap (x8 - 1))))
 (bnd (IntKind.u64.wrap ((IntKind.u64.wrap (4294967296 * x6)) + x4)) fun y4 =>
 (cond (decide ((IntKind.u64.wrap (x8 * x3)) > y4))
 (cond (decide ((IntKind.u64.wrap (x6 + x2)) ≥ 4294967296))
 (bnd (IntKind.u64.wrap ((IntKind.u64.wrap (x5 * 4294967296)) + (IntKind.u64.wrap (x8 - 1)))) fun y5 =>
 (bnd (IntKind.u64.wrap ((IntKind.u64.wrap (x7 * 4294967296)) + x4)) fun y6 =>
 (bnd (IntKind.u64.wrap (y6 - (IntKind.u64.wrap ((IntKind.u64.wrap (x8 - 1)) * x0)))) fun y7 =>
 (cond (decide (x1 < 0))
 none
 (some (.tup [.int .u64 y5, .int .u64 (Int.fdiv y7 (2 ^ (min (Int.toNat x1) 64)))]))))))
 (r4194296 x0 x1 x2 x3 x4 x5 (IntKind.u64.wrap (x6 + x2)) x7 (IntKind.u64.wrap (x8 - 1))))
 (bnd (IntKind.u64.wrap ((IntKind.u64.wrap (x5 * 4294967296)) + x8)) fun y8 =>
 (bnd (IntKind.u64.wrap ((IntKind.u64.wrap (x7 * 4294967296)) + x4)) fun y9 =>
 (cond (decide (x1 < 0))
 none
 (bnd (Int.fdiv (IntKind.u64.wrap (y9 - (IntKind.u64.wrap (x8 * x0)))) (2 ^ (min (Int.toNat x1) 64))) fun y10 =>
 (some (.tup [.int .u64 y8, .int .u64 y10])))))))))
theorem K_math_bits_Div64_4194296 (j : Jump) (n : Nat) (m4194296 : Nat) (x0 : Int) (x1 : Int) (x2 : Int) (x3 : Int) (x4 : Int) (x5 : Int) (x6 : Int) (x7 : Int) (x8 : Int) : enter (topEnv C (CP C n) n F_math_bits_Div64) (some j) (bodyOf C.P F_math_bits_Div64) (endOf C.P F_math_bits_Div64) [false, false, false, true, true, true, true, true, true, true, true, true, true, true, true, true, true, true, true, true, true] [(m4194296 + 1)] (S_math_bits_Div64_4194296 x0 x1 x2 x3 x4 x5 x6 x7 x8) = T_math_bits_Div64_4194296 (CP C n) x0 x1 x2 x3 x4 x5 x6 x7 x8 (fun x0 x1 x2 x3 x4 x5 x6 x7 x8 => j [false, false, false, true, true, true, true, true, true, true, true, true, true, true, true, true, true, true, true, true, true] [m4194296] (S_math_bits_Div64_4194296 x0 x1 x2 x3 x4 x5 x6 x7 x8)) := by kernel_rfl
def J_math_bits_Div64_4194296 (cp : FuncId → List AV → Option AV) (n : Nat) : Nat → Int → Int → Int → Int → Int → Int → Int → Int → Int → Option AV
  | 0 => (fun x0 x1 x2 x3 x4 x5 x6 x7 x8 => none)
  | m + 1 => (fun x0 x1 x2 x3 x4 x5 x6 x7 x8 => T_math_bits_Div64_4194296 cp x0 x1 x2 x3 x4 x5 x6 x7 x8 (J_math_bits_Div64_4194296 cp n m))
theorem Js_math_bits_Div64_4194296 (cp : FuncId → List AV → Option AV) (n : Nat) (m : Nat) (x0 : Int) (x1 : Int) (x2 : Int) (x3 : Int) (x4 : Int) (x5 : Int) (x6 : Int) (x7 : Int) (x8 : Int) : J_math_bits_Div64_4194296 cp n (m + 1) x0 x1 x2 x3 x4 x5 x6 x7 x8 = T_math_bits_Div64_4194296 cp x0 x1 x2 x3 x4 x5 x6 x7 x8 (J_math_bits_Div64_4194296 cp n m) := of_eq_true (eq_self _)
theorem JE_math_bits_Div64_4194296 (n : Nat) : ∀ (m : Nat) (x0 : Int) (x1 : Int) (x2 : Int) (x3 : Int) (x4 : Int) (x5 : Int) (x6 : Int) (x7 : Int) (x8 : Int), jT (topEnv C (CP C n) n F_math_bits_Div64) (bodyOf C.P F_math_bits_Div64) (endOf C.P F_math_bits_Div64) [false, false, false, true, true, true, true, true, true, true, true, true, true, true, true, true, true, true, true, true, true] [m] (S_math_bits_Div64_4194296 x0 x1 x2 x3 x4 x5 x6 x7 x8) = J_math_bits_Div64_4194296 (CP C n) n m x0 x1 x2 x3 x4 x5 x6 x7 x8
  | 0, x0, x1, x2, x3, x4, x5, x6, x7, x8 => (jT_eq _ _ _ _ _ _).trans (by kernel_rfl)
  | m + 1, x0, x1, x2, x3, x4, x5, x6, x7, x8 => (jT_eq _ _ _ _ _ _).trans ((K_math_bits_Div64_4194296 _ n m x0 x1 x2 x3 x4 x5 x6 x7 x8).trans (congrArg (T_math_bits_Div64_4194296 (CP C n) x0 x1 x2 x3 x4 x5 x6 x7 x8) (funext fun x0 => (funext fun x1 => (funext fun x2 => (funext fun x3 => (funext fun x4 => (funext fun x5 => (funext fun x6 => (funext fun x7 => (funext fun x8 => (JE_math_bits_Div64_4194296 n m) x0 x1 x2 x3 x4 x5 x6 x7 x8)))))))))))
def T_math_bits_Div64_262136 (cp : FuncId → List AV → Option AV) (x0 : Int) (x1 : Int) (x2 : Int) (x3 : Int) (x4 : Int) (x5 : Int) (x6 : Int) (x7 : Int) (x8 : Int) (j4194296 : Int → Int → Int → Int → Int → Int → Int → Int → Int → Option AV) (r262136 : Int → Int → Int → Int → Int → Int → Int → Int → Int → Option AV) : Option AV :=
 (cond (decide (x7 ≥ 4294967296))
 (cond (decide ((IntKind.u64.wrap (x8 + x2)) ≥ 4294967296))
 (bnd (IntKind.u64.wrap ((IntKind.u64.wrap (x4 * 4294967296)) + x5)) fun y1 =>
 (bnd (IntKind.u64.wrap (y1 - (IntKind.u64.wrap ((IntKind.u64.wrap (x7 - 1)) * x0)))) fun y2 =>
 (cond (decide (x2 = 0))
 none
 (bnd (IntKind.u64.wrap ((IntKind.u64.wrap (Int.tdiv y2 x2)) * x2)) fun y3 =>
 (j4194296 x0 x1 x2 x3 x6 (IntKind.u64.wrap (x7 - 1)) (IntKind.u64.wrap (y2 - y3)) y2 (IntKind.u64.wrap (Int.tdiv y2 x2)))))))
 (r262136 x0 x1 x2 x3 x4 x5 x6 (IntKind.u64.wrap (x7 - 1)) (IntKind.u64.wrap (x8 + x2))))
 (bnd (IntKind.u64.wrap ((IntKind.u64.wrap (4294967296 * x8)) + x5)) fun y4 =>
 (cond (decide ((IntKind.u64.wrap (x7 * x3)) > y4))
 (cond (decide ((IntKind.u64.wrap (x8 + x2)) ≥ 4294967296))
 (bnd (IntKind.u64.wrap ((IntKind.u64.wrap (x4 * 4294967296)) + x5)) fun y5 =>
 (bnd (IntKind.u64.wrap (y5 - (IntKind.u64.wrap ((IntKind.u64.wrap (x7 - 1)) * x0)))) fun y6 =>
 (cond (decide (x2 = 0))
 none
 (bnd (IntKind.u64.wrap ((IntKind.u64.wrap (Int.tdiv y6 x2)) * x2)) fun y7 =>
 (j4194296 x0 x1 x2 x3 x6 (IntKind.u64.wrap (x7 - 1)) (IntKind.u64.wrap (y6 - y7)) y6 (IntKind.u64.wrap (Int.tdiv y6 x2)))))))
 (r262136 x0 x1 x2 x3 x4 x5 x6 (IntKind.u64.wrap (x7 - 1)) (IntKind.u64.wrap (x8 + x2))))
 (bnd (IntKind.u64.wrap ((IntKind.u64.wrap (x4 * 4294967296)) + x5)) fun y8 =>
 (cond (decide (x2 = 0))
 none
 (bnd (IntKind.u64.wrap (Int.tdiv (IntKind.u64.wrap (y8 - (IntKind.u64.wrap (x7 * x0)))) x2)) fun y9 =>
 (bnd (IntKind.u64.wrap ((IntKind.u64.wrap (y8 - (IntKind.u64.wrap (x7 * x0)))) - (IntKind.u64.wrap (y9 * x2)))) fun y10 =>
 (j4194296 x0 x1 x2 x3 x6 x7 y10 (IntKind.u64.wrap (y8 - (IntKind.u64.wrap (x7 * x0)))) y9))))))))
theorem K_math_bits_Div64_262136 (j : Jump) (n : Nat) (m262136 : Nat) (x0 : Int) (x1 : Int) (x2 : Int) (x3 : Int) (x4 : Int) (x5 : Int) (x6 : Int) (x7 : Int) (x8 : Int) : enter (topEnv C (CP C n) n F_math_bits_Div64) (some j) (bodyOf C.P F_math_bits_Div64) (endOf C.P F_math_bits_Div64) [false, false, false, true, true, true, true, true, true, true, true, true, true, true, true, true, true] [(m262136 + 1)] (S_math_bits_Div64_262136 x0 x1 x2 x3 x4 x5 x6 x7 x8) = T_math_bits_Div64_262136 (CP C n) x0 x1 x2 x3 x4 x5 x6 x7 x8 (fun x0 x1 x2 x3 x4 x5 x6 x7 x8 => j [false, false, false, true, true, true, true, true, true, true, true, true, true, true, true, true, true, true, true, true, true] [(n + 300)] (S_math_bits_Div64_4194296 x0 x1 x2 x3 x4 x5 x6 x7 x8)) (fun x0 x1 x2 x3 x4 x5 x6 x7 x8 => j [false, false, false, true, true, true, true, true, true, true, true, true, true, true, true, true, true] [m262136] (S_math_bits_Div64_262136 x0 x1 x2 x3 x4 x5 x6 x7 x8)) := by kernel_rfl
def J_math_bits_Div64_262136 (cp : FuncId → List AV → Option AV) (n : Nat) : Nat → Int → Int → Int → Int → Int → Int → Int → Int → Int → Option AV
  | 0 => (fun x0 x1 x2 x3 x4 x5 x6 x7 x8 => none)
  | m + 1 => (fun x0 x1 x2 x3 x4 x5 x6 x7 x8 => T_math_bits_Div64_262136 cp x0 x1 x2 x3 x4 x5 x6 x7 x8 (J_math_bits_Div64_4194296 cp n (n + 300)) (J_math_bits_Div64_262136 cp n m))
theorem Js_math_bits_Div64_262136 (cp : FuncId → List AV → Option AV) (n : Nat) (m : Nat) (x0 : Int) (x1 : Int) (x2 : Int) (x3 : Int) (x4 : Int) (x5 : Int) (x6 : Int) (x7 : Int) (x8 : Int) : J_math_bits_Div64_262136 cp n (m + 1) x0 x1 x2 x3 x4 x5 x6 x7 x8 = T_math_bits_Div64_262136 cp x0 x1 x2 x3 x4 x5 x6 x7 x8 (J_math_bits_Div64_4194296 cp n (n + 300)) (J_math_bits_Div64_262136 cp n m) := of_eq_true (eq_self _)
theorem JE_math_bits_Div64_262136 (n : Nat) : ∀ (m : Nat) (x0 : Int) (x1 : Int) (x2 : Int) (x3 : Int) (x4 : Int) (x5 : Int) (x6 : Int) (x7 : Int) (x8 : Int), jT (topEnv C (CP C n) n F_math_bits_Div64) (bodyOf C.P F_math_bits_Div64) (endOf C.P F_math_bits_Div64) [false, false, false, true, true, true, true, true, true, true, true, true, true, true, true, true, true] [m] (S_math_bits_Div64_262136 x0 x1 x2 x3 x4 x5 x6 x7 x8) = J_math_bits_Div64_262136 (CP C n) n m x0 x1 x2 x3 x4 x5 x6 x7 x8
  | 0, x0, x1, x2, x3, x4, x5, x6, x7, x8 => (jT_eq _ _ _ _ _ _).trans (by kernel_rfl)
  | m + 1, x0, x1, x2, x3, x4, x5, x6, x7, x8 => (jT_eq _ _ _ _ _ _).trans ((K_math_bits_Div64_262136 _ n m x0 x1 x2 x3 x4 x5 x6 x7 x8).trans (congr (congrArg (T_math_bits_Div64_262136 (CP C n) x0 x1 x2 x3 x4 x5 x6 x7 x8) (funext fun x0 => (funext fun x1 => (funext fun x2 => (funext fun x3 => (funext fun x4 => (funext fun x5 => (funext fun x6 => (funext fun x7 => (funext fun x8 => (JE_math_bits_Div64_4194296 n (n + 300)) x0 x1 x2 x3 x4 x5 x6 x7 x8)))))))))) (funext fun x0 => (funext fun x1 => (funext fun x2 => (funext fun x3 => (funext fun x4 => (funext fun x5 => (funext fun x6 => (funext fun x7 => (funext fun x8 => (JE_math_bits_Div64_262136 n m) x0 x1 x2 x3 x4 x5 x6 x7 x8)))))))))))
def T_math_bits_Div64_1 (cp : FuncId → List AV → Option AV) (a0 : Int) (a1 : Int) (a2 : Int) (j262136 : Int → Int → Int → Int → Int → Int → Int → Int → Int → Option AV) : Option AV :=
 (cond (a2 == 0)
 none
 (cond (decide (a2 ≤ a0))
 none
 (cond (a0 == 0)
 (cond (decide (a2 = 0))
 none
 (cond (decide (a2 = 0))
 none
 (some (.tup [.int .u64 (IntKind.u64.wrap (Int.tdiv a1 a2)), .int .u64 (Int.tmod a1 a2)]))))
 ((cp F_math_bits_LeadingZeros64 [.int .u64 a2]).bind fun r1 =>
 (AV.intK .i64 r1 fun i2 =>
 (cond (decide ((IntKind.u64.wrap i2) < 0))
 none
 (bnd (IntKind.u64.wrap (a2 * (2 ^ (min (Int.toNat (IntKind.u64.wrap i2)) 64)))) fun y3 =>
 (bnd (IntKind.u64.wrap ((BitVec.ofInt 64 y3 &&& BitVec.ofInt 64 4294967295).toNat : Int)) fun y4 =>
 (cond (decide ((IntKind.u64.wrap i2) < 0))
 none
 (bnd (IntKind.u64.wrap (a0 * (2 ^ (min (Int.toNat (IntKind.u64.wrap i2)) 64)))) fun y5 =>
 (cond (decide ((IntKind.u64.wrap (64 - (IntKind.u64.wrap i2))) < 0))
 none
 (bnd (Int.fdiv a1 (2 ^ (min (Int.toNat (IntKind.u64.wrap (64 - (IntKind.u64.wrap i2)))) 64))) fun y6 =>
 (bnd (IntKind.u64.wrap ((BitVec.ofInt 64 y5 ||| BitVec.ofInt 64 y6).toNat : Int)) fun y7 =>
 (cond (decide ((IntKind.u64.wrap i2) < 0))
 none
 (bnd (IntKind.u64.wrap (a1 * (2 ^ (min (Int.toNat (IntKind.u64.wrap i2)) 64)))) fun y8 =>
 (bnd (IntKind.u64.wrap ((BitVec.ofInt 64 y8 &&& BitVec.ofInt 64 4294967295).toNat : Int)) fun y9 =>
 (cond (decide ((Int.fdiv y3 4294967296) = 0))
 none
 (bnd (IntKind.u64.wrap ((IntKind.u64.wrap (Int.tdiv y7 (Int.fdiv y3 4294967296))) * (Int.fdiv y3 4294967296))) fun y10 =>
 (j262136 y3 (IntKind.u64.wrap i2) (Int.fdiv y3 4294967296) y4 y7 (Int.fdiv y8 4294967296) y9 (IntKind.u64.wrap (Int.tdiv y7 (Int.fdiv y3 4294967296))) (IntKind.u64.wrap (y7 - y10)))))))))))))))))))))
theorem K_math_bits_Div64_1 (j : Jump) (n : Nat) (a0 : Int) (a1 : Int) (a2 : Int) : ex (topEnv C (CP C n) n F_math_bits_Div64) (some j) (bodyOf C.P F_math_bits_Div64) 1 [] [] (endOf C.P F_math_bits_Div64) (startOf C.P F_math_bits_Div64 [.int .u64 a0, .int .u64 a1, .int .u64 a2]) = T_math_bits_Div64_1 (CP C n) a0 a1 a2 (fun x0 x1 x2 x3 x4 x5 x6 x7 x8 => j [false, false, false, true, true, true, true, true, true, true, true, true, true, true, true, true, true] [(n + 300)] (S_math_bits_Div64_262136 x0 x1 x2 x3 x4 x5 x6 x7 x8)) := by kernel_rfl
def R_math_bits_Div64 (cp : FuncId → List AV → Option AV) (n : Nat) (a0 : Int) (a1 : Int) (a2 : Int) : Option AV := T_math_bits_Div64_1 cp a0 a1 a2 (J_math_bits_Div64_262136 cp n (n + 300))
theorem eq_math_bits_Div64 (n : Nat) (a0 : Int) (a1 : Int) (a2 : Int) : CP C (n + 1) F_math_bits_Div64 [.int .u64 a0, .int .u64 a1, .int .u64 a2] = R_math_bits_Div64 (CP C n) n a0 a1 a2 :=
  (CP_pure C n F_math_bits_Div64 _ (by kernel_rfl) (by kernel_rfl)).trans ((K_math_bits_Div64_1 _ n a0 a1 a2).trans (congrArg (T_math_bits_Div64_1 (CP C n) a0 a1 a2) (funext fun x0 => (funext fun x1 => (funext fun x2 => (funext fun x3 => (funext fun x4 => (funext fun x5 => (funext fun x6 => (funext fun x7 => (funext fun x8 => (JE_math_bits_Div64_262136 n (n + 300)) x0 x1 x2 x3 x4 x5 x6 x7 x8)))))))))))
-- wide_Div
def R_wide_Div (cp : FuncId → List AV → Option AV) (_n : Nat) (a0_0 : Int) (a0_1 : Int) (a1 : Int) : Option AV :=
 (cond (a1 == 0)
 (some (.tup [.agg [.int .u64 0, .int .u64 0], .int .u64 0, .int .i64 5]))
 (cond (decide (a1 = 0))
 none
 ((cp F_math_bits_Div64 [.int .u64 (Int.tmod a0_0 a1), .int .u64 a0_1, .int .u64 a1]).bind fun r1 =>
 (AV.tupK r1 fun l2 =>
 (consK l2 fun v3 l4 =>
 (AV.intK .u64 v3 fun i5 =>
 (consK l4 fun v6 l7 =>
 (AV.intK .u64 v6 fun i8 =>
 (nilK l7
 (cond (decide (a1 = 0))
 none
 (some (.tup [.agg [.int .u64 (IntKind.u64.wrap (Int.tdiv a0_0 a1)), .int .u64 i5], .int .u64 i8, .int .i64 0]))))))))))))
theorem eq_wide_Div (n : Nat) (a0_0 : Int) (a0_1 : Int) (a1 : Int) : CP C (n + 1) F_wide_Div [.agg [.int .u64 a0_0, .int .u64 a0_1], .int .u64 a1] = R_wide_Div (CP C n) n a0_0 a0_1 a1 := by kernel_rfl
-- round_divide
def S_round_divide_504 (x0 : Int) (x1 : Int) (x2 : Int) (x3 : Int) (x4 : Int) (x5 : Int) : St := ⟨[.junk, .junk, .ptr (some (0, 0)), .junk, .ptr (some (2, 0)), .ptr (some (3, 0)), .junk, .junk, .junk, .int .u64 x0, .int .i64 x1, .ptr (some (19, 0)), .junk, .junk, .junk, .junk, .junk, .junk, .junk, .junk, .junk, .junk, .junk, .junk, .junk, .junk, .junk, .junk, .junk, .junk, .junk, .junk, .junk, .junk, .junk, .junk, .junk, .junk, .junk, .junk, .junk, .junk, .junk, .junk, .junk, .junk, .junk, .junk, .junk, .junk, .junk, .junk, .junk, .junk, .junk, .junk, .junk, .junk, .junk, .junk, .junk, .junk, .junk, .junk, .junk, .junk, .junk, .junk, .junk, .junk, .junk, .junk, .junk, .junk, .junk, .junk], [.cells 24 [.int .u64 x2, .int .u64 x3], .dead, .cells 24 [.int .u64 0, .int .u64 0], .cells 24 [.int .u64 0, .int .u64 0], .dead, .dead, .dead, .dead, .dead, .dead, .dead, .dead, .dead, .dead, .dead, .dead, .dead, .dead, .dead, .cells 24 [.int .u64 x4, .int .u64 x5], .dead]⟩
def T_round_divide_504 (cp : FuncId → List AV → Option AV) (x0 : Int) (x1 : Int) (x2 : Int) (x3 : Int) (x4 : Int) (x5 : Int) (r504 : Int → Int → Int → Int → Int → Int → Option AV) : Option AV :=
 (cond (decide (x1 ≥ 0))
 ((cp F_wide_Cmp [.agg [.int .u64 x2, .int .u64 x3], .agg [.int .u64 x4, .int .u64 x5]]).bind fun r1 =>
 (AV.intK .i64 r1 fun i2 =>
 (cond (decide (i2 ≥ 0))
 ((cp F_wide_Sub [.agg [.int .u64 x2, .int .u64 x3], .agg [.int .u64 x4, .int .u64 x5]]).bind fun r3 =>
 (AV.tupK r3 fun l4 =>
 (consK l4 fun v5 l6 =>
 (AV.aggK v5 fun l7 =>
 (consK l7 fun v8 l9 =>
 (AV.intK .u64 v8 fun i10 =>
 (consK l9 fun v11 l12 =>
 (AV.intK .u64 v11 fun i13 =>
 (nilK l12
 (consK l6 fun v14 l15 =>
 (AV.boolK v14 fun b16 =>
 (nilK l15
 (bnd (IntKind.u64.wrap ((BitVec.ofInt 64 (IntKind.u64.wrap (x0 * 2)) ||| BitVec.ofInt 64 1).toNat : Int)) fun y17 =>
 (bnd (IntKind.u64.wrap ((BitVec.ofInt 64 (Int.fdiv x5 2) ||| BitVec.ofInt 64 (IntKind.u64.wrap (x4 * 9223372036854775808))).toNat : Int)) fun y18 =>
 (r504 y17 (IntKind.i64.wrap (x1 - 1)) i10 i13 (Int.fdiv x4 2) y18)))))))))))))))
 (bnd (IntKind.u64.wrap ((BitVec.ofInt 64 (Int.fdiv x5 2) ||| BitVec.ofInt 64 (IntKind.u64.wrap (x4 * 9223372036854775808))).toNat : Int)) fun y19 =>
 (r504 (IntKind.u64.wrap (x0 * 2)) (IntKind.i64.wrap (x1 - 1)) x2 x3 (Int.fdiv x4 2) y19)))))
 (some (.tup [.agg [.int .u64 0, .int .u64 x0], .agg [.int .u64 x2, .int .u64 x3]])))
theorem K_round_divide_504 (j : Jump) (n : Nat) (m504 : Nat) (x0 : Int) (x1 : Int) (x2 : Int) (x3 : Int) (x4 : Int) (x5 : Int) : enter (topEnv C (CP C n) n F_round_divide) (some j) (bodyOf C.P F_round_divide) (endOf C.P F_round_divide) [false, false, false, true, true, true, true, true] [(m504 + 1)] (S_round_divide_504 x0 x1 x2 x3 x4 x5) = T_round_divide_504 (CP C n) x0 x1 x2 x3 x4 x5 (fun x0 x1 x2 x3 x4 x5 => j [false, false, false, true, true, true, true, true] [m504] (S_round_divide_504 x0 x1 x2 x3 x4 x5)) := by kernel_rfl
def J_round_divide_504 (cp : FuncId → List AV → Option AV) (n : Nat) : Nat → Int → Int → Int → Int → Int → Int → Option AV
  | 0 => (fun x0 x1 x2 x3 x4 x5 => none)
  | m + 1 => (fun x0 x1 x2 x3 x4 x5 => T_round_divide_504 cp x0 x1 x2 x3 x4 x5 (J_round_divide_504 cp n m))
theorem Js_round_divide_504 (cp : FuncId → List AV → Option AV) (n : Nat) (m : Nat) (x0 : Int) (x1 : Int) (x2 : Int) (x3 : Int) (x4 : Int) (x5 : Int) : J_round_divide_504 cp n (m + 1) x0 x1 x2 x3 x4 x5 = T_round_divide_504 cp x0 x1 x2 x3 x4 x5 (J_round_divide_504 cp n m) := of_eq_true (eq_self _)
theorem JE_round_divide_504 (n : Nat) : ∀ (m : Nat) (x0 : Int) (x1 : Int) (x2 : Int) (x3 : Int) (x4 : Int) (x5 : Int), jT (topEnv C (CP C n) n F_round_divide) (bodyOf C.P F_round_divide) (endOf C.P F_round_divide) [false, false, false, true, true, true, true, true] [m] (S_round_divide_504 x0 x1 x2 x3 x4 x5) = J_round_divide_504 (CP C n) n m x0 x1 x2 x3 x4 x5
  | 0, x0, x1, x2, x3, x4, x5 => (jT_eq _ _ _ _ _ _).trans (by kernel_rfl)
  | m + 1, x0, x1, x2, x3, x4, x5 => (jT_eq _ _ _ _ _ _).trans ((K_round_divide_504 _ n m x0 x1 x2 x3 x4 x5).trans (congrArg (T_round_divide_504 (CP C n) x0 x1 x2 x3 x4 x5) (funext fun x0 => (funext fun x1 => (funext fun x2 => (funext fun x3 => (funext fun x4 => (funext fun x5 => (JE_round_divide_504 n m) x0 x1 x2 x3 x4 x5))))))))
def T_round_divide_1 (cp : FuncId → List AV → Option AV) (a0_0 : Int) (a0_1 : Int) (a1_0 : Int) (a1_1 : Int) (j504 : Int → Int → Int → Int → Int → Int → Option AV) : Option AV :=
 (cond (a1_0 == 0)
 ((cp F_wide_Div [.agg [.int .u64 a0_0, .int .u64 a0_1], .int .u64 a1_1]).bind fun r1 =>
 (AV.tupK r1 fun l2 =>
 (consK l2 fun v3 l4 =>
 (AV.aggK v3 fun l5 =>
 (consK l5 fun v6 l7 =>
 (AV.intK .u64 v6 fun i8 =>
 (consK l7 fun v9 l10 =>
 (AV.intK .u64 v9 fun i11 =>
 (nilK l10
 (consK l4 fun v12 l13 =>
 (AV.intK .u64 v12 fun i14 =>
 (consK l13 fun v15 l16 =>
 (AV.intK .i64 v15 fun i17 =>
 (nilK l16
 (some (.tup [.agg [.int .u64 i8, .int .u64 i11], .agg [.int .u64 0, .int .u64 i14]]))))))))))))))))
 ((cp F_math_bits_LeadingZeros64 [.int .u64 a1_0]).bind fun r18 =>
 (AV.intK .i64 r18 fun i19 =>
 (cond (decide (i19 < 0))
 none
 (cond (decide ((IntKind.i64.wrap (64 - i19)) < 0))
 none
 (bnd (Int.fdiv a1_1 (2 ^ (min (Int.toNat (IntKind.i64.wrap (64 - i19))) 64))) fun y20 =>
 (bnd (IntKind.u64.wrap ((BitVec.ofInt 64 (IntKind.u64.wrap (a1_0 * (2 ^ (min (Int.toNat i19) 64)))) ||| BitVec.ofInt 64 y20).toNat : Int)) fun y21 =>
 (cond (decide (i19 < 0))
 none
 (j504 0 i19 a0_0 a0_1 y21 (IntKind.u64.wrap (a1_1 * (2 ^ (min (Int.toNat i19) 64)))))))))))))
theorem K_round_divide_1 (j : Jump) (n : Nat) (a0_0 : Int) (a0_1 : Int) (a1_0 : Int) (a1_1 : Int) : ex (topEnv C (CP C n) n F_round_divide) (some j) (bodyOf C.P F_round_divide) 1 [] [] (endOf C.P F_round_divide) (startOf C.P F_round_divide [.agg [.int .u64 a0_0, .int .u64 a0_1], .agg [.int .u64 a1_0, .int .u64 a1_1]]) = T_round_divide_1 (CP C n) a0_0 a0_1 a1_0 a1_1 (fun x0 x1 x2 x3 x4 x5 => j [false, false, false, true, true, true, true, true] [(n + 300)] (S_round_divide_504 x0 x1 x2 x3 x4 x5)) := by kernel_rfl
def R_round_divide (cp : FuncId → List AV → Option AV) (n : Nat) (a0_0 : Int) (a0_1 : Int) (a1_0 : Int) (a1_1 : Int) : Option AV := T_round_divide_1 cp a0_0 a0_1 a1_0 a1_1 (J_round_divide_504 cp n (n + 300))
theorem eq_round_divide (n : Nat) (a0_0 : Int) (a0_1 : Int) (a1_0 : Int) (a1_1 : Int) : CP C (n + 1) F_round_divide [.agg [.int .u64 a0_0, .int .u64 a0_1], .agg [.int .u64 a1_0, .int .u64 a1_1]] = R_round_divide (CP C n) n a0_0 a0_1 a1_0 a1_1 :=
  (CP_pure C n F_round_divide _ (by kernel_rfl) (by kernel_rfl)).trans ((K_round_divide_1 _ n a0_0 a0_1 a1_0 a1_1).trans (congrArg (T_round_divide_1 (CP C n) a0_0 a0_1 a1_0 a1_1) (funext fun x0 => (funext fun x1 => (funext fun x2 => (funext fun x3 => (funext fun x4 => (funext fun x5 => (JE_round_divide_504 n (n + 300)) x0 x1 x2 x3 x4 x5))))))))
-- round_farther
def R_round_farther (cp : FuncId → List AV → Option AV) (_n : Nat) (a0_0 : Bool) (a0_1 : Int) (a1 : Bool) (a2_0 : Int) (a2_1 : Int) (a3_0 : Int) (a3_1 : Int) (a4_0 : Int) (a4_1 : Int) : Option AV :=
 (cond a0_0
 ((cp F_wide_Sub [.agg [.int .u64 a4_0, .int .u64 a4_1], .agg [.int .u64 a3_0, .int .u64 a3_1]]).bind fun r1 =>
 (AV.tupK r1 fun l2 =>
 (consK l2 fun v3 l4 =>
 (AV.aggK v3 fun l5 =>
 (consK l5 fun v6 l7 =>
 (AV.intK .u64 v6 fun i8 =>
 (consK l7 fun v9 l10 =>
 (AV.intK .u64 v9 fun i11 =>
 (nilK l10
 (consK l4 fun v12 l13 =>
 (AV.boolK v12 fun b14 =>
 (nilK l13
 ((cp F_wide_Cmp [.agg [.int .u64 a3_0, .int .u64 a3_1], .agg [.int .u64 i8, .int .u64 i11]]).bind fun r15 =>
 (AV.intK .i64 r15 fun i16 =>
 (cond (i16 != 0)
 (some (.bool (decide (i16 > 0))))
 (cond (a0_1 == 0)
 (some (.bool a1))
 (cond (a0_1 == 1)
 (some (.bool (!a1)))
 (cond (a0_1 == 2)
 (some (.bool false))
 (cond (a0_1 == 3)
 (some (.bool true))
 (bnd (IntKind.u64.wrap ((BitVec.ofInt 64 a2_1 &&& BitVec.ofInt 64 1).toNat : Int)) fun y17 =>
 (some (.bool (y17 == 1)))))))))))))))))))))))
 (cond (a0_1 == 0)
 (some (.bool a1))
 (cond (a0_1 == 1)
 (some (.bool (!a1)))
 (cond (a0_1 == 2)
 (some (.bool false))
 (cond (a0_1 == 3)
 (some (.bool true))
 (bnd (IntKind.u64.wrap ((BitVec.ofInt 64 a2_1 &&& BitVec.ofInt 64 1).toNat : Int)) fun y18 =>
 (some (.bool (y18 == 1)))))))))
theorem eq_round_farther (n : Nat) (a0_0 : Bool) (a0_1 : Int) (a1 : Bool) (a2_0 : Int) (a2_1 : Int) (a3_0 : Int) (a3_1 : Int) (a4_0 : Int) (a4_1 : Int) : CP C (n + 1) F_round_farther [.agg [.bool a0_0, .int .i64 a0_1], .bool a1, .agg [.int .u64 a2_0, .int .u64 a2_1], .agg [.int .u64 a3_0, .int .u64 a3_1], .agg [.int .u64 a4_0, .int .u64 a4_1]] = R_round_farther (CP C n) n a0_0 a0_1 a1 a2_0 a2_1 a3_0 a3_1 a4_0 a4_1 := by kernel_rfl
-- wide_Add
def R_wide_Add (cp : FuncId → List AV → Option AV) (_n : Nat) (a0_0 : Int) (a0_1 : Int) (a1_0 : Int) (a1_1 : Int) : Option AV :=
 (bnd (((((Int.toNat a0_1) + (Int.toNat a1_1) + 0) % 18446744073709551616 : Nat)) : Int) fun y1 =>
 (bnd (((((Int.toNat a0_1) + (Int.toNat a1_1) + 0) / 18446744073709551616 : Nat)) : Int) fun y2 =>
 (cond (decide ((Int.toNat y2) ≤ 1))
 (bnd (((((Int.toNat a0_0) + (Int.toNat a1_0) + (Int.toNat y2)) % 18446744073709551616 : Nat)) : Int) fun y3 =>
 (bnd (((((Int.toNat a0_0) + (Int.toNat a1_0) + (Int.toNat y2)) / 18446744073709551616 : Nat)) : Int) fun y4 =>
 (some (.tup [.agg [.int .u64 y3, .int .u64 y1], .bool (y4 == 1)]))))
 none)))
theorem eq_wide_Add (n : Nat) (a0_0 : Int) (a0_1 : Int) (a1_0 : Int) (a1_1 : Int) : CP C (n + 1) F_wide_Add [.agg [.int .u64 a0_0, .int .u64 a0_1], .agg [.int .u64 a1_0, .int .u64 a1_1]] = R_wide_Add (CP C n) n a0_0 a0_1 a1_0 a1_1 := by kernel_rfl
-- round_Wide
def S_round_Wide_61 (b0 : Bool) (b1 : Bool) (x2 : Int) (x3 : Int) (x4 : Int) (x5 : Int) (b6 : Bool) (x7 : Int) (x8 : Int) (x9 : Int) : St := ⟨[.junk, .junk, .junk, .ptr (some (0, 0)), .ptr (some (1, 0)), .junk, .ptr (some (2, 0)), .junk, .ptr (some (3, 0)), .junk, .ptr (some (4, 0)), .bool b0, .junk, .junk, .junk, .junk, .junk, .junk, .junk, .junk, .junk, .junk, .junk, .junk, .junk, .junk, .junk, .junk, .junk, .junk, .junk, .junk, .junk, .junk, .junk, .junk, .junk, .junk, .junk, .junk, .junk, .junk, .junk, .junk, .bool b1, .junk, .junk, .junk, .junk, .junk, .junk, .junk, .junk, .junk, .junk, .junk, .junk, .junk, .junk, .junk, .junk, .junk, .junk, .junk, .junk, .junk, .junk, .junk, .junk, .junk, .junk, .junk, .junk, .junk, .junk, .junk, .junk, .junk], [.cells 24 [.int .u64 x2, .int .u64 x3], .cells 24 [.int .u64 x4, .int .u64 x5], .cells 24 [.int .u64 0, .int .u64 0], .cells 52 [.bool b6, .int .i64 x7], .cells 24 [.int .u64 x8, .int .u64 x9]]⟩
def T_round_Wide_61 (cp : FuncId → List AV → Option AV) (b0 : Bool) (b1 : Bool) (x2 : Int) (x3 : Int) (x4 : Int) (x5 : Int) (b6 : Bool) (x7 : Int) (x8 : Int) (x9 : Int) : Option AV :=
 (cond b1
 (some (.tup [.agg [.int .u64 0, .int .u64 0], .int .i64 5]))
 ((cp F_round_divide [.agg [.int .u64 x8, .int .u64 x9], .agg [.int .u64 x4, .int .u64 x5]]).bind fun r1 =>
 (AV.tupK r1 fun l2 =>
 (consK l2 fun v3 l4 =>
 (AV.aggK v3 fun l5 =>
 (consK l5 fun v6 l7 =>
 (AV.intK .u64 v6 fun i8 =>
 (consK l7 fun v9 l10 =>
 (AV.intK .u64 v9 fun i11 =>
 (nilK l10
 (consK l4 fun v12 l13 =>
 (AV.aggK v12 fun l14 =>
 (consK l14 fun v15 l16 =>
 (AV.intK .u64 v15 fun i17 =>
 (consK l16 fun v18 l19 =>
 (AV.intK .u64 v18 fun i20 =>
 (nilK l19
 (nilK l13
 (cond ((i17 == 0) && ((i20 == 0) && true))
 (some (.tup [.agg [.int .u64 x2, .int .u64 x3], .int .i64 0]))
 ((cp F_wide_Sub [.agg [.int .u64 x8, .int .u64 x9], .agg [.int .u64 i17, .int .u64 i20]]).bind fun r21 =>
 (AV.tupK r21 fun l22 =>
 (consK l22 fun v23 l24 =>
 (AV.aggK v23 fun l25 =>
 (consK l25 fun v26 l27 =>
 (AV.intK .u64 v26 fun i28 =>
 (consK l27 fun v29 l30 =>
 (AV.intK .u64 v29 fun i31 =>
 (nilK l30
 (consK l24 fun v32 l33 =>
 (AV.boolK v32 fun b34 =>
 (nilK l33
 ((cp F_round_farther [.agg [.bool b6, .int .i64 x7], .bool b0, .agg [.int .u64 i8, .int .u64 i11], .agg [.int .u64 i17, .int .u64 i20], .agg [.int .u64 x4, .int .u64 x5]]).bind fun r35 =>
 (AV.boolK r35 fun b36 =>
 (cond b36
 ((cp F_wide_Add [.agg [.int .u64 i28, .int .u64 i31], .agg [.int .u64 x4, .int .u64 x5]]).bind fun r37 =>
 (AV.tupK r37 fun l38 =>
 (consK l38 fun v39 l40 =>
 (AV.aggK v39 fun l41 =>
 (consK l41 fun v42 l43 =>
 (AV.intK .u64 v42 fun i44 =>
 (consK l43 fun v45 l46 =>
 (AV.intK .u64 v45 fun i47 =>
 (nilK l46
 (consK l40 fun v48 l49 =>
 (AV.boolK v48 fun b50 =>
 (nilK l49
 (cond b0
 ((cp F_wide_Neg [.agg [.int .u64 i44, .int .u64 i47]]).bind fun r51 =>
 (AV.aggK r51 fun l52 =>
 (consK l52 fun v53 l54 =>
 (AV.intK .u64 v53 fun i55 =>
 (consK l54 fun v56 l57 =>
 (AV.intK .u64 v56 fun i58 =>
 (nilK l57
 (some (.tup [.agg [.int .u64 i55, .int .u64 i58], .int .i64 0])))))))))
 (some (.tup [.agg [.int .u64 i44, .int .u64 i47], .int .i64 0])))))))))))))))
 (cond b0
 ((cp F_wide_Neg [.agg [.int .u64 i28, .int .u64 i31]]).bind fun r59 =>
 (AV.aggK r59 fun l60 =>
 (consK l60 fun v61 l62 =>
 (AV.intK .u64 v61 fun i63 =>
 (consK l62 fun v64 l65 =>
 (AV.intK .u64 v64 fun i66 =>
 (nilK l65
 (some (.tup [.agg [.int .u64 i63, .int .u64 i66], .int .i64 0])))))))))
 (some (.tup [.agg [.int .u64 i28, .int .u64 i31], .int .i64 0])))))))))))))))))))))))))))))))))))))
theorem K_round_Wide_61 (j : Jump) (n : Nat) (b0 : Bool) (b1 : Bool) (x2 : Int) (x3 : Int) (x4 : Int) (x5 : Int) (b6 : Bool) (x7 : Int) (x8 : Int) (x9 : Int) : enter (topEnv C (CP C n) n F_round_Wide) (some j) (bodyOf C.P F_round_Wide) (endOf C.P F_round_Wide) [true, false, true, true, true] [] (S_round_Wide_61 b0 b1 x2 x3 x4 x5 b6 x7 x8 x9) = T_round_Wide_61 (CP C n) b0 b1 x2 x3 x4 x5 b6 x7 x8 x9 := by kernel_rfl
def J_round_Wide_61 (cp : FuncId → List AV → Option AV) (n : Nat) (b0 : Bool) (b1 : Bool) (x2 : Int) (x3 : Int) (x4 : Int) (x5 : Int) (b6 : Bool) (x7 : Int) (x8 : Int) (x9 : Int) : Option AV := T_round_Wide_61 cp b0 b1 x2 x3 x4 x5 b6 x7 x8 x9
theorem JE_round_Wide_61 (n : Nat) (b0 : Bool) (b1 : Bool) (x2 : Int) (x3 : Int) (x4 : Int) (x5 : Int) (b6 : Bool) (x7 : Int) (x8 : Int) (x9 : Int) : jT (topEnv C (CP C n) n F_round_Wide) (bodyOf C.P F_round_Wide) (endOf C.P F_round_Wide) [true, false, true, true, true] [] (S_round_Wide_61 b0 b1 x2 x3 x4 x5 b6 x7 x8 x9) = J_round_Wide_61 (CP C n) n b0 b1 x2 x3 x4 x5 b6 x7 x8 x9 :=
  (jT_eq _ _ _ _ _ _).trans ((K_round_Wide_61 _ n b0 b1 x2 x3 x4 x5 b6 x7 x8 x9).trans (rfl))
def T_round_Wide_1 (cp : FuncId → List AV → Option AV) (a0_0 : Int) (a0_1 : Int) (a1_0 : Int) (a1_1 : Int) (a2 : Int) (j61 : Bool → Bool → Int → Int → Int → Int → Bool → Int → Int → Int → Option AV) : Option AV :=
 ((cp F_round_find [.int .i64 a2]).bind fun r1 =>
 (AV.tupK r1 fun l2 =>
 (consK l2 fun v3 l4 =>
 (AV.aggK v3 fun l5 =>
 (consK l5 fun v6 l7 =>
 (AV.boolK v6 fun b8 =>
 (consK l7 fun v9 l10 =>
 (AV.intK .i64 v9 fun i11 =>
 (nilK l10
 (consK l4 fun v12 l13 =>
 (AV.boolK v12 fun b14 =>
 (nilK l13
 ((cp F_round_amount [.agg [.int .u64 a0_0, .int .u64 a0_1]]).bind fun r15 =>
 (AV.tupK r15 fun l16 =>
 (consK l16 fun v17 l18 =>
 (AV.aggK v17 fun l19 =>
 (consK l19 fun v20 l21 =>
 (AV.intK .u64 v20 fun i22 =>
 (consK l21 fun v23 l24 =>
 (AV.intK .u64 v23 fun i25 =>
 (nilK l24
 (consK l18 fun v26 l27 =>
 (AV.boolK v26 fun b28 =>
 (nilK l27
 (cond (!b14)
 (j61 b28 true a0_0 a0_1 a1_0 a1_1 b8 i11 i22 i25)
 (cond ((a1_0 == 0) && ((a1_1 == 0) && true))
 (j61 b28 true a0_0 a0_1 a1_0 a1_1 b8 i11 i22 i25)
 ((cp F_wide_Cmp [.agg [.int .u64 a1_0, .int .u64 a1_1], .agg [.int .u64 65536, .int .u64 0]]).bind fun r29 =>
 (AV.intK .i64 r29 fun i30 =>
 (cond (decide (i30 > 0))
 (j61 b28 true a0_0 a0_1 a1_0 a1_1 b8 i11 i22 i25)
 ((cp F_wide_Cmp [.agg [.int .u64 i22, .int .u64 i25], .agg [.int .u64 68719476736, .int .u64 0]]).bind fun r31 =>
 (AV.intK .i64 r31 fun i32 =>
 (j61 b28 (decide (i32 > 0)) a0_0 a0_1 a1_0 a1_1 b8 i11 i22 i25))))))))))))))))))))))))))))))))
theorem K_round_Wide_1 (j : Jump) (n : Nat) (a0_0 : Int) (a0_1 : Int) (a1_0 : Int) (a1_1 : Int) (a2 : Int) : ex (topEnv C (CP C n) n F_round_Wide) (some j) (bodyOf C.P F_round_Wide) 1 [] [] (endOf C.P F_round_Wide) (startOf C.P F_round_Wide [.agg [.int .u64 a0_0, .int .u64 a0_1], .agg [.int .u64 a1_0, .int .u64 a1_1], .int .i64 a2]) = T_round_Wide_1 (CP C n) a0_0 a0_1 a1_0 a1_1 a2 (fun b0 b1 x2 x3 x4 x5 b6 x7 x8 x9 => j [true, false, true, true, true] [] (S_round_Wide_61 b0 b1 x2 x3 x4 x5 b6 x7 x8 x9)) := by kernel_rfl
def R_round_Wide (cp : FuncId → List AV → Option AV) (n : Nat) (a0_0 : Int) (a0_1 : Int) (a1_0 : Int) (a1_1 : Int) (a2 : Int) : Option AV := T_round_Wide_1 cp a0_0 a0_1 a1_0 a1_1 a2 (J_round_Wide_61 cp n)
theorem eq_round_Wide (n : Nat) (a0_0 : Int) (a0_1 : Int) (a1_0 : Int) (a1_1 : Int) (a2 : Int) : CP C (n + 1) F_round_Wide [.agg [.int .u64 a0_0, .int .u64 a0_1], .agg [.int .u64 a1_0, .int .u64 a1_1], .int .i64 a2] = R_round_Wide (CP C n) n a0_0 a0_1 a1_0 a1_1 a2 :=
  (CP_pure C n F_round_Wide _ (by kernel_rfl) (by kernel_rfl)).trans ((K_round_Wide_1 _ n a0_0 a0_1 a1_0 a1_1 a2).trans (congrArg (T_round_Wide_1 (CP C n) a0_0 a0_1 a1_0 a1_1 a2) (funext fun b0 => (funext fun b1 => (funext fun x2 => (funext fun x3 => (funext fun x4 => (funext fun x5 => (funext fun b6 => (funext fun x7 => (funext fun x8 => (funext fun x9 => (JE_round_Wide_61 n) b0 b1 x2 x3 x4 x5 b6 x7 x8 x9))))))))))))
-- ref01_Cmp
def R_ref01_Cmp (cp : FuncId → List AV → Option AV) (_n : Nat) (a0_0 : Int) (a0_1 : Int) (a1_0 : Int) (a1_1 : Int) : Option AV :=
 (cond ((a0_0 == a1_0) && ((a0_1 == a1_1) && true))
 (some (.int .i64 0))
 (cond (decide (a0_0 < a1_0))
 (some (.int .i64 (-1)))
 (cond (a0_0 == a1_0)
 (cond (decide (a0_1 < a1_1))
 (some (.int .i64 (-1)))
 (some (.int .i64 1)))
 (some (.int .i64 1)))))
theorem eq_ref01_Cmp (n : Nat) (a0_0 : Int) (a0_1 : Int) (a1_0 : Int) (a1_1 : Int) : CP C (n + 1) F_ref01_Cmp [.agg [.int .u64 a0_0, .int .u64 a0_1], .agg [.int .u64 a1_0, .int .u64 a1_1]] = R_ref01_Cmp (CP C n) n a0_0 a0_1 a1_0 a1_1 := by kernel_rfl
-- ref01_Below
def R_ref01_Below (cp : FuncId → List AV → Option AV) (_n : Nat) (a0_0 : Int) (a0_1 : Int) : Option AV :=
 (some (.bool (decide (a0_0 ≥ 9223372036854775808))))
theorem eq_ref01_Below (n : Nat) (a0_0 : Int) (a0_1 : Int) : CP C (n + 1) F_ref01_Below [.agg [.int .u64 a0_0, .int .u64 a0_1]] = R_ref01_Below (CP C n) n a0_0 a0_1 := by kernel_rfl
-- ref01_Signed
def R_ref01_Signed (cp : FuncId → List AV → Option AV) (_n : Nat) (a0_0 : Int) (a0_1 : Int) (a1_0 : Int) (a1_1 : Int) : Option AV :=
 ((cp F_ref01_Below [.agg [.int .u64 a0_0, .int .u64 a0_1]]).bind fun r1 =>
 (AV.boolK r1 fun b2 =>
 ((cp F_ref01_Below [.agg [.int .u64 a1_0, .int .u64 a1_1]]).bind fun r3 =>
 (AV.boolK r3 fun b4 =>
 (cond (!(b2 == b4))
 ((cp F_ref01_Below [.agg [.int .u64 a0_0, .int .u64 a0_1]]).bind fun r5 =>
 (AV.boolK r5 fun b6 =>
 (cond b6
 (some (.int .i64 (-1)))
 (some (.int .i64 1)))))
 ((cp F_ref01_Cmp [.agg [.int .u64 a0_0, .int .u64 a0_1], .agg [.int .u64 a1_0, .int .u64 a1_1]]).bind fun r7 =>
 (AV.intK .i64 r7 fun i8 =>
 (some (.int .i64 i8)))))))))
theorem eq_ref01_Signed (n : Nat) (a0_0 : Int) (a0_1 : Int) (a1_0 : Int) (a1_1 : Int) : CP C (n + 1) F_ref01_Signed [.agg [.int .u64 a0_0, .int .u64 a0_1], .agg [.int .u64 a1_0, .int .u64 a1_1]] = R_ref01_Signed (CP C n) n a0_0 a0_1 a1_0 a1_1 := by kernel_rfl
-- ref01_sum
def S_ref01_sum_116 (b0 : Bool) (x1 : Int) (l2 : List AV) (l3 : List AV) (l4 : List AV) : St := ⟨[.junk, .junk, .bool b0, .ptr (some (0, 0)), .ptr (some (1, 0)), .junk, .ptr (some (2, 0)), .junk, .ptr (some (3, 0)), .int .i64 x1, .junk, .junk, .junk, .junk, .junk, .junk, .junk, .junk, .junk, .junk, .junk, .junk, .junk, .junk, .junk, .junk, .junk, .junk, .junk, .junk, .junk, .junk, .junk, .junk, .junk, .junk, .junk], [.cells 101 l2, .cells 101 l3, .cells 101 [.bool false, .bool false, .bool false, .bool false, .bool false, .bool false, .bool false, .bool false, .bool false, .bool false, .bool false, .bool false, .bool false, .bool false, .bool false, .bool false, .bool false, .bool false, .bool false, .bool false, .bool false, .bool false, .bool false, .bool false, .bool false, .bool false, .bool false, .bool false, .bool false, .bool false, .bool false, .bool false, .bool false, .bool false, .bool false, .bool false, .bool false, .bool false, .bool false, .bool false, .bool false, .bool false, .bool false, .bool false, .bool false, .bool false, .bool false, .bool false, .bool false, .bool false, .bool false, .bool false, .bool false, .bool false, .bool false, .bool false, .bool false, .bool false, .bool false, .bool false, .bool false, .bool false, .bool false, .bool false, .bool false, .bool false, .bool false, .bool false, .bool false, .bool false, .bool false, .bool false, .bool false, .bool false, .bool false, .bool false, .bool false, .bool false, .bool false, .bool false, .bool false, .bool false, .bool false, .bool false, .bool false, .bool false, .bool false, .bool false, .bool false, .bool false, .bool false, .bool false, .bool false, .bool false, .bool false, .bool false, .bool false, .bool false, .bool false, .bool false, .bool false, .bool false, .bool false, .bool false, .bool false, .bool false, .bool false, .bool false, .bool false, .bool false, .bool false, .bool false, .bool false, .bool false, .bool false, .bool false, .bool false, .bool false, .bool false, .bool false, .bool false, .bool false, .bool false, .bool false, .bool false, .bool false, .bool false, .bool false], .cells 101 l4]⟩
def S_ref01_sum_3731 (b0 : Bool) (x1 : Int) (x2 : Int) (l3 : List AV) (l4 : List AV) (l5 : List AV) : St := ⟨[.junk, .junk, .bool b0, .ptr (some (0, 0)), .ptr (some (1, 0)), .junk, .ptr (some (2, 0)), .junk, .ptr (some (3, 0)), .int .i64 x1, .int .i64 x2, .junk, .junk, .junk, .junk, .junk, .junk, .junk, .junk, .junk, .junk, .junk, .junk, .junk, .junk, .junk, .junk, .junk, .junk, .junk, .junk, .junk, .junk, .junk, .junk, .junk, .junk], [.cells 101 l3, .cells 101 l4, .cells 101 [.bool false, .bool false, .bool false, .bool false, .bool false, .bool false, .bool false, .bool false, .bool false, .bool false, .bool false, .bool false, .bool false, .bool false, .bool false, .bool false, .bool false, .bool false, .bool false, .bool false, .bool false, .bool false, .bool false, .bool false, .bool false, .bool false, .bool false, .bool false, .bool false, .bool false, .bool false, .bool false, .bool false, .bool false, .bool false, .bool false, .bool false, .bool false, .bool false, .bool false, .bool false, .bool false, .bool false, .bool false, .bool false, .bool false, .bool false, .bool false, .bool false, .bool false, .bool false, .bool false, .bool false, .bool false, .bool false, .bool false, .bool false, .bool false, .bool false, .bool false, .bool false, .bool false, .bool false, .bool false, .bool false, .bool false, .bool false, .bool false, .bool false, .bool false, .bool false, .bool false, .bool false, .bool false, .bool false, .bool false, .bool false, .bool false, .bool false, .bool false, .bool false, .bool false, .bool false, .bool false, .bool false, .bool false, .bool false, .bool false, .bool false, .bool false, .bool false, .bool false, .bool false, .bool false, .bool false, .bool false, .bool false, .bool false, .bool false, .bool false, .bool false, .bool false, .bool false, .bool false, .bool false, .bool false, .bool false, .bool false, .bool false, .bool false, .bool false, .bool false, .bool false, .bool false, .bool false, .bool false, .bool false, .bool false, .bool false, .bool false, .bool false, .bool false, .bool false, .bool false, .bool false, .bool false, .bool false, .bool false], .cells 101 l5]⟩
def S_ref01_sum_7463 (b0 : Bool) (x1 : Int) (x2 : Int) (l3 : List AV) (l4 : List AV) (l5 : List AV) : St := ⟨[.junk, .junk, .bool b0, .ptr (some (0, 0)), .ptr (some (1, 0)), .junk, .ptr (some (2, 0)), .junk, .ptr (some (3, 0)), .int .i64 x1, .int .i64 x2, .junk, .junk, .junk, .junk, .junk, .junk, .junk, .junk, .junk, .junk, .junk, .junk, .junk, .junk, .junk, .junk, .junk, .junk, .junk, .junk, .junk, .junk, .junk, .junk, .junk, .junk], [.cells 101 l3, .cells 101 l4, .cells 101 [.bool false, .bool false, .bool false, .bool false, .bool false, .bool false, .bool false, .bool false, .bool false, .bool false, .bool false, .bool false, .bool false, .bool false, .bool false, .bool false, .bool false, .bool false, .bool false, .bool false, .bool false, .bool false, .bool false, .bool false, .bool false, .bool false, .bool false, .bool false, .bool false, .bool false, .bool false, .bool false, .bool false, .bool false, .bool false, .bool false, .bool false, .bool false, .bool false, .bool false, .bool false, .bool false, .bool false, .bool false, .bool false, .bool false, .bool false, .bool false, .bool false, .bool false, .bool false, .bool false, .bool false, .bool false, .bool false, .bool false, .bool false, .bool false, .bool false, .bool false, .bool false, .bool false, .bool false, .bool false, .bool false, .bool false, .bool false, .bool false, .bool false, .bool false, .bool false, .bool false, .bool false, .bool false, .bool false, .bool false, .bool false, .bool false, .bool false, .bool false, .bool false, .bool false, .bool false, .bool false, .bool false, .bool false, .bool false, .bool false, .bool false, .bool false, .bool false, .bool false, .bool false, .bool false, .bool false, .bool false, .bool false, .bool false, .bool false, .bool false, .bool false, .bool false, .bool false, .bool false, .bool false, .bool false, .bool false, .bool false, .bool false, .bool false, .bool false, .bool false, .bool false, .bool false, .bool false, .bool false, .bool false, .bool false, .bool false, .bool false, .bool false, .bool false, .bool false, .bool false, .bool false, .bool false, .bool false, .bool false], .cells 101 l5]⟩
def S_ref01_sum_14927 (x0 : Int) (x1 : Int) (l2 : List AV) (l3 : List AV) (l4 : List AV) : St := ⟨[.junk, .junk, .junk, .ptr (some (0, 0)), .ptr (some (1, 0)), .junk, .ptr (some (2, 0)), .junk, .ptr (some (3, 0)), .int .i64 x0, .int .i64 x1, .junk, .junk, .junk, .junk, .junk, .junk, .junk, .junk, .junk, .junk, .junk, .junk, .junk, .junk, .junk, .junk, .junk, .junk, .junk, .junk, .junk, .junk, .junk, .junk, .junk, .junk], [.cells 101 l2, .cells 101 l3, .cells 101 [.bool false, .bool false, .bool false, .bool false, .bool false, .bool false, .bool false, .bool false, .bool false, .bool false, .bool false, .bool false, .bool false, .bool false, .bool false, .bool false, .bool false, .bool false, .bool false, .bool false, .bool false, .bool false, .bool false, .bool false, .bool false, .bool false, .bool false, .bool false, .bool false, .bool false, .bool false, .bool false, .bool false, .bool false, .bool false, .bool false, .bool false, .bool false, .bool false, .bool false, .bool false, .bool false, .bool false, .bool false, .bool false, .bool false, .bool false, .bool false, .bool false, .bool false, .bool false, .bool false, .bool false, .bool false, .bool false, .bool false, .bool false, .bool false, .bool false, .bool false, .bool false, .bool false, .bool false, .bool false, .bool false, .bool false, .bool false, .bool false, .bool false, .bool false, .bool false, .bool false, .bool false, .bool false, .bool false, .bool false, .bool false, .bool false, .bool false, .bool false, .bool false, .bool false, .bool false, .bool false, .bool false, .bool false, .bool false, .bool false, .bool false, .bool false, .bool false, .bool false, .bool false, .bool false, .bool false, .bool false, .bool false, .bool false, .bool false, .bool false, .bool false, .bool false, .bool false, .bool false, .bool false, .bool false, .bool false, .bool false, .bool false, .bool false, .bool false, .bool false, .bool false, .bool false, .bool false, .bool false, .bool false, .bool false, .bool false, .bool false, .bool false, .bool false, .bool false, .bool false, .bool false, .bool false, .bool false, .bool false], .cells 101 l4]⟩
def S_ref01_sum_467 (b0 : Bool) (x1 : Int) (l2 : List AV) (l3 : List AV) (l4 : List AV) : St := ⟨[.junk, .junk, .bool b0, .ptr (some (0, 0)), .ptr (some (1, 0)), .junk, .ptr (some (2, 0)), .junk, .ptr (some (3, 0)), .int .i64 x1, .junk, .junk, .junk, .junk, .junk, .junk, .junk, .junk, .junk, .junk, .junk, .junk, .junk, .junk, .junk, .junk, .junk, .junk, .junk, .junk, .junk, .junk, .junk, .junk, .junk, .junk, .junk], [.cells 101 l2, .cells 101 l3, .cells 101 [.bool false, .bool false, .bool false, .bool false, .bool false, .bool false, .bool false, .bool false, .bool false, .bool false, .bool false, .bool false, .bool false, .bool false, .bool false, .bool false, .bool false, .bool false, .bool false, .bool false, .bool false, .bool false, .bool false, .bool false, .bool false, .bool false, .bool false, .bool false, .bool false, .bool false, .bool false, .bool false, .bool false, .bool false, .bool false, .bool false, .bool false, .bool false, .bool false, .bool false, .bool false, .bool false, .bool false, .bool false, .bool false, .bool false, .bool false, .bool false, .bool false, .bool false, .bool false, .bool false, .bool false, .bool false, .bool false, .bool false, .bool false, .bool false, .bool false, .bool false, .bool false, .bool false, .bool false, .bool false, .bool false, .bool false, .bool false, .bool false, .bool false, .bool false, .bool false, .bool false, .bool false, .bool false, .bool false, .bool false, .bool false, .bool false, .bool false, .bool false, .bool false, .bool false, .bool false, .bool false, .bool false, .bool false, .bool false, .bool false, .bool false, .bool false, .bool false, .bool false, .bool false, .bool false, .bool false, .bool false, .bool false, .bool false, .bool false, .bool false, .bool false, .bool false, .bool false, .bool false, .bool false, .bool false, .bool false, .bool false, .bool false, .bool false, .bool false, .bool false, .bool false, .bool false, .bool false, .bool false, .bool false, .bool false, .bool false, .bool false, .bool false, .bool false, .bool false, .bool false, .bool false, .bool false, .bool false, .bool false], .cells 101 l4]⟩
def T_ref01_sum_467 (cp : FuncId → List AV → Option AV) (b0 : Bool) (x1 : Int) (l2 : List AV) (l3 : List AV) (l4 : List AV) (r116 : Bool → Int → List AV → List AV → List AV → Option AV) : Option AV :=
 (r116 b0 (IntKind.i64.wrap (x1 + 1)) l2 l3 l4)
theorem K_ref01_sum_467 (j : Jump) (n : Nat) (m116 : Nat) (b0 : Bool) (x1 : Int) (l2 : List AV) (l3 : List AV) (l4 : List AV) : enter (topEnv C (CP C n) n F_ref01_sum) (some j) (bodyOf C.P F_ref01_sum) (endOf C.P F_ref01_sum) [true, true, false, false, true, false, true, true] [m116] (S_ref01_sum_467 b0 x1 l2 l3 l4) = T_ref01_sum_467 (CP C n) b0 x1 l2 l3 l4 (fun b0 x1 l2 l3 l4 => j [false, false, true, false, true, true] [m116] (S_ref01_sum_116 b0 x1 l2 l3 l4)) := by kernel_rfl
def J_ref01_sum_467 (cp : FuncId → List AV → Option AV) (n : Nat) (r116 : Bool → Int → List AV → List AV → List AV → Option AV) (b0 : Bool) (x1 : Int) (l2 : List AV) (l3 : List AV) (l4 : List AV) : Option AV := T_ref01_sum_467 cp b0 x1 l2 l3 l4 r116
theorem JE_ref01_sum_467 (n : Nat) (m116 : Nat) (r116 : Bool → Int → List AV → List AV → List AV → Option AV) (h116 : ∀ (b0 : Bool) (x1 : Int) (l2 : List AV) (l3 : List AV) (l4 : List AV), jT (topEnv C (CP C n) n F_ref01_sum) (bodyOf C.P F_ref01_sum) (endOf C.P F_ref01_sum) [false, false, true, false, true, true] [m116] (S_ref01_sum_116 b0 x1 l2 l3 l4) = r116 b0 x1 l2 l3 l4) (b0 : Bool) (x1 : Int) (l2 : List AV) (l3 : List AV) (l4 : List AV) : jT (topEnv C (CP C n) n F_ref01_sum) (bodyOf C.P F_ref01_sum) (endOf C.P F_ref01_sum) [true, true, false, false, true, false, true, true] [m116] (S_ref01_sum_467 b0 x1 l2 l3 l4) = J_ref01_sum_467 (CP C n) n r116 b0 x1 l2 l3 l4 :=
  (jT_eq _ _ _ _ _ _).trans ((K_ref01_sum_467 _ n m116 b0 x1 l2 l3 l4).trans (congrArg (T_ref01_sum_467 (CP C n) b0 x1 l2 l3 l4) (funext fun b0 => (funext fun x1 => (funext fun l2 => (funext fun l3 => (funext fun l4 => h116 b0 x1 l2 l3 l4)))))))
def T_ref01_sum_14927 (cp : FuncId → List AV → Option AV) (x0 : Int) (x1 : Int) (l2 : List AV) (l3 : List AV) (l4 : List AV) (j467 : Bool → Int → List AV → List AV → List AV → Option AV) : Option AV :=
 (bnd (IntKind.i64.wrap ((BitVec.ofInt 64 x1 &&& BitVec.ofInt 64 1).toNat : Int)) fun y1 =>
 (cond ((decide (0 ≤ x0)) && (decide (x0 < 128)))
 (cond (fits (0 + ((Int.toNat x0) * 1)) 1 l4)
 (j467 (decide (x1 ≥ 2)) x0 l2 l3 (splice l4 (0 + ((Int.toNat x0) * 1)) [.bool (y1 == 1)]))
 none)
 none))
theorem K_ref01_sum_14927 (j : Jump) (n : Nat) (m116 : Nat) (x0 : Int) (x1 : Int) (l2 : List AV) (l3 : List AV) (l4 : List AV) : enter (topEnv C (CP C n) n F_ref01_sum) (some j) (bodyOf C.P F_ref01_sum) (endOf C.P F_ref01_sum) [true, true, true, true, false, false, true, false, false, true, false, true, true] [m116] (S_ref01_sum_14927 x0 x1 l2 l3 l4) = T_ref01_sum_14927 (CP C n) x0 x1 l2 l3 l4 (fun b0 x1 l2 l3 l4 => j [true, true, false, false, true, false, true, true] [m116] (S_ref01_sum_467 b0 x1 l2 l3 l4)) := by kernel_rfl
def J_ref01_sum_14927 (cp : FuncId → List AV → Option AV) (n : Nat) (r116 : Bool → Int → List AV → List AV → List AV → Option AV) (x0 : Int) (x1 : Int) (l2 : List AV) (l3 : List AV) (l4 : List AV) : Option AV := T_ref01_sum_14927 cp x0 x1 l2 l3 l4 (J_ref01_sum_467 cp n r116)
theorem JE_ref01_sum_14927 (n : Nat) (m116 : Nat) (r116 : Bool → Int → List AV → List AV → List AV → Option AV) (h116 : ∀ (b0 : Bool) (x1 : Int) (l2 : List AV) (l3 : List AV) (l4 : List AV), jT (topEnv C (CP C n) n F_ref01_sum) (bodyOf C.P F_ref01_sum) (endOf C.P F_ref01_sum) [false, false, true, false, true, true] [m116] (S_ref01_sum_116 b0 x1 l2 l3 l4) = r116 b0 x1 l2 l3 l4) (x0 : Int) (x1 : Int) (l2 : List AV) (l3 : List AV) (l4 : List AV) : jT (topEnv C (CP C n) n F_ref01_sum) (bodyOf C.P F_ref01_sum) (endOf C.P F_ref01_sum) [true, true, true, true, false, false, true, false, false, true, false, true, true] [m116] (S_ref01_sum_14927 x0 x1 l2 l3 l4) = J_ref01_sum_14927 (CP C n) n r116 x0 x1 l2 l3 l4 :=
  (jT_eq _ _ _ _ _ _).trans ((K_ref01_sum_14927 _ n m116 x0 x1 l2 l3 l4).trans (congrArg (T_ref01_sum_14927 (CP C n) x0 x1 l2 l3 l4) (funext fun b0 => (funext fun x1 => (funext fun l2 => (funext fun l3 => (funext fun l4 => (JE_ref01_sum_467 n m116 r116 h116) b0 x1 l2 l3 l4)))))))
def T_ref01_sum_7463 (cp : FuncId → List AV → Option AV) (b0 : Bool) (x1 : Int) (x2 : Int) (l3 : List AV) (l4 : List AV) (l5 : List AV) (j14927 : Int → Int → List AV → List AV → List AV → Option AV) : Option AV :=
 (cond b0
 (j14927 x1 (IntKind.i64.wrap (x2 + 1)) l3 l4 l5)
 (j14927 x1 x2 l3 l4 l5))
theorem K_ref01_sum_7463 (j : Jump) (n : Nat) (m116 : Nat) (b0 : Bool) (x1 : Int) (x2 : Int) (l3 : List AV) (l4 : List AV) (l5 : List AV) : enter (topEnv C (CP C n) n F_ref01_sum) (some j) (bodyOf C.P F_ref01_sum) (endOf C.P F_ref01_sum) [true, true, true, false, false, true, false, false, true, false, true, true] [m116] (S_ref01_sum_7463 b0 x1 x2 l3 l4 l5) = T_ref01_sum_7463 (CP C n) b0 x1 x2 l3 l4 l5 (fun x0 x1 l2 l3 l4 => j [true, true, true, true, false, false, true, false, false, true, false, true, true] [m116] (S_ref01_sum_14927 x0 x1 l2 l3 l4)) := by kernel_rfl
def J_ref01_sum_7463 (cp : FuncId → List AV → Option AV) (n : Nat) (r116 : Bool → Int → List AV → List AV → List AV → Option AV) (b0 : Bool) (x1 : Int) (x2 : Int) (l3 : List AV) (l4 : List AV) (l5 : List AV) : Option AV := T_ref01_sum_7463 cp b0 x1 x2 l3 l4 l5 (J_ref01_sum_14927 cp n r116)
theorem JE_ref01_sum_7463 (n : Nat) (m116 : Nat) (r116 : Bool → Int → List AV → List AV → List AV → Option AV) (h116 : ∀ (b0 : Bool) (x1 : Int) (l2 : List AV) (l3 : List AV) (l4 : List AV), jT (topEnv C (CP C n) n F_ref01_sum) (bodyOf C.P F_ref01_sum) (endOf C.P F_ref01_sum) [false, false, true, false, true, true] [m116] (S_ref01_sum_116 b0 x1 l2 l3 l4) = r116 b0 x1 l2 l3 l4) (b0 : Bool) (x1 : Int) (x2 : Int) (l3 : List AV) (l4 : List AV) (l5 : List AV) : jT (topEnv C (CP C n) n F_ref01_sum) (bodyOf C.P F_ref01_sum) (endOf C.P F_ref01_sum) [true, true, true, false, false, true, false, false, true, false, true, true] [m116] (S_ref01_sum_7463 b0 x1 x2 l3 l4 l5) = J_ref01_sum_7463 (CP C n) n r116 b0 x1 x2 l3 l4 l5 :=
  (jT_eq _ _ _ _ _ _).trans ((K_ref01_sum_7463 _ n m116 b0 x1 x2 l3 l4 l5).trans (congrArg (T_ref01_sum_7463 (CP C n) b0 x1 x2 l3 l4 l5) (funext fun x0 => (funext fun x1 => (funext fun l2 => (funext fun l3 => (funext fun l4 => (JE_ref01_sum_14927 n m116 r116 h116) x0 x1 l2 l3 l4)))))))
def T_ref01_sum_3731 (cp : FuncId → List AV → Option AV) (b0 : Bool) (x1 : Int) (x2 : Int) (l3 : List AV) (l4 : List AV) (l5 : List AV) (j7463 : Bool → Int → Int → List AV → List AV → List AV → Option AV) : Option AV :=
 (cond ((decide (0 ≤ x1)) && (decide (x1 < 128)))
 (cond (fits (0 + ((Int.toNat x1) * 1)) 1 l4)
 (AV.boolK (nth l4 (0 + ((Int.toNat x1) * 1))) fun b1 =>
 (cond b1
 (j7463 b0 x1 (IntKind.i64.wrap (x2 + 1)) l3 l4 l5)
 (j7463 b0 x1 x2 l3 l4 l5)))
 none)
 none)
theorem K_ref01_sum_3731 (j : Jump) (n : Nat) (m116 : Nat) (b0 : Bool) (x1 : Int) (x2 : Int) (l3 : List AV) (l4 : List AV) (l5 : List AV) : enter (topEnv C (CP C n) n F_ref01_sum) (some j) (bodyOf C.P F_ref01_sum) (endOf C.P F_ref01_sum) [true, true, false, false, true, false, false, true, false, true, true] [m116] (S_ref01_sum_3731 b0 x1 x2 l3 l4 l5) = T_ref01_sum_3731 (CP C n) b0 x1 x2 l3 l4 l5 (fun b0 x1 x2 l3 l4 l5 => j [true, true, true, false, false, true, false, false, true, false, true, true] [m116] (S_ref01_sum_7463 b0 x1 x2 l3 l4 l5)) := by kernel_rfl
def J_ref01_sum_3731 (cp : FuncId → List AV → Option AV) (n : Nat) (r116 : Bool → Int → List AV → List AV → List AV → Option AV) (b0 : Bool) (x1 : Int) (x2 : Int) (l3 : List AV) (l4 : List AV) (l5 : List AV) : Option AV := T_ref01_sum_3731 cp b0 x1 x2 l3 l4 l5 (J_ref01_sum_7463 cp n r116)
theorem JE_ref01_sum_3731 (n : Nat) (m116 : Nat) (r116 : Bool → Int → List AV → List AV → List AV → Option AV) (h116 : ∀ (b0 : Bool) (x1 : Int) (l2 : List AV) (l3 : List AV) (l4 : List AV), jT (topEnv C (CP C n) n F_ref01_sum) (bodyOf C.P F_ref01_sum) (endOf C.P F_ref01_sum) [false, false, true, false, true, true] [m116] (S_ref01_sum_116 b0 x1 l2 l3 l4) = r116 b0 x1 l2 l3 l4) (b0 : Bool) (x1 : Int) (x2 : Int) (l3 : List AV) (l4 : List AV) (l5 : List AV) : jT (topEnv C (CP C n) n F_ref01_sum) (bodyOf C.P F_ref01_sum) (endOf C.P F_ref01_sum) [true, true, false, false, true, false, false, true, false, true, true] [m116] (S_ref01_sum_3731 b0 x1 x2 l3 l4 l5) = J_ref01_sum_3731 (CP C n) n r116 b0 x1 x2 l3 l4 l5 :=
  (jT_eq _ _ _ _ _ _).trans ((K_ref01_sum_3731 _ n m116 b0 x1 x2 l3 l4 l5).trans (congrArg (T_ref01_sum_3731 (CP C n) b0 x1 x2 l3 l4 l5) (funext fun b0 => (funext fun x1 => (funext fun x2 => (funext fun l3 => (funext fun l4 => (funext fun l5 => (JE_ref01_sum_7463 n m116 r116 h116) b0 x1 x2 l3 l4 l5))))))))
def T_ref01_sum_116 (cp : FuncId → List AV → Option AV) (b0 : Bool) (x1 : Int) (l2 : List AV) (l3 : List AV) (l4 : List AV) (j3731 : Bool → Int → Int → List AV → List AV → List AV → Option AV) : Option AV :=
 (cond (decide (x1 < 128))
 (cond ((decide (0 ≤ x1)) && (decide (x1 < 128)))
 (cond (fits (0 + ((Int.toNat x1) * 1)) 1 l2)
 (AV.boolK (nth l2 (0 + ((Int.toNat x1) * 1))) fun b1 =>
 (cond b1
 (j3731 b0 x1 1 l2 l3 l4)
 (j3731 b0 x1 0 l2 l3 l4)))
 none)
 none)
 (cond (fits 0 128 l4)
 (cond (lenIs (List.take 128 (List.drop 0 l4)) 128)
 (cond (cellsOk (List.take 128 (List.drop 0 l4)))
 (cond (fits 0 128 (splice [.bool false, .bool false, .bool false, .bool false, .bool false, .bool false, .bool false, .bool false, .bool false, .bool false, .bool false, .bool false, .bool false, .bool false, .bool false, .bool false, .bool false, .bool false, .bool false, .bool false, .bool false, .bool false, .bool false, .bool false, .bool false, .bool false, .bool false, .bool false, .bool false, .bool false, .bool false, .bool false, .bool false, .bool false, .bool false, .bool false, .bool false, .bool false, .bool false, .bool false, .bool false, .bool false, .bool false, .bool false, .bool false, .bool false, .bool false, .bool false, .bool false, .bool false, .bool false, .bool false, .bool false, .bool false, .bool false, .bool false, .bool false, .bool false, .bool false, .bool false, .bool false, .bool false, .bool false, .bool false, .bool false, .bool false, .bool false, .bool false, .bool false, .bool false, .bool false, .bool false, .bool false, .bool false, .bool false, .bool false, .bool false, .bool false, .bool false, .bool false, .bool false, .bool false, .bool false, .bool false, .bool false, .bool false, .bool false, .bool false, .bool false, .bool false, .bool false, .bool false, .bool false, .bool false, .bool false, .bool false, .bool false, .bool false, .bool false, .bool false, .bool false, .bool false, .bool false, .bool false, .bool false, .bool false, .bool false, .bool false, .bool false, .bool false, .bool false, .bool false, .bool false, .bool false, .bool false, .bool false, .bool false, .bool false, .bool false, .bool false, .bool false, .bool false, .bool false, .bool false, .bool false, .bool false, .bool false, .bool false] 0 (List.take 128 (List.drop 0 l4))))
 (cond ((AV.pureL (List.take 128 (List.drop 0 (splice [.bool false, .bool false, .bool false, .bool false, .bool false, .bool false, .bool false, .bool false, .bool false, .bool false, .bool false, .bool false, .bool false, .bool false, .bool false, .bool false, .bool false, .bool false, .bool false, .bool false, .bool false, .bool false, .bool false, .bool false, .bool false, .bool false, .bool false, .bool false, .bool false, .bool false, .bool false, .bool false, .bool false, .bool false, .bool false, .bool false, .bool false, .bool false, .bool false, .bool false, .bool false, .bool false, .bool false, .bool false, .bool false, .bool false, .bool false, .bool false, .bool false, .bool false, .bool false, .bool false, .bool false, .bool false, .bool false, .bool false, .bool false, .bool false, .bool false, .bool false, .bool false, .bool false, .bool false, .bool false, .bool false, .bool false, .bool false, .bool false, .bool false, .bool false, .bool false, .bool false, .bool false, .bool false, .bool false, .bool false, .bool false, .bool false, .bool false, .bool false, .bool false, .bool false, .bool false, .bool false, .bool false, .bool false, .bool false, .bool false, .bool false, .bool false, .bool false, .bool false, .bool false, .bool false, .bool false, .bool false, .bool false, .bool false, .bool false, .bool false, .bool false, .bool false, .bool false, .bool false, .bool false, .bool false, .bool false, .bool false, .bool false, .bool false, .bool false, .bool false, .bool false, .bool false, .bool false, .bool false, .bool false, .bool false, .bool false, .bool false, .bool false, .bool false, .bool false, .bool false, .bool false, .bool false, .bool false, .bool false] 0 (List.take 128 (List.drop 0 l4)))))) && true)
 (some (.tup [.agg (List.take 128 (List.drop 0 (splice [.bool false, .bool false, .bool false, .bool false, .bool false, .bool false, .bool false, .bool false, .bool false, .bool false, .bool false, .bool false, .bool false, .bool false, .bool false, .bool false, .bool false, .bool false, .bool false, .bool false, .bool false, .bool false, .bool false, .bool false, .bool false, .bool false, .bool false, .bool false, .bool false, .bool false, .bool false, .bool false, .bool false, .bool false, .bool false, .bool false, .bool false, .bool false, .bool false, .bool false, .bool false, .bool false, .bool false, .bool false, .bool false, .bool false, .bool false, .bool false, .bool false, .bool false, .bool false, .bool false, .bool false, .bool false, .bool false, .bool false, .bool false, .bool false, .bool false, .bool false, .bool false, .bool false, .bool false, .bool false, .bool false, .bool false, .bool false, .bool false, .bool false, .bool false, .bool false, .bool false, .bool false, .bool false, .bool false, .bool false, .bool false, .bool false, .bool false, .bool false, .bool false, .bool false, .bool false, .bool false, .bool false, .bool false, .bool false, .bool false, .bool false, .bool false, .bool false, .bool false, .bool false, .bool false, .bool false, .bool false, .bool false, .bool false, .bool false, .bool false, .bool false, .bool false, .bool false, .bool false, .bool false, .bool false, .bool false, .bool false, .bool false, .bool false, .bool false, .bool false, .bool false, .bool false, .bool false, .bool false, .bool false, .bool false, .bool false, .bool false, .bool false, .bool false, .bool false, .bool false, .bool false, .bool false, .bool false, .bool false] 0 (List.take 128 (List.drop 0 l4))))), .bool b0]))
 none)
 none)
 none)
 none)
 none))
theorem K_ref01_sum_116 (j : Jump) (n : Nat) (m116 : Nat) (b0 : Bool) (x1 : Int) (l2 : List AV) (l3 : List AV) (l4 : List AV) : enter (topEnv C (CP C n) n F_ref01_sum) (some j) (bodyOf C.P F_ref01_sum) (endOf C.P F_ref01_sum) [false, false, true, false, true, true] [(m116 + 1)] (S_ref01_sum_116 b0 x1 l2 l3 l4) = T_ref01_sum_116 (CP C n) b0 x1 l2 l3 l4 (fun b0 x1 x2 l3 l4 l5 => j [true, true, false, false, true, false, false, true, false, true, true] [m116] (S_ref01_sum_3731 b0 x1 x2 l3 l4 l5)) := by kernel_rfl
def J_ref01_sum_116 (cp : FuncId → List AV → Option AV) (n : Nat) : Nat → Bool → Int → List AV → List AV → List AV → Option AV
  | 0 => (fun b0 x1 l2 l3 l4 => none)
  | m + 1 => (fun b0 x1 l2 l3 l4 => T_ref01_sum_116 cp b0 x1 l2 l3 l4 (J_ref01_sum_3731 cp n (J_ref01_sum_116 cp n m)))
theorem Js_ref01_sum_116 (cp : FuncId → List AV → Option AV) (n : Nat) (m : Nat) (b0 : Bool) (x1 : Int) (l2 : List AV) (l3 : List AV) (l4 : List AV) : J_ref01_sum_116 cp n (m + 1) b0 x1 l2 l3 l4 = T_ref01_sum_116 cp b0 x1 l2 l3 l4 (J_ref01_sum_3731 cp n (J_ref01_sum_116 cp n m)) := of_eq_true (eq_self _)
theorem JE_ref01_sum_116 (n : Nat) : ∀ (m : Nat) (b0 : Bool) (x1 : Int) (l2 : List AV) (l3 : List AV) (l4 : List AV), jT (topEnv C (CP C n) n F_ref01_sum) (bodyOf C.P F_ref01_sum) (endOf C.P F_ref01_sum) [false, false, true, false, true, true] [m] (S_ref01_sum_116 b0 x1 l2 l3 l4) = J_ref01_sum_116 (CP C n) n m b0 x1 l2 l3 l4
  | 0, b0, x1, l2, l3, l4 => (jT_eq _ _ _ _ _ _).trans (by kernel_rfl)
  | m + 1, b0, x1, l2, l3, l4 => (jT_eq _ _ _ _ _ _).trans ((K_ref01_sum_116 _ n m b0 x1 l2 l3 l4).trans (congrArg (T_ref01_sum_116 (CP C n) b0 x1 l2 l3 l4) (funext fun b0 => (funext fun x1 => (funext fun x2 => (funext fun l3 => (funext fun l4 => (funext fun l5 => (JE_ref01_sum_3731 n m (J_ref01_sum_116 (CP C n) n m) (JE_ref01_sum_116 n m)) b0 x1 x2 l3 l4 l5))))))))
def T_ref01_sum_1 (cp : FuncId → List AV → Option AV) (a0 : List AV) (a1 : List AV) (a2 : Bool) (j116 : Bool → Int → List AV → List AV → List AV → Option AV) : Option AV :=
 (j116 a2 0 a0 a1 [.bool false, .bool false, .bool false, .bool false, .bool false, .bool false, .bool false, .bool false, .bool false, .bool false, .bool false, .bool false, .bool false, .bool false, .bool false, .bool false, .bool false, .bool false, .bool false, .bool false, .bool false, .bool false, .bool false, .bool false, .bool false, .bool false, .bool false, .bool false, .bool false, .bool false, .bool false, .bool false, .bool false, .bool false, .bool false, .bool false, .bool false, .bool false, .bool false, .bool false, .bool false, .bool false, .bool false, .bool false, .bool false, .bool false, .bool false, .bool false, .bool false, .bool false, .bool false, .bool false, .bool false, .bool false, .bool false, .bool false, .bool false, .bool false, .bool false, .bool false, .bool false, .bool false, .bool false, .bool false, .bool false, .bool false, .bool false, .bool false, .bool false, .bool false, .bool false, .bool false, .bool false, .bool false, .bool false, .bool false, .bool false, .bool false, .bool false, .bool false, .bool false, .bool false, .bool false, .bool false, .bool false, .bool false, .bool false, .bool false, .bool false, .bool false, .bool false, .bool false, .bool false, .bool false, .bool false, .bool false, .bool false, .bool false, .bool false, .bool false, .bool false, .bool false, .bool false, .bool false, .bool false, .bool false, .bool false, .bool false, .bool false, .bool false, .bool false, .bool false, .bool false, .bool false, .bool false, .bool false, .bool false, .bool false, .bool false, .bool false, .bool false, .bool false, .bool false, .bool false, .bool false, .bool false, .bool false, .bool false])
theorem K_ref01_sum_1 (j : Jump) (n : Nat) (a0 : List AV) (a1 : List AV) (a2 : Bool) : ex (topEnv C (CP C n) n F_ref01_sum) (some j) (bodyOf C.P F_ref01_sum) 1 [] [] (endOf C.P F_ref01_sum) (startOf C.P F_ref01_sum [.agg a0, .agg a1, .bool a2]) = T_ref01_sum_1 (CP C n) a0 a1 a2 (fun b0 x1 l2 l3 l4 => j [false, false, true, false, true, true] [(n + 300)] (S_ref01_sum_116 b0 x1 l2 l3 l4)) := by kernel_rfl
def R_ref01_sum (cp : FuncId → List AV → Option AV) (n : Nat) (a0 : List AV) (a1 : List AV) (a2 : Bool) : Option AV := T_ref01_sum_1 cp a0 a1 a2 (J_ref01_sum_116 cp n (n + 300))
theorem eq_ref01_sum (n : Nat) (a0 : List AV) (a1 : List AV) (a2 : Bool) : CP C (n + 1) F_ref01_sum [.agg a0, .agg a1, .bool a2] = cond (AV.pureL [.agg a0, .agg a1, .bool a2]) (R_ref01_sum (CP C n) n a0 a1 a2) none :=
  (CP_run C n F_ref01_sum _ (by kernel_rfl)).trans (congrArg (fun x => cond (AV.pureL [.agg a0, .agg a1, .bool a2]) x none) ((K_ref01_sum_1 _ n a0 a1 a2).trans (congrArg (T_ref01_sum_1 (CP C n) a0 a1 a2) (funext fun b0 => (funext fun x1 => (funext fun l2 => (funext fun l3 => (funext fun l4 => (JE_ref01_sum_116 n (n + 300)) b0 x1 l2 l3 l4))))))))
-- ref01_bits
def S_ref01_bits_116 (x0 : Int) (x1 : Int) (x2 : Int) (l3 : List AV) : St := ⟨[.junk, .ptr (some (0, 0)), .ptr (some (1, 0)), .ptr (some (2, 0)), .int .i64 x0, .junk, .junk, .junk, .junk, .junk, .junk, .junk, .junk, .junk, .junk, .junk, .junk, .junk, .junk, .junk, .junk, .junk, .junk, .junk, .junk, .junk, .junk, .junk, .junk], [.cells 24 [.int .u64 x1, .int .u64 x2], .cells 101 [.bool false, .bool false, .bool false, .bool false, .bool false, .bool false, .bool false, .bool false, .bool false, .bool false, .bool false, .bool false, .bool false, .bool false, .bool false, .bool false, .bool false, .bool false, .bool false, .bool false, .bool false, .bool false, .bool false, .bool false, .bool false, .bool false, .bool false, .bool false, .bool false, .bool false, .bool false, .bool false, .bool false, .bool false, .bool false, .bool false, .bool false, .bool false, .bool false, .bool false, .bool false, .bool false, .bool false, .bool false, .bool false, .bool false, .bool false, .bool false, .bool false, .bool false, .bool false, .bool false, .bool false, .bool false, .bool false, .bool false, .bool false, .bool false, .bool false, .bool false, .bool false, .bool false, .bool false, .bool false, .bool false, .bool false, .bool false, .bool false, .bool false, .bool false, .bool false, .bool false, .bool false, .bool false, .bool false, .bool false, .bool false, .bool false, .bool false, .bool false, .bool false, .bool false, .bool false, .bool false, .bool false, .bool false, .bool false, .bool false, .bool false, .bool false, .bool false, .bool false, .bool false, .bool false, .bool false, .bool false, .bool false, .bool false, .bool false, .bool false, .bool false, .bool false, .bool false, .bool false, .bool false, .bool false, .bool false, .bool false, .bool false, .bool false, .bool false, .bool false, .bool false, .bool false, .bool false, .bool false, .bool false, .bool false, .bool false, .bool false, .bool false, .bool false, .bool false, .bool false, .bool false, .bool false, .bool false, .bool false], .cells 101 l3]⟩
def T_ref01_bits_116 (cp : FuncId → List AV → Option AV) (x0 : Int) (x1 : Int) (x2 : Int) (l3 : List AV) (r116 : Int → Int → Int → List AV → Option AV) : Option AV :=
 (cond (decide (x0 < 64))
 (cond (decide ((IntKind.u64.wrap x0) < 0))
 none
 (bnd (Int.fdiv x2 (2 ^ (min (Int.toNat (IntKind.u64.wrap x0)) 64))) fun y1 =>
 (bnd (IntKind.u64.wrap ((BitVec.ofInt 64 y1 &&& BitVec.ofInt 64 1).toNat : Int)) fun y2 =>
 (cond ((decide (0 ≤ x0)) && (decide (x0 < 128)))
 (cond (fits (0 + ((Int.toNat x0) * 1)) 1 l3)
 (cond (decide ((IntKind.u64.wrap x0) < 0))
 none
 (bnd (Int.fdiv x1 (2 ^ (min (Int.toNat (IntKind.u64.wrap x0)) 64))) fun y3 =>
 (bnd (IntKind.u64.wrap ((BitVec.ofInt 64 y3 &&& BitVec.ofInt 64 1).toNat : Int)) fun y4 =>
 (cond ((decide (0 ≤ (IntKind.i64.wrap (64 + x0)))) && (decide ((IntKind.i64.wrap (64 + x0)) < 128)))
 (cond (fits (0 + ((Int.toNat (IntKind.i64.wrap (64 + x0))) * 1)) 1 (splice l3 (0 + ((Int.toNat x0) * 1)) [.bool (y2 == 1)]))
 (r116 (IntKind.i64.wrap (x0 + 1)) x1 x2 (splice (splice l3 (0 + ((Int.toNat x0) * 1)) [.bool (y2 == 1)]) (0 + ((Int.toNat (IntKind.i64.wrap (64 + x0))) * 1)) [.bool (y4 == 1)]))
 none)
 none))))
 none)
 none))))
 (cond (fits 0 128 l3)
 (cond (lenIs (List.take 128 (List.drop 0 l3)) 128)
 (cond (cellsOk (List.take 128 (List.drop 0 l3)))
 (cond (fits 0 128 (splice [.bool false, .bool false, .bool false, .bool false, .bool false, .bool false, .bool false, .bool false, .bool false, .bool false, .bool false, .bool false, .bool false, .bool false, .bool false, .bool false, .bool false, .bool false, .bool false, .bool false, .bool false, .bool false, .bool false, .bool false, .bool false, .bool false, .bool false, .bool false, .bool false, .bool false, .bool false, .bool false, .bool false, .bool false, .bool false, .bool false, .bool false, .bool false, .bool false, .bool false, .bool false, .bool false, .bool false, .bool false, .bool false, .bool false, .bool false, .bool false, .bool false, .bool false, .bool false, .bool false, .bool false, .bool false, .bool false, .bool false, .bool false, .bool false, .bool false, .bool false, .bool false, .bool false, .bool false, .bool false, .bool false, .bool false, .bool false, .bool false, .bool false, .bool false, .bool false, .bool false, .bool false, .bool false, .bool false, .bool false, .bool false, .bool false, .bool false, .bool false, .bool false, .bool false, .bool false, .bool false, .bool false, .bool false, .bool false, .bool false, .bool false, .bool false, .bool false, .bool false, .bool false, .bool false, .bool false, .bool false, .bool false, .bool false, .bool false, .bool false, .bool false, .bool false, .bool false, .bool false, .bool false, .bool false, .bool false, .bool false, .bool false, .bool false, .bool false, .bool false, .bool false, .bool false, .bool false, .bool false, .bool false, .bool false, .bool false, .bool false, .bool false, .bool false, .bool false, .bool false, .bool false, .bool false, .bool false, .bool false] 0 (List.take 128 (List.drop 0 l3))))
 (cond (AV.pureL (List.take 128 (List.drop 0 (splice [.bool false, .bool false, .bool false, .bool false, .bool false, .bool false, .bool false, .bool false, .bool false, .bool false, .bool false, .bool false, .bool false, .bool false, .bool false, .bool false, .bool false, .bool false, .bool false, .bool false, .bool false, .bool false, .bool false, .bool false, .bool false, .bool false, .bool false, .bool false, .bool false, .bool false, .bool false, .bool false, .bool false, .bool false, .bool false, .bool false, .bool false, .bool false, .bool false, .bool false, .bool false, .bool false, .bool false, .bool false, .bool false, .bool false, .bool false, .bool false, .bool false, .bool false, .bool false, .bool false, .bool false, .bool false, .bool false, .bool false, .bool false, .bool false, .bool false, .bool false, .bool false, .bool false, .bool false, .bool false, .bool false, .bool false, .bool false, .bool false, .bool false, .bool false, .bool false, .bool false, .bool false, .bool false, .bool false, .bool false, .bool false, .bool false, .bool false, .bool false, .bool false, .bool false, .bool false, .bool false, .bool false, .bool false, .bool false, .bool false, .bool false, .bool false, .bool false, .bool false, .bool false, .bool false, .bool false, .bool false, .bool false, .bool false, .bool false, .bool false, .bool false, .bool false, .bool false, .bool false, .bool false, .bool false, .bool false, .bool false, .bool false, .bool false, .bool false, .bool false, .bool false, .bool false, .bool false, .bool false, .bool false, .bool false, .bool false, .bool false, .bool false, .bool false, .bool false, .bool false, .bool false, .bool false, .bool false, .bool false] 0 (List.take 128 (List.drop 0 l3))))))
 (some (.agg (List.take 128 (List.drop 0 (splice [.bool false, .bool false, .bool false, .bool false, .bool false, .bool false, .bool false, .bool false, .bool false, .bool false, .bool false, .bool false, .bool false, .bool false, .bool false, .bool false, .bool false, .bool false, .bool false, .bool false, .bool false, .bool false, .bool false, .bool false, .bool false, .bool false, .bool false, .bool false, .bool false, .bool false, .bool false, .bool false, .bool false, .bool false, .bool false, .bool false, .bool false, .bool false, .bool false, .bool false, .bool false, .bool false, .bool false, .bool false, .bool false, .bool false, .bool false, .bool false, .bool false, .bool false, .bool false, .bool false, .bool false, .bool false, .bool false, .bool false, .bool false, .bool false, .bool false, .bool false, .bool false, .bool false, .bool false, .bool false, .bool false, .bool false, .bool false, .bool false, .bool false, .bool false, .bool false, .bool false, .bool false, .bool false, .bool false, .bool false, .bool false, .bool false, .bool false, .bool false, .bool false, .bool false, .bool false, .bool false, .bool false, .bool false, .bool false, .bool false, .bool false, .bool false, .bool false, .bool false, .bool false, .bool false, .bool false, .bool false, .bool false, .bool false, .bool false, .bool false, .bool false, .bool false, .bool false, .bool false, .bool false, .bool false, .bool false, .bool false, .bool false, .bool false, .bool false, .bool false, .bool false, .bool false, .bool false, .bool false, .bool false, .bool false, .bool false, .bool false, .bool false, .bool false, .bool false, .bool false, .bool false, .bool false, .bool false, .bool false] 0 (List.take 128 (List.drop 0 l3)))))))
 none)
 none)
 none)
 none)
 none))
theorem K_ref01_bits_116 (j : Jump) (n : Nat) (m116 : Nat) (x0 : Int) (x1 : Int) (x2 : Int) (l3 : List AV) : enter (topEnv C (CP C n) n F_ref01_bits) (some j) (bodyOf C.P F_ref01_bits) (endOf C.P F_ref01_bits) [false, false, true, false, true, true] [(m116 + 1)] (S_ref01_bits_116 x0 x1 x2 l3) = T_ref01_bits_116 (CP C n) x0 x1 x2 l3 (fun x0 x1 x2 l3 => j [false, false, true, false, true, true] [m116] (S_ref01_bits_116 x0 x1 x2 l3)) := by kernel_rfl
def J_ref01_bits_116 (cp : FuncId → List AV → Option AV) (n : Nat) : Nat → Int → Int → Int → List AV → Option AV
  | 0 => (fun x0 x1 x2 l3 => none)
  | m + 1 => (fun x0 x1 x2 l3 => T_ref01_bits_116 cp x0 x1 x2 l3 (J_ref01_bits_116 cp n m))
theorem Js_ref01_bits_116 (cp : FuncId → List AV → Option AV) (n : Nat) (m : Nat) (x0 : Int) (x1 : Int) (x2 : Int) (l3 : List AV) : J_ref01_bits_116 cp n (m + 1) x0 x1 x2 l3 = T_ref01_bits_116 cp x0 x1 x2 l3 (J_ref01_bits_116 cp n m) := of_eq_true (eq_self _)
theorem JE_ref01_bits_116 (n : Nat) : ∀ (m : Nat) (x0 : Int) (x1 : Int) (x2 : Int) (l3 : List AV), jT (topEnv C (CP C n) n F_ref01_bits) (bodyOf C.P F_ref01_bits) (endOf C.P F_ref01_bits) [false, false, true, false, true, true] [m] (S_ref01_bits_116 x0 x1 x2 l3) = J_ref01_bits_116 (CP C n) n m x0 x1 x2 l3
  | 0, x0, x1, x2, l3 => (jT_eq _ _ _ _ _ _).trans (by kernel_rfl)
  | m + 1, x0, x1, x2, l3 => (jT_eq _ _ _ _ _ _).trans ((K_ref01_bits_116 _ n m x0 x1 x2 l3).trans (congrArg (T_ref01_bits_116 (CP C n) x0 x1 x2 l3) (funext fun x0 => (funext fun x1 => (funext fun x2 => (funext fun l3 => (JE_ref01_bits_116 n m) x0 x1 x2 l3))))))
def T_ref01_bits_1 (cp : FuncId → List AV → Option AV) (a0_0 : Int) (a0_1 : Int) (j116 : Int → Int → Int → List AV → Option AV) : Option AV :=
 (j116 0 a0_0 a0_1 [.bool false, .bool false, .bool false, .bool false, .bool false, .bool false, .bool false, .bool false, .bool false, .bool false, .bool false, .bool false, .bool false, .bool false, .bool false, .bool false, .bool false, .bool false, .bool false, .bool false, .bool false, .bool false, .bool false, .bool false, .bool false, .bool false, .bool false, .bool false, .bool false, .bool false, .bool false, .bool false, .bool false, .bool false, .bool false, .bool false, .bool false, .bool false, .bool false, .bool false, .bool false, .bool false, .bool false, .bool false, .bool false, .bool false, .bool false, .bool false, .bool false, .bool false, .bool false, .bool false, .bool false, .bool false, .bool false, .bool false, .bool false, .bool false, .bool false, .bool false, .bool false, .bool false, .bool false, .bool false, .bool false, .bool false, .bool false, .bool false, .bool false, .bool false, .bool false, .bool false, .bool false, .bool false, .bool false, .bool false, .bool false, .bool false, .bool false, .bool false, .bool false, .bool false, .bool false, .bool false, .bool false, .bool false, .bool false, .bool false, .bool false, .bool false, .bool false, .bool false, .bool false, .bool false, .bool false, .bool false, .bool false, .bool false, .bool false, .bool false, .bool false, .bool false, .bool false, .bool false, .bool false, .bool false, .bool false, .bool false, .bool false, .bool false, .bool false, .bool false, .bool false, .bool false, .bool false, .bool false, .bool false, .bool false, .bool false, .bool false, .bool false, .bool false, .bool false, .bool false, .bool false, .bool false, .bool false, .bool false])
theorem K_ref01_bits_1 (j : Jump) (n : Nat) (a0_0 : Int) (a0_1 : Int) : ex (topEnv C (CP C n) n F_ref01_bits) (some j) (bodyOf C.P F_ref01_bits) 1 [] [] (endOf C.P F_ref01_bits) (startOf C.P F_ref01_bits [.agg [.int .u64 a0_0, .int .u64 a0_1]]) = T_ref01_bits_1 (CP C n) a0_0 a0_1 (fun x0 x1 x2 l3 => j [false, false, true, false, true, true] [(n + 300)] (S_ref01_bits_116 x0 x1 x2 l3)) := by kernel_rfl
def R_ref01_bits (cp : FuncId → List AV → Option AV) (n : Nat) (a0_0 : Int) (a0_1 : Int) : Option AV := T_ref01_bits_1 cp a0_0 a0_1 (J_ref01_bits_116 cp n (n + 300))
theorem eq_ref01_bits (n : Nat) (a0_0 : Int) (a0_1 : Int) : CP C (n + 1) F_ref01_bits [.agg [.int .u64 a0_0, .int .u64 a0_1]] = R_ref01_bits (CP C n) n a0_0 a0_1 :=
  (CP_pure C n F_ref01_bits _ (by kernel_rfl) (by kernel_rfl)).trans ((K_ref01_bits_1 _ n a0_0 a0_1).trans (congrArg (T_ref01_bits_1 (CP C n) a0_0 a0_1) (funext fun x0 => (funext fun x1 => (funext fun x2 => (funext fun l3 => (JE_ref01_bits_116 n (n + 300)) x0 x1 x2 l3))))))
-- ref01_turned
def S_ref01_turned_52 (x0 : Int) (l1 : List AV) : St := ⟨[.junk, .ptr (some (0, 0)), .ptr (some (1, 0)), .int .i64 x0, .junk, .junk, .junk, .junk, .junk, .junk, .junk, .junk, .junk, .junk, .junk], [.cells 101 l1, .cells 101 [.bool false, .bool false, .bool false, .bool false, .bool false, .bool false, .bool false, .bool false, .bool false, .bool false, .bool false, .bool false, .bool false, .bool false, .bool false, .bool false, .bool false, .bool false, .bool false, .bool false, .bool false, .bool false, .bool false, .bool false, .bool false, .bool false, .bool false, .bool false, .bool false, .bool false, .bool false, .bool false, .bool false, .bool false, .bool false, .bool false, .bool false, .bool false, .bool false, .bool false, .bool false, .bool false, .bool false, .bool false, .bool false, .bool false, .bool false, .bool false, .bool false, .bool false, .bool false, .bool false, .bool false, .bool false, .bool false, .bool false, .bool false, .bool false, .bool false, .bool false, .bool false, .bool false, .bool false, .bool false, .bool false, .bool false, .bool false, .bool false, .bool false, .bool false, .bool false, .bool false, .bool false, .bool false, .bool false, .bool false, .bool false, .bool false, .bool false, .bool false, .bool false, .bool false, .bool false, .bool false, .bool false, .bool false, .bool false, .bool false, .bool false, .bool false, .bool false, .bool false, .bool false, .bool false, .bool false, .bool false, .bool false, .bool false, .bool false, .bool false, .bool false, .bool false, .bool false, .bool false, .bool false, .bool false, .bool false, .bool false, .bool false, .bool false, .bool false, .bool false, .bool false, .bool false, .bool false, .bool false, .bool false, .bool false, .bool false, .bool false, .bool false, .bool false, .bool false, .bool false, .bool false, .bool false, .bool false, .bool false]]⟩
def T_ref01_turned_52 (cp : FuncId → List AV → Option AV) (x0 : Int) (l1 : List AV) (r52 : Int → List AV → Option AV) : Option AV :=
 (cond (decide (x0 < 128))
 (cond ((decide (0 ≤ x0)) && (decide (x0 < 128)))
 (cond (fits (0 + ((Int.toNat x0) * 1)) 1 l1)
 (unK .not (nth l1 (0 + ((Int.toNat x0) * 1))) fun v1 =>
 (cond ((decide (0 ≤ x0)) && (decide (x0 < 128)))
 (cond (lenIs (cellsOf v1) 1)
 (cond (cellsOk (cellsOf v1))
 (cond (fits (0 + ((Int.toNat x0) * 1)) 1 l1)
 (r52 (IntKind.i64.wrap (x0 + 1)) (splice l1 (0 + ((Int.toNat x0) * 1)) (cellsOf v1)))
 none)
 none)
 none)
 none))
 none)
 none)
 (cond (fits 0 128 l1)
 (cond (lenIs (List.take 128 (List.drop 0 l1)) 128)
 (cond (cellsOk (List.take 128 (List.drop 0 l1)))
 (cond (fits 0 128 (splice [.bool false, .bool false, .bool false, .bool false, .bool false, .bool false, .bool false, .bool false, .bool false, .bool false, .bool false, .bool false, .bool false, .bool false, .bool false, .bool false, .bool false, .bool false, .bool false, .bool false, .bool false, .bool false, .bool false, .bool false, .bool false, .bool false, .bool false, .bool false, .bool false, .bool false, .bool false, .bool false, .bool false, .bool false, .bool false, .bool false, .bool false, .bool false, .bool false, .bool false, .bool false, .bool false, .bool false, .bool false, .bool false, .bool false, .bool false, .bool false, .bool false, .bool false, .bool false, .bool false, .bool false, .bool false, .bool false, .bool false, .bool false, .bool false, .bool false, .bool false, .bool false, .bool false, .bool false, .bool false, .bool false, .bool false, .bool false, .bool false, .bool false, .bool false, .bool false, .bool false, .bool false, .bool false, .bool false, .bool false, .bool false, .bool false, .bool false, .bool false, .bool false, .bool false, .bool false, .bool false, .bool false, .bool false, .bool false, .bool false, .bool false, .bool false, .bool false, .bool false, .bool false, .bool false, .bool false, .bool false, .bool false, .bool false, .bool false, .bool false, .bool false, .bool false, .bool false, .bool false, .bool false, .bool false, .bool false, .bool false, .bool false, .bool false, .bool false, .bool false, .bool false, .bool false, .bool false, .bool false, .bool false, .bool false, .bool false, .bool false, .bool false, .bool false, .bool false, .bool false, .bool false, .bool false, .bool false, .bool false] 0 (List.take 128 (List.drop 0 l1))))
 (cond (AV.pureL (List.take 128 (List.drop 0 (splice [.bool false, .bool false, .bool false, .bool false, .bool false, .bool false, .bool false, .bool false, .bool false, .bool false, .bool false, .bool false, .bool false, .bool false, .bool false, .bool false, .bool false, .bool false, .bool false, .bool false, .bool false, .bool false, .bool false, .bool false, .bool false, .bool false, .bool false, .bool false, .bool false, .bool false, .bool false, .bool false, .bool false, .bool false, .bool false, .bool false, .bool false, .bool false, .bool false, .bool false, .bool false, .bool false, .bool false, .bool false, .bool false, .bool false, .bool false, .bool false, .bool false, .bool false, .bool false, .bool false, .bool false, .bool false, .bool false, .bool false, .bool false, .bool false, .bool false, .bool false, .bool false, .bool false, .bool false, .bool false, .bool false, .bool false, .bool false, .bool false, .bool false, .bool false, .bool false, .bool false, .bool false, .bool false, .bool false, .bool false, .bool false, .bool false, .bool false, .bool false, .bool false, .bool false, .bool false, .bool false, .bool false, .bool false, .bool false, .bool false, .bool false, .bool false, .bool false, .bool false, .bool false, .bool false, .bool false, .bool false, .bool false, .bool false, .bool false, .bool false, .bool false, .bool false, .bool false, .bool false, .bool false, .bool false, .bool false, .bool false, .bool false, .bool false, .bool false, .bool false, .bool false, .bool false, .bool false, .bool false, .bool false, .bool false, .bool false, .bool false, .bool false, .bool false, .bool false, .bool false, .bool false, .bool false, .bool false, .bool false] 0 (List.take 128 (List.drop 0 l1))))))
 (some (.agg (List.take 128 (List.drop 0 (splice [.bool false, .bool false, .bool false, .bool false, .bool false, .bool false, .bool false, .bool false, .bool false, .bool false, .bool false, .bool false, .bool false, .bool false, .bool false, .bool false, .bool false, .bool false, .bool false, .bool false, .bool false, .bool false, .bool false, .bool false, .bool false, .bool false, .bool false, .bool false, .bool false, .bool false, .bool false, .bool false, .bool false, .bool false, .bool false, .bool false, .bool false, .bool false, .bool false, .bool false, .bool false, .bool false, .bool false, .bool false, .bool false, .bool false, .bool false, .bool false, .bool false, .bool false, .bool false, .bool false, .bool false, .bool false, .bool false, .bool false, .bool false, .bool false, .bool false, .bool false, .bool false, .bool false, .bool false, .bool false, .bool false, .bool false, .bool false, .bool false, .bool false, .bool false, .bool false, .bool false, .bool false, .bool false, .bool false, .bool false, .bool false, .bool false, .bool false, .bool false, .bool false, .bool false, .bool false, .bool false, .bool false, .bool false, .bool false, .bool false, .bool false, .bool false, .bool false, .bool false, .bool false, .bool false, .bool false, .bool false, .bool false, .bool false, .bool false, .bool false, .bool false, .bool false, .bool false, .bool false, .bool false, .bool false, .bool false, .bool false, .bool false, .bool false, .bool false, .bool false, .bool false, .bool false, .bool false, .bool false, .bool false, .bool false, .bool false, .bool false, .bool false, .bool false, .bool false, .bool false, .bool false, .bool false, .bool false, .bool false] 0 (List.take 128 (List.drop 0 l1)))))))
 none)
 none)
 none)
 none)
 none))
theorem K_ref01_turned_52 (j : Jump) (n : Nat) (m52 : Nat) (x0 : Int) (l1 : List AV) : enter (topEnv C (CP C n) n F_ref01_turned) (some j) (bodyOf C.P F_ref01_turned) (endOf C.P F_ref01_turned) [false, false, true, false, true] [(m52 + 1)] (S_ref01_turned_52 x0 l1) = T_ref01_turned_52 (CP C n) x0 l1 (fun x0 l1 => j [false, false, true, false, true] [m52] (S_ref01_turned_52 x0 l1)) := by kernel_rfl
def J_ref01_turned_52 (cp : FuncId → List AV → Option AV) (n : Nat) : Nat → Int → List AV → Option AV
  | 0 => (fun x0 l1 => none)
  | m + 1 => (fun x0 l1 => T_ref01_turned_52 cp x0 l1 (J_ref01_turned_52 cp n m))
theorem Js_ref01_turned_52 (cp : FuncId → List AV → Option AV) (n : Nat) (m : Nat) (x0 : Int) (l1 : List AV) : J_ref01_turned_52 cp n (m + 1) x0 l1 = T_ref01_turned_52 cp x0 l1 (J_ref01_turned_52 cp n m) := of_eq_true (eq_self _)
theorem JE_ref01_turned_52 (n : Nat) : ∀ (m : Nat) (x0 : Int) (l1 : List AV), jT (topEnv C (CP C n) n F_ref01_turned) (bodyOf C.P F_ref01_turned) (endOf C.P F_ref01_turned) [false, false, true, false, true] [m] (S_ref01_turned_52 x0 l1) = J_ref01_turned_52 (CP C n) n m x0 l1
  | 0, x0, l1 => (jT_eq _ _ _ _ _ _).trans (by kernel_rfl)
  | m + 1, x0, l1 => (jT_eq _ _ _ _ _ _).trans ((K_ref01_turned_52 _ n m x0 l1).trans (congrArg (T_ref01_turned_52 (CP C n) x0 l1) (funext fun x0 => (funext fun l1 => (JE_ref01_turned_52 n m) x0 l1))))
def T_ref01_turned_1 (cp : FuncId → List AV → Option AV) (a0 : List AV) (j52 : Int → List AV → Option AV) : Option AV :=
 (j52 0 a0)
theorem K_ref01_turned_1 (j : Jump) (n : Nat) (a0 : List AV) : ex (topEnv C (CP C n) n F_ref01_turned) (some j) (bodyOf C.P F_ref01_turned) 1 [] [] (endOf C.P F_ref01_turned) (startOf C.P F_ref01_turned [.agg a0]) = T_ref01_turned_1 (CP C n) a0 (fun x0 l1 => j [false, false, true, false, true] [(n + 300)] (S_ref01_turned_52 x0 l1)) := by kernel_rfl
def R_ref01_turned (cp : FuncId → List AV → Option AV) (n : Nat) (a0 : List AV) : Option AV := T_ref01_turned_1 cp a0 (J_ref01_turned_52 cp n (n + 300))
theorem eq_ref01_turned (n : Nat) (a0 : List AV) : CP C (n + 1) F_ref01_turned [.agg a0] = cond (AV.pureL [.agg a0]) (R_ref01_turned (CP C n) n a0) none :=
  (CP_run C n F_ref01_turned _ (by kernel_rfl)).trans (congrArg (fun x => cond (AV.pureL [.agg a0]) x none) ((K_ref01_turned_1 _ n a0).trans (congrArg (T_ref01_turned_1 (CP C n) a0) (funext fun x0 => (funext fun l1 => (JE_ref01_turned_52 n (n + 300)) x0 l1)))))
-- ref01_wide
def S_ref01_wide_116 (x0 : Int) (l1 : List AV) (x2 : Int) (x3 : Int) : St := ⟨[.junk, .ptr (some (0, 0)), .ptr (some (1, 0)), .ptr (some (2, 0)), .int .i64 x0, .junk, .junk, .junk, .junk, .junk, .junk, .junk, .junk, .junk, .junk, .junk, .junk, .junk, .junk, .junk, .junk, .junk, .junk, .junk, .junk, .junk, .junk, .junk, .junk, .junk, .junk], [.cells 101 l1, .cells 24 [.int .u64 0, .int .u64 0], .cells 24 [.int .u64 x2, .int .u64 x3]]⟩
def T_ref01_wide_116 (cp : FuncId → List AV → Option AV) (x0 : Int) (l1 : List AV) (x2 : Int) (x3 : Int) (r116 : Int → List AV → Int → Int → Option AV) : Option AV :=
 (cond (decide (x0 < 64))
 (cond ((decide (0 ≤ x0)) && (decide (x0 < 128)))
 (cond (fits (0 + ((Int.toNat x0) * 1)) 1 l1)
 (AV.boolK (nth l1 (0 + ((Int.toNat x0) * 1))) fun b1 =>
 (cond b1
 (cond (decide ((IntKind.u64.wrap x0) < 0))
 none
 (bnd (IntKind.u64.wrap (1 * (2 ^ (min (Int.toNat (IntKind.u64.wrap x0)) 64)))) fun y2 =>
 (bnd (IntKind.u64.wrap ((BitVec.ofInt 64 x3 ||| BitVec.ofInt 64 y2).toNat : Int)) fun y3 =>
 (cond ((decide (0 ≤ (IntKind.i64.wrap (64 + x0)))) && (decide ((IntKind.i64.wrap (64 + x0)) < 128)))
 (cond (fits (0 + ((Int.toNat (IntKind.i64.wrap (64 + x0))) * 1)) 1 l1)
 (AV.boolK (nth l1 (0 + ((Int.toNat (IntKind.i64.wrap (64 + x0))) * 1))) fun b4 =>
 (cond b4
 (cond (decide ((IntKind.u64.wrap x0) < 0))
 none
 (bnd (IntKind.u64.wrap (1 * (2 ^ (min (Int.toNat (IntKind.u64.wrap x0)) 64)))) fun y5 =>
 (bnd (IntKind.u64.wrap ((BitVec.ofInt 64 x2 ||| BitVec.ofInt 64 y5).toNat : Int)) fun y6 =>
 (r116 (IntKind.i64.wrap (x0 + 1)) l1 y6 y3))))
 (r116 (IntKind.i64.wrap (x0 + 1)) l1 x2 y3)))
 none)
 none))))
 (cond ((decide (0 ≤ (IntKind.i64.wrap (64 + x0)))) && (decide ((IntKind.i64.wrap (64 + x0)) < 128)))
 (cond (fits (0 + ((Int.toNat (IntKind.i64.wrap (64 + x0))) * 1)) 1 l1)
 (AV.boolK (nth l1 (0 + ((Int.toNat (IntKind.i64.wrap (64 + x0))) * 1))) fun b7 =>
 (cond b7
 (cond (decide ((IntKind.u64.wrap x0) < 0))
 none
 (bnd (IntKind.u64.wrap (1 * (2 ^ (min (Int.toNat (IntKind.u64.wrap x0)) 64)))) fun y8 =>
 (bnd (IntKind.u64.wrap ((BitVec.ofInt 64 x2 ||| BitVec.ofInt 64 y8).toNat : Int)) fun y9 =>
 (r116 (IntKind.i64.wrap (x0 + 1)) l1 y9 x3))))
 (r116 (IntKind.i64.wrap (x0 + 1)) l1 x2 x3)))
 none)
 none)))
 none)
 none)
 (some (.agg [.int .u64 x2, .int .u64 x3])))
theorem K_ref01_wide_116 (j : Jump) (n : Nat) (m116 : Nat) (x0 : Int) (l1 : List AV) (x2 : Int) (x3 : Int) : enter (topEnv C (CP C n) n F_ref01_wide) (some j) (bodyOf C.P F_ref01_wide) (endOf C.P F_ref01_wide) [false, false, true, false, true, true] [(m116 + 1)] (S_ref01_wide_116 x0 l1 x2 x3) = T_ref01_wide_116 (CP C n) x0 l1 x2 x3 (fun x0 l1 x2 x3 => j [false, false, true, false, true, true] [m116] (S_ref01_wide_116 x0 l1 x2 x3)) := by kernel_rfl
def J_ref01_wide_116 (cp : FuncId → List AV → Option AV) (n : Nat) : Nat → Int → List AV → Int → Int → Option AV
  | 0 => (fun x0 l1 x2 x3 => none)
  | m + 1 => (fun x0 l1 x2 x3 => T_ref01_wide_116 cp x0 l1 x2 x3 (J_ref01_wide_116 cp n m))
theorem Js_ref01_wide_116 (cp : FuncId → List AV → Option AV) (n : Nat) (m : Nat) (x0 : Int) (l1 : List AV) (x2 : Int) (x3 : Int) : J_ref01_wide_116 cp n (m + 1) x0 l1 x2 x3 = T_ref01_wide_116 cp x0 l1 x2 x3 (J_ref01_wide_116 cp n m) := of_eq_true (eq_self _)
theorem JE_ref01_wide_116 (n : Nat) : ∀ (m : Nat) (x0 : Int) (l1 : List AV) (x2 : Int) (x3 : Int), jT (topEnv C (CP C n) n F_ref01_wide) (bodyOf C.P F_ref01_wide) (endOf C.P F_ref01_wide) [false, false, true, false, true, true] [m] (S_ref01_wide_116 x0 l1 x2 x3) = J_ref01_wide_116 (CP C n) n m x0 l1 x2 x3
  | 0, x0, l1, x2, x3 => (jT_eq _ _ _ _ _ _).trans (by kernel_rfl)
  | m + 1, x0, l1, x2, x3 => (jT_eq _ _ _ _ _ _).trans ((K_ref01_wide_116 _ n m x0 l1 x2 x3).trans (congrArg (T_ref01_wide_116 (CP C n) x0 l1 x2 x3) (funext fun x0 => (funext fun l1 => (funext fun x2 => (funext fun x3 => (JE_ref01_wide_116 n m) x0 l1 x2 x3))))))
def T_ref01_wide_1 (cp : FuncId → List AV → Option AV) (a0 : List AV) (j116 : Int → List AV → Int → Int → Option AV) : Option AV :=
 (j116 0 a0 0 0)
theorem K_ref01_wide_1 (j : Jump) (n : Nat) (a0 : List AV) : ex (topEnv C (CP C n) n F_ref01_wide) (some j) (bodyOf C.P F_ref01_wide) 1 [] [] (endOf C.P F_ref01_wide) (startOf C.P F_ref01_wide [.agg a0]) = T_ref01_wide_1 (CP C n) a0 (fun x0 l1 x2 x3 => j [false, false, true, false, true, true] [(n + 300)] (S_ref01_wide_116 x0 l1 x2 x3)) := by kernel_rfl
def R_ref01_wide (cp : FuncId → List AV → Option AV) (n : Nat) (a0 : List AV) : Option AV := T_ref01_wide_1 cp a0 (J_ref01_wide_116 cp n (n + 300))
theorem eq_ref01_wide (n : Nat) (a0 : List AV) : CP C (n + 1) F_ref01_wide [.agg a0] = cond (AV.pureL [.agg a0]) (R_ref01_wide (CP C n) n a0) none :=
  (CP_run C n F_ref01_wide _ (by kernel_rfl)).trans (congrArg (fun x => cond (AV.pureL [.agg a0]) x none) ((K_ref01_wide_1 _ n a0).trans (congrArg (T_ref01_wide_1 (CP C n) a0) (funext fun x0 => (funext fun l1 => (funext fun x2 => (funext fun x3 => (JE_ref01_wide_116 n (n + 300)) x0 l1 x2 x3)))))))
-- ref01_Sub
def R_ref01_Sub (cp : FuncId → List AV → Option AV) (_n : Nat) (a0_0 : Int) (a0_1 : Int) (a1_0 : Int) (a1_1 : Int) : Option AV :=
 ((cp F_ref01_bits [.agg [.int .u64 a0_0, .int .u64 a0_1]]).bind fun r1 =>
 (AV.aggK r1 fun l2 =>
 ((cp F_ref01_bits [.agg [.int .u64 a1_0, .int .u64 a1_1]]).bind fun r3 =>
 (AV.aggK r3 fun l4 =>
 (cond ((AV.pureL l4) && true)
 ((cp F_ref01_turned [.agg l4]).bind fun r5 =>
 (AV.aggK r5 fun l6 =>
 (cond ((AV.pureL l2) && ((AV.pureL l6) && true))
 ((cp F_ref01_sum [.agg l2, .agg l6, .bool true]).bind fun r7 =>
 (AV.tupK r7 fun l8 =>
 (consK l8 fun v9 l10 =>
 (AV.aggK v9 fun l11 =>
 (consK l10 fun v12 l13 =>
 (AV.boolK v12 fun b14 =>
 (nilK l13
 (cond (lenIs l11 128)
 (cond (cellsOk l11)
 (cond (fits 0 128 (splice [.bool false, .bool false, .bool false, .bool false, .bool false, .bool false, .bool false, .bool false, .bool false, .bool false, .bool false, .bool false, .bool false, .bool false, .bool false, .bool false, .bool false, .bool false, .bool false, .bool false, .bool false, .bool false, .bool false, .bool false, .bool false, .bool false, .bool false, .bool false, .bool false, .bool false, .bool false, .bool false, .bool false, .bool false, .bool false, .bool false, .bool false, .bool false, .bool false, .bool false, .bool false, .bool false, .bool false, .bool false, .bool false, .bool false, .bool false, .bool false, .bool false, .bool false, .bool false, .bool false, .bool false, .bool false, .bool false, .bool false, .bool false, .bool false, .bool false, .bool false, .bool false, .bool false, .bool false, .bool false, .bool false, .bool false, .bool false, .bool false, .bool false, .bool false, .bool false, .bool false, .bool false, .bool false, .bool false, .bool false, .bool false, .bool false, .bool false, .bool false, .bool false, .bool false, .bool false, .bool false, .bool false, .bool false, .bool false, .bool false, .bool false, .bool false, .bool false, .bool false, .bool false, .bool false, .bool false, .bool false, .bool false, .bool false, .bool false, .bool false, .bool false, .bool false, .bool false, .bool false, .bool false, .bool false, .bool false, .bool false, .bool false, .bool false, .bool false, .bool false, .bool false, .bool false, .bool false, .bool false, .bool false, .bool false, .bool false, .bool false, .bool false, .bool false, .bool false, .bool false, .bool false, .bool false, .bool false, .bool false] 0 l11))
 (cond ((AV.pureL (List.take 128 (List.drop 0 (splice [.bool false, .bool false, .bool false, .bool false, .bool false, .bool false, .bool false, .bool false, .bool false, .bool false, .bool false, .bool false, .bool false, .bool false, .bool false, .bool false, .bool false, .bool false, .bool false, .bool false, .bool false, .bool false, .bool false, .bool false, .bool false, .bool false, .bool false, .bool false, .bool false, .bool false, .bool false, .bool false, .bool false, .bool false, .bool false, .bool false, .bool false, .bool false, .bool false, .bool false, .bool false, .bool false, .bool false, .bool false, .bool false, .bool false, .bool false, .bool false, .bool false, .bool false, .bool false, .bool false, .bool false, .bool false, .bool false, .bool false, .bool false, .bool false, .bool false, .bool false, .bool false, .bool false, .bool false, .bool false, .bool false, .bool false, .bool false, .bool false, .bool false, .bool false, .bool false, .bool false, .bool false, .bool false, .bool false, .bool false, .bool false, .bool false, .bool false, .bool false, .bool false, .bool false, .bool false, .bool false, .bool false, .bool false, .bool false, .bool false, .bool false, .bool false, .bool false, .bool false, .bool false, .bool false, .bool false, .bool false, .bool false, .bool false, .bool false, .bool false, .bool false, .bool false, .bool false, .bool false, .bool false, .bool false, .bool false, .bool false, .bool false, .bool false, .bool false, .bool false, .bool false, .bool false, .bool false, .bool false, .bool false, .bool false, .bool false, .bool false, .bool false, .bool false, .bool false, .bool false, .bool false, .bool false, .bool false, .bool false] 0 l11)))) && true)
 ((cp F_ref01_wide [.agg (List.take 128 (List.drop 0 (splice [.bool false, .bool false, .bool false, .bool false, .bool false, .bool false, .bool false, .bool false, .bool false, .bool false, .bool false, .bool false, .bool false, .bool false, .bool false, .bool false, .bool false, .bool false, .bool false, .bool false, .bool false, .bool false, .bool false, .bool false, .bool false, .bool false, .bool false, .bool false, .bool false, .bool false, .bool false, .bool false, .bool false, .bool false, .bool false, .bool false, .bool false, .bool false, .bool false, .bool false, .bool false, .bool false, .bool false, .bool false, .bool false, .bool false, .bool false, .bool false, .bool false, .bool false, .bool false, .bool false, .bool false, .bool false, .bool false, .bool false, .bool false, .bool false, .bool false, .bool false, .bool false, .bool false, .bool false, .bool false, .bool false, .bool false, .bool false, .bool false, .bool false, .bool false, .bool false, .bool false, .bool false, .bool false, .bool false, .bool false, .bool false, .bool false, .bool false, .bool false, .bool false, .bool false, .bool false, .bool false, .bool false, .bool false, .bool false, .bool false, .bool false, .bool false, .bool false, .bool false, .bool false, .bool false, .bool false, .bool false, .bool false, .bool false, .bool false, .bool false, .bool false, .bool false, .bool false, .bool false, .bool false, .bool false, .bool false, .bool false, .bool false, .bool false, .bool false, .bool false, .bool false, .bool false, .bool false, .bool false, .bool false, .bool false, .bool false, .bool false, .bool false, .bool false, .bool false, .bool false, .bool false, .bool false, .bool false, .bool false] 0 l11)))]).bind fun r15 =>
 (AV.aggK r15 fun l16 =>
 (consK l16 fun v17 l18 =>
 (AV.intK .u64 v17 fun i19 =>
 (consK l18 fun v20 l21 =>
 (AV.intK .u64 v20 fun i22 =>
 (nilK l21
 (some (.tup [.agg [.int .u64 i19, .int .u64 i22], .bool (!b14)])))))))))
 none)
 none)
 none)
 none))))))))
 none)))
 none)))))
theorem eq_ref01_Sub (n : Nat) (a0_0 : Int) (a0_1 : Int) (a1_0 : Int) (a1_1 : Int) : CP C (n + 1) F_ref01_Sub [.agg [.int .u64 a0_0, .int .u64 a0_1], .agg [.int .u64 a1_0, .int .u64 a1_1]] = R_ref01_Sub (CP C n) n a0_0 a0_1 a1_0 a1_1 := by kernel_rfl
-- ref01_Neg
def R_ref01_Neg (cp : FuncId → List AV → Option AV) (_n : Nat) (a0_0 : Int) (a0_1 : Int) : Option AV :=
 ((cp F_ref01_Sub [.agg [.int .u64 0, .int .u64 0], .agg [.int .u64 a0_0, .int .u64 a0_1]]).bind fun r1 =>
 (AV.tupK r1 fun l2 =>
 (consK l2 fun v3 l4 =>
 (AV.aggK v3 fun l5 =>
 (consK l5 fun v6 l7 =>
 (AV.intK .u64 v6 fun i8 =>
 (consK l7 fun v9 l10 =>
 (AV.intK .u64 v9 fun i11 =>
 (nilK l10
 (consK l4 fun v12 l13 =>
 (AV.boolK v12 fun b14 =>
 (nilK l13
 (some (.agg [.int .u64 i8, .int .u64 i11]))))))))))))))
theorem eq_ref01_Neg (n : Nat) (a0_0 : Int) (a0_1 : Int) : CP C (n + 1) F_ref01_Neg [.agg [.int .u64 a0_0, .int .u64 a0_1]] = R_ref01_Neg (CP C n) n a0_0 a0_1 := by kernel_rfl
-- ref05_out
def R_ref05_out (cp : FuncId → List AV → Option AV) (_n : Nat) (a0_0 : Int) (a0_1 : Int) : Option AV :=
 ((cp F_ref01_Below [.agg [.int .u64 a0_0, .int .u64 a0_1]]).bind fun r1 =>
 (AV.boolK r1 fun b2 =>
 (cond b2
 ((cp F_ref01_Neg [.agg [.int .u64 a0_0, .int .u64 a0_1]]).bind fun r3 =>
 (AV.aggK r3 fun l4 =>
 (consK l4 fun v5 l6 =>
 (AV.intK .u64 v5 fun i7 =>
 (consK l6 fun v8 l9 =>
 (AV.intK .u64 v8 fun i10 =>
 (nilK l9
 ((cp F_ref01_Cmp [.agg [.int .u64 i7, .int .u64 i10], .agg [.int .u64 68719476736, .int .u64 0]]).bind fun r11 =>
 (AV.intK .i64 r11 fun i12 =>
 (some (.bool (decide (i12 > 0)))))))))))))
 ((cp F_ref01_Cmp [.agg [.int .u64 a0_0, .int .u64 a0_1], .agg [.int .u64 68719476736, .int .u64 0]]).bind fun r13 =>
 (AV.intK .i64 r13 fun i14 =>
 (some (.bool (decide (i14 > 0)))))))))
theorem eq_ref05_out (n : Nat) (a0_0 : Int) (a0_1 : Int) : CP C (n + 1) F_ref05_out [.agg [.int .u64 a0_0, .int .u64 a0_1]] = R_ref05_out (CP C n) n a0_0 a0_1 := by kernel_rfl
-- ref05_more
def R_ref05_more (cp : FuncId → List AV → Option AV) (_n : Nat) (a0_0 : Int) (a0_1 : Int) (a1_0 : Int) (a1_1 : Int) : Option AV :=
 (cond (decide ((IntKind.u64.wrap (a0_1 + a1_1)) < a0_1))
 (some (.agg [.int .u64 (IntKind.u64.wrap ((IntKind.u64.wrap (a0_0 + a1_0)) + 1)), .int .u64 (IntKind.u64.wrap (a0_1 + a1_1))]))
 (some (.agg [.int .u64 (IntKind.u64.wrap (a0_0 + a1_0)), .int .u64 (IntKind.u64.wrap (a0_1 + a1_1))])))
theorem eq_ref05_more (n : Nat) (a0_0 : Int) (a0_1 : Int) (a1_0 : Int) (a1_1 : Int) : CP C (n + 1) F_ref05_more [.agg [.int .u64 a0_0, .int .u64 a0_1], .agg [.int .u64 a1_0, .int .u64 a1_1]] = R_ref05_more (CP C n) n a0_0 a0_1 a1_0 a1_1 := by kernel_rfl
-- ref05_less
def R_ref05_less (cp : FuncId → List AV → Option AV) (_n : Nat) (a0_0 : Int) (a0_1 : Int) (a1_0 : Int) (a1_1 : Int) : Option AV :=
 (cond (decide (a0_1 < a1_1))
 (some (.agg [.int .u64 (IntKind.u64.wrap ((IntKind.u64.wrap (a0_0 - a1_0)) - 1)), .int .u64 (IntKind.u64.wrap (a0_1 - a1_1))]))
 (some (.agg [.int .u64 (IntKind.u64.wrap (a0_0 - a1_0)), .int .u64 (IntKind.u64.wrap (a0_1 - a1_1))])))
theorem eq_ref05_less (n : Nat) (a0_0 : Int) (a0_1 : Int) (a1_0 : Int) (a1_1 : Int) : CP C (n + 1) F_ref05_less [.agg [.int .u64 a0_0, .int .u64 a0_1], .agg [.int .u64 a1_0, .int .u64 a1_1]] = R_ref05_less (CP C n) n a0_0 a0_1 a1_0 a1_1 := by kernel_rfl
-- ref05_Floor
def S_ref05_Floor_2036 (b0 : Bool) (b1 : Bool) (x2 : Int) (x3 : Int) (x4 : Int) (x5 : Int) (x6 : Int) (x7 : Int) (x8 : Int) : St := ⟨[.junk, .junk, .junk, .ptr (some (1, 0)), .ptr (some (2, 0)), .junk, .bool b0, .ptr (some (3, 0)), .ptr (some (4, 0)), .bool b1, .int .i64 x2, .junk, .junk, .junk, .junk, .junk, .junk, .junk, .junk, .junk, .junk, .junk, .junk, .junk, .junk, .junk, .junk, .junk, .junk, .junk, .junk, .junk, .junk, .junk, .junk, .junk, .junk, .junk, .junk, .junk, .junk, .junk, .junk, .junk, .junk, .junk, .junk, .junk, .junk, .junk, .junk, .junk, .junk, .junk, .junk, .junk, .junk, .junk, .junk, .junk, .junk, .junk, .junk, .junk, .junk, .junk, .junk, .junk, .junk, .junk, .junk, .junk, .junk, .junk], [.dead, .cells 24 [.int .u64 x3, .int .u64 x4], .cells 24 [.int .u64 0, .int .u64 0], .cells 24 [.int .u64 x5, .int .u64 x6], .cells 24 [.int .u64 x7, .int .u64 x8]]⟩
def S_ref05_Floor_1042740 (b0 : Bool) (b1 : Bool) (x2 : Int) (b3 : Bool) (x4 : Int) (x5 : Int) (x6 : Int) (x7 : Int) (x8 : Int) (x9 : Int) (x10 : Int) (x11 : Int) (x12 : Int) : St := ⟨[.junk, .junk, .junk, .ptr (some (1, 0)), .ptr (some (2, 0)), .junk, .bool b0, .ptr (some (3, 0)), .ptr (some (4, 0)), .bool b1, .int .i64 x2, .ptr (some (5, 0)), .bool b3, .int .i64 x4, .junk, .junk, .junk, .junk, .junk, .junk, .junk, .junk, .junk, .junk, .junk, .junk, .junk, .junk, .junk, .junk, .junk, .junk, .junk, .junk, .junk, .junk, .junk, .junk, .junk, .junk, .junk, .junk, .junk, .junk, .junk, .junk, .junk, .junk, .junk, .junk, .junk, .junk, .junk, .junk, .junk, .junk, .junk, .junk, .junk, .junk, .junk, .junk, .junk, .junk, .junk, .junk, .junk, .junk, .junk, .junk, .junk, .junk, .junk, .junk], [.dead, .cells 24 [.int .u64 x5, .int .u64 x6], .cells 24 [.int .u64 0, .int .u64 0], .cells 24 [.int .u64 x7, .int .u64 x8], .cells 24 [.int .u64 x9, .int .u64 x10], .cells 24 [.int .u64 x11, .int .u64 x12]]⟩
def T_ref05_Floor_1042740 (cp : FuncId → List AV → Option AV) (b0 : Bool) (b1 : Bool) (x2 : Int) (b3 : Bool) (x4 : Int) (x5 : Int) (x6 : Int) (x7 : Int) (x8 : Int) (x9 : Int) (x10 : Int) (x11 : Int) (x12 : Int) (r1042740 : Bool → Bool → Int → Bool → Int → Int → Int → Int → Int → Int → Int → Int → Int → Option AV) (r2036 : Bool → Bool → Int → Int → Int → Int → Int → Int → Int → Option AV) : Option AV :=
 (cond (decide (x4 < x2))
 (cond b3
 ((cp F_ref05_more [.agg [.int .u64 x11, .int .u64 x12], .agg [.int .u64 x11, .int .u64 x12]]).bind fun r1 =>
 (AV.aggK r1 fun l2 =>
 (consK l2 fun v3 l4 =>
 (AV.intK .u64 v3 fun i5 =>
 (consK l4 fun v6 l7 =>
 (AV.intK .u64 v6 fun i8 =>
 (nilK l7
 (r1042740 b0 b1 x2 (decide (x11 < 4611686018427387904)) (IntKind.i64.wrap (x4 + 1)) x5 x6 x7 x8 x9 x10 i5 i8))))))))
 (cond b3
 ((cp F_ref01_Cmp [.agg [.int .u64 x11, .int .u64 x12], .agg [.int .u64 x7, .int .u64 x8]]).bind fun r9 =>
 (AV.intK .i64 r9 fun i10 =>
 (cond (decide (i10 ≤ 0))
 ((cp F_ref05_less [.agg [.int .u64 x7, .int .u64 x8], .agg [.int .u64 x11, .int .u64 x12]]).bind fun r11 =>
 (AV.aggK r11 fun l12 =>
 (consK l12 fun v13 l14 =>
 (AV.intK .u64 v13 fun i15 =>
 (consK l14 fun v16 l17 =>
 (AV.intK .u64 v16 fun i18 =>
 (nilK l17
 ((cp F_ref05_more [.agg [.int .u64 x9, .int .u64 x10], .agg [.int .u64 x11, .int .u64 x12]]).bind fun r19 =>
 (AV.aggK r19 fun l20 =>
 (consK l20 fun v21 l22 =>
 (AV.intK .u64 v21 fun i23 =>
 (consK l22 fun v24 l25 =>
 (AV.intK .u64 v24 fun i26 =>
 (nilK l25
 (cond b1
 (r2036 b0 (decide (x2 > 0)) (IntKind.i64.wrap (x2 - 1)) x5 x6 i15 i18 i23 i26)
 (r2036 b0 false (IntKind.i64.wrap (x2 - 1)) x5 x6 i15 i18 i23 i26))))))))))))))))
 (r2036 b0 b1 (IntKind.i64.wrap (x2 - 1)) x5 x6 x7 x8 x9 x10))))
 (r2036 b0 b1 (IntKind.i64.wrap (x2 - 1)) x5 x6 x7 x8 x9 x10)))
 (cond b3
 ((cp F_ref01_Cmp [.agg [.int .u64 x11, .int .u64 x12], .agg [.int .u64 x7, .int .u64 x8]]).bind fun r27 =>
 (AV.intK .i64 r27 fun i28 =>
 (cond (decide (i28 ≤ 0))
 ((cp F_ref05_less [.agg [.int .u64 x7, .int .u64 x8], .agg [.int .u64 x11, .int .u64 x12]]).bind fun r29 =>
 (AV.aggK r29 fun l30 =>
 (consK l30 fun v31 l32 =>
 (AV.intK .u64 v31 fun i33 =>
 (consK l32 fun v34 l35 =>
 (AV.intK .u64 v34 fun i36 =>
 (nilK l35
 ((cp F_ref05_more [.agg [.int .u64 x9, .int .u64 x10], .agg [.int .u64 x11, .int .u64 x12]]).bind fun r37 =>
 (AV.aggK r37 fun l38 =>
 (consK l38 fun v39 l40 =>
 (AV.intK .u64 v39 fun i41 =>
 (consK l40 fun v42 l43 =>
 (AV.intK .u64 v42 fun i44 =>
 (nilK l43
 (cond b1
 (r2036 b0 (decide (x2 > 0)) (IntKind.i64.wrap (x2 - 1)) x5 x6 i33 i36 i41 i44)
 (r2036 b0 false (IntKind.i64.wrap (x2 - 1)) x5 x6 i33 i36 i41 i44))))))))))))))))
 (r2036 b0 b1 (IntKind.i64.wrap (x2 - 1)) x5 x6 x7 x8 x9 x10))))
 (r2036 b0 b1 (IntKind.i64.wrap (x2 - 1)) x5 x6 x7 x8 x9 x10)))
theorem K_ref05_Floor_1042740 (j : Jump) (n : Nat) (m1042740 : Nat) (m2036 : Nat) (b0 : Bool) (b1 : Bool) (x2 : Int) (b3 : Bool) (x4 : Int) (x5 : Int) (x6 : Int) (x7 : Int) (x8 : Int) (x9 : Int) (x10 : Int) (x11 : Int) (x12 : Int) : enter (topEnv C (CP C n) n F_ref05_Floor) (some j) (bodyOf C.P F_ref05_Floor) (endOf C.P F_ref05_Floor) [false, false, true, false, true, true, false, false, true, false, false, true, false, true, true, true, true, true, true] [(m1042740 + 1), m2036] (S_ref05_Floor_1042740 b0 b1 x2 b3 x4 x5 x6 x7 x8 x9 x10 x11 x12) = T_ref05_Floor_1042740 (CP C n) b0 b1 x2 b3 x4 x5 x6 x7 x8 x9 x10 x11 x12 (fun b0 b1 x2 b3 x4 x5 x6 x7 x8 x9 x10 x11 x12 => j [false, false, true, false, true, true, false, false, true, false, false, true, false, true, true, true, true, true, true] [m1042740, m2036] (S_ref05_Floor_1042740 b0 b1 x2 b3 x4 x5 x6 x7 x8 x9 x10 x11 x12)) (fun b0 b1 x2 x3 x4 x5 x6 x7 x8 => j [false, false, true, false, true, true, true, true, true, true] [m2036] (S_ref05_Floor_2036 b0 b1 x2 x3 x4 x5 x6 x7 x8)) := by kernel_rfl
def J_ref05_Floor_1042740 (cp : FuncId → List AV → Option AV) (n : Nat) (r2036 : Bool → Bool → Int → Int → Int → Int → Int → Int → Int → Option AV) : Nat → Bool → Bool → Int → Bool → Int → Int → Int → Int → Int → Int → Int → Int → Int → Option AV
  | 0 => (fun b0 b1 x2 b3 x4 x5 x6 x7 x8 x9 x10 x11 x12 => none)
  | m + 1 => (fun b0 b1 x2 b3 x4 x5 x6 x7 x8 x9 x10 x11 x12 => T_ref05_Floor_1042740 cp b0 b1 x2 b3 x4 x5 x6 x7 x8 x9 x10 x11 x12 (J_ref05_Floor_1042740 cp n r2036 m) r2036)
theorem Js_ref05_Floor_1042740 (cp : FuncId → List AV → Option AV) (n : Nat) (r2036 : Bool → Bool → Int → Int → Int → Int → Int → Int → Int → Option AV) (m : Nat) (b0 : Bool) (b1 : Bool) (x2 : Int) (b3 : Bool) (x4 : Int) (x5 : Int) (x6 : Int) (x7 : Int) (x8 : Int) (x9 : Int) (x10 : Int) (x11 : Int) (x12 : Int) : J_ref05_Floor_1042740 cp n r2036 (m + 1) b0 b1 x2 b3 x4 x5 x6 x7 x8 x9 x10 x11 x12 = T_ref05_Floor_1042740 cp b0 b1 x2 b3 x4 x5 x6 x7 x8 x9 x10 x11 x12 (J_ref05_Floor_1042740 cp n r2036 m) r2036 := of_eq_true (eq_self _)
theorem JE_ref05_Floor_1042740 (n : Nat) (m2036 : Nat) (r2036 : Bool → Bool → Int → Int → Int → Int → Int → Int → Int → Option AV) (h2036 : ∀ (b0 : Bool) (b1 : Bool) (x2 : Int) (x3 : Int) (x4 : Int) (x5 : Int) (x6 : Int) (x7 : Int) (x8 : Int), jT (topEnv C (CP C n) n F_ref05_Floor) (bodyOf C.P F_ref05_Floor) (endOf C.P F_ref05_Floor) [false, false, true, false, true, true, true, true, true, true] [m2036] (S_ref05_Floor_2036 b0 b1 x2 x3 x4 x5 x6 x7 x8) = r2036 b0 b1 x2 x3 x4 x5 x6 x7 x8) : ∀ (m : Nat) (b0 : Bool) (b1 : Bool) (x2 : Int) (b3 : Bool) (x4 : Int) (x5 : Int) (x6 : Int) (x7 : Int) (x8 : Int) (x9 : Int) (x10 : Int) (x11 : Int) (x12 : Int), jT (topEnv C (CP C n) n F_ref05_Floor) (bodyOf C.P F_ref05_Floor) (endOf C.P F_ref05_Floor) [false, false, true, false, true, true, false, false, true, false, false, true, false, true, true, true, true, true, true] [m, m2036] (S_ref05_Floor_1042740 b0 b1 x2 b3 x4 x5 x6 x7 x8 x9 x10 x11 x12) = J_ref05_Floor_1042740 (CP C n) n r2036 m b0 b1 x2 b3 x4 x5 x6 x7 x8 x9 x10 x11 x12
  | 0, b0, b1, x2, b3, x4, x5, x6, x7, x8, x9, x10, x11, x12 => (jT_eq _ _ _ _ _ _).trans (by kernel_rfl)
  | m + 1, b0, b1, x2, b3, x4, x5, x6, x7, x8, x9, x10, x11, x12 => (jT_eq _ _ _ _ _ _).trans ((K_ref05_Floor_1042740 _ n m m2036 b0 b1 x2 b3 x4 x5 x6 x7 x8 x9 x10 x11 x12).trans (congr (congrArg (T_ref05_Floor_1042740 (CP C n) b0 b1 x2 b3 x4 x5 x6 x7 x8 x9 x10 x11 x12) (funext fun b0 => (funext fun b1 => (funext fun x2 => (funext fun b3 => (funext fun x4 => (funext fun x5 => (funext fun x6 => (funext fun x7 => (funext fun x8 => (funext fun x9 => (funext fun x10 => (funext fun x11 => (funext fun x12 => (JE_ref05_Floor_1042740 n m2036 r2036 h2036 m) b0 b1 x2 b3 x4 x5 x6 x7 x8 x9 x10 x11 x12)))))))))))))) (funext fun b0 => (funext fun b1 => (funext fun x2 => (funext fun x3 => (funext fun x4 => (funext fun x5 => (funext fun x6 => (funext fun x7 => (funext fun x8 => h2036 b0 b1 x2 x3 x4 x5 x6 x7 x8)))))))))))
def T_ref05_Floor_2036 (cp : FuncId → List AV → Option AV) (b0 : Bool) (b1 : Bool) (x2 : Int) (x3 : Int) (x4 : Int) (x5 : Int) (x6 : Int) (x7 : Int) (x8 : Int) (j1042740 : Bool → Bool → Int → Bool → Int → Int → Int → Int → Int → Int → Int → Int → Int → Option AV) : Option AV :=
 (cond (decide (x2 ≥ 0))
 (j1042740 b0 b1 x2 true 0 x3 x4 x5 x6 x7 x8 x3 x4)
 (cond (!b0)
 (some (.tup [.agg [.int .u64 x7, .int .u64 x8], .bool b1]))
 (cond ((x5 == 0) && ((x6 == 0) && true))
 ((cp F_ref01_Neg [.agg [.int .u64 x7, .int .u64 x8]]).bind fun r1 =>
 (AV.aggK r1 fun l2 =>
 (consK l2 fun v3 l4 =>
 (AV.intK .u64 v3 fun i5 =>
 (consK l4 fun v6 l7 =>
 (AV.intK .u64 v6 fun i8 =>
 (nilK l7
 (some (.tup [.agg [.int .u64 i5, .int .u64 i8], .bool b1])))))))))
 ((cp F_ref05_more [.agg [.int .u64 x7, .int .u64 x8], .agg [.int .u64 x3, .int .u64 x4]]).bind fun r9 =>
 (AV.aggK r9 fun l10 =>
 (consK l10 fun v11 l12 =>
 (AV.intK .u64 v11 fun i13 =>
 (consK l12 fun v14 l15 =>
 (AV.intK .u64 v14 fun i16 =>
 (nilK l15
 ((cp F_ref01_Neg [.agg [.int .u64 i13, .int .u64 i16]]).bind fun r17 =>
 (AV.aggK r17 fun l18 =>
 (consK l18 fun v19 l20 =>
 (AV.intK .u64 v19 fun i21 =>
 (consK l20 fun v22 l23 =>
 (AV.intK .u64 v22 fun i24 =>
 (nilK l23
 (some (.tup [.agg [.int .u64 i21, .int .u64 i24], .bool (!b1)])))))))))))))))))))
theorem K_ref05_Floor_2036 (j : Jump) (n : Nat) (m2036 : Nat) (b0 : Bool) (b1 : Bool) (x2 : Int) (x3 : Int) (x4 : Int) (x5 : Int) (x6 : Int) (x7 : Int) (x8 : Int) : enter (topEnv C (CP C n) n F_ref05_Floor) (some j) (bodyOf C.P F_ref05_Floor) (endOf C.P F_ref05_Floor) [false, false, true, false, true, true, true, true, true, true] [(m2036 + 1)] (S_ref05_Floor_2036 b0 b1 x2 x3 x4 x5 x6 x7 x8) = T_ref05_Floor_2036 (CP C n) b0 b1 x2 x3 x4 x5 x6 x7 x8 (fun b0 b1 x2 b3 x4 x5 x6 x7 x8 x9 x10 x11 x12 => j [false, false, true, false, true, true, false, false, true, false, false, true, false, true, true, true, true, true, true] [(n + 300), m2036] (S_ref05_Floor_1042740 b0 b1 x2 b3 x4 x5 x6 x7 x8 x9 x10 x11 x12)) := by kernel_rfl
def J_ref05_Floor_2036 (cp : FuncId → List AV → Option AV) (n : Nat) : Nat → Bool → Bool → Int → Int → Int → Int → Int → Int → Int → Option AV
  | 0 => (fun b0 b1 x2 x3 x4 x5 x6 x7 x8 => none)
  | m + 1 => (fun b0 b1 x2 x3 x4 x5 x6 x7 x8 => T_ref05_Floor_2036 cp b0 b1 x2 x3 x4 x5 x6 x7 x8 (J_ref05_Floor_1042740 cp n (J_ref05_Floor_2036 cp n m) (n + 300)))
theorem Js_ref05_Floor_2036 (cp : FuncId → List AV → Option AV) (n : Nat) (m : Nat) (b0 : Bool) (b1 : Bool) (x2 : Int) (x3 : Int) (x4 : Int) (x5 : Int) (x6 : Int) (x7 : Int) (x8 : Int) : J_ref05_Floor_2036 cp n (m + 1) b0 b1 x2 x3 x4 x5 x6 x7 x8 = T_ref05_Floor_2036 cp b0 b1 x2 x3 x4 x5 x6 x7 x8 (J_ref05_Floor_1042740 cp n (J_ref05_Floor_2036 cp n m) (n + 300)) := of_eq_true (eq_self _)
theorem JE_ref05_Floor_2036 (n : Nat) : ∀ (m : Nat) (b0 : Bool) (b1 : Bool) (x2 : Int) (x3 : Int) (x4 : Int) (x5 : Int) (x6 : Int) (x7 : Int) (x8 : Int), jT (topEnv C (CP C n) n F_ref05_Floor) (bodyOf C.P F_ref05_Floor) (endOf C.P F_ref05_Floor) [false, false, true, false, true, true, true, true, true, true] [m] (S_ref05_Floor_2036 b0 b1 x2 x3 x4 x5 x6 x7 x8) = J_ref05_Floor_2036 (CP C n) n m b0 b1 x2 x3 x4 x5 x6 x7 x8
  | 0, b0, b1, x2, x3, x4, x5, x6, x7, x8 => (jT_eq _ _ _ _ _ _).trans (by kernel_rfl)
  | m + 1, b0, b1, x2, x3, x4, x5, x6, x7, x8 => (jT_eq _ _ _ _ _ _).trans ((K_ref05_Floor_2036 _ n m b0 b1 x2 x3 x4 x5 x6 x7 x8).trans (congrArg (T_ref05_Floor_2036 (CP C n) b0 b1 x2 x3 x4 x5 x6 x7 x8) (funext fun b0 => (funext fun b1 => (funext fun x2 => (funext fun b3 => (funext fun x4 => (funext fun x5 => (funext fun x6 => (funext fun x7 => (funext fun x8 => (funext fun x9 => (funext fun x10 => (funext fun x11 => (funext fun x12 => (JE_ref05_Floor_1042740 n m (J_ref05_Floor_2036 (CP C n) n m) (JE_ref05_Floor_2036 n m) (n + 300)) b0 b1 x2 b3 x4 x5 x6 x7 x8 x9 x10 x11 x12)))))))))))))))
def T_ref05_Floor_1 (cp : FuncId → List AV → Option AV) (a0_0 : Int) (a0_1 : Int) (a1_0 : Int) (a1_1 : Int) (j2036 : Bool → Bool → Int → Int → Int → Int → Int → Int → Int → Option AV) : Option AV :=
 ((cp F_ref01_Below [.agg [.int .u64 a0_0, .int .u64 a0_1]]).bind fun r1 =>
 (AV.boolK r1 fun b2 =>
 (cond b2
 ((cp F_ref01_Neg [.agg [.int .u64 a0_0, .int .u64 a0_1]]).bind fun r3 =>
 (AV.aggK r3 fun l4 =>
 (consK l4 fun v5 l6 =>
 (AV.intK .u64 v5 fun i7 =>
 (consK l6 fun v8 l9 =>
 (AV.intK .u64 v8 fun i10 =>
 (nilK l9
 (j2036 b2 true 127 a1_0 a1_1 i7 i10 0 0))))))))
 (j2036 b2 true 127 a1_0 a1_1 a0_0 a0_1 0 0))))
theorem K_ref05_Floor_1 (j : Jump) (n : Nat) (a0_0 : Int) (a0_1 : Int) (a1_0 : Int) (a1_1 : Int) : ex (topEnv C (CP C n) n F_ref05_Floor) (some j) (bodyOf C.P F_ref05_Floor) 1 [] [] (endOf C.P F_ref05_Floor) (startOf C.P F_ref05_Floor [.agg [.int .u64 a0_0, .int .u64 a0_1], .agg [.int .u64 a1_0, .int .u64 a1_1]]) = T_ref05_Floor_1 (CP C n) a0_0 a0_1 a1_0 a1_1 (fun b0 b1 x2 x3 x4 x5 x6 x7 x8 => j [false, false, true, false, true, true, true, true, true, true] [(n + 300)] (S_ref05_Floor_2036 b0 b1 x2 x3 x4 x5 x6 x7 x8)) := by kernel_rfl
def R_ref05_Floor (cp : FuncId → List AV → Option AV) (n : Nat) (a0_0 : Int) (a0_1 : Int) (a1_0 : Int) (a1_1 : Int) : Option AV := T_ref05_Floor_1 cp a0_0 a0_1 a1_0 a1_1 (J_ref05_Floor_2036 cp n (n + 300))
theorem eq_ref05_Floor (n : Nat) (a0_0 : Int) (a0_1 : Int) (a1_0 : Int) (a1_1 : Int) : CP C (n + 1) F_ref05_Floor [.agg [.int .u64 a0_0, .int .u64 a0_1], .agg [.int .u64 a1_0, .int .u64 a1_1]] = R_ref05_Floor (CP C n) n a0_0 a0_1 a1_0 a1_1 :=
  (CP_pure C n F_ref05_Floor _ (by kernel_rfl) (by kernel_rfl)).trans ((K_ref05_Floor_1 _ n a0_0 a0_1 a1_0 a1_1).trans (congrArg (T_ref05_Floor_1 (CP C n) a0_0 a0_1 a1_0 a1_1) (funext fun b0 => (funext fun b1 => (funext fun x2 => (funext fun x3 => (funext fun x4 => (funext fun x5 => (funext fun x6 => (funext fun x7 => (funext fun x8 => (JE_ref05_Floor_2036 n (n + 300)) b0 b1 x2 x3 x4 x5 x6 x7 x8)))))))))))
-- ref05_near
def R_ref05_near (cp : FuncId → List AV → Option AV) (_n : Nat) (a0_0 : Int) (a0_1 : Int) (a1_0 : Int) (a1_1 : Int) (a2_0 : Int) (a2_1 : Int) : Option AV :=
 ((cp F_ref05_less [.agg [.int .u64 a0_0, .int .u64 a0_1], .agg [.int .u64 a1_0, .int .u64 a1_1]]).bind fun r1 =>
 (AV.aggK r1 fun l2 =>
 (consK l2 fun v3 l4 =>
 (AV.intK .u64 v3 fun i5 =>
 (consK l4 fun v6 l7 =>
 (AV.intK .u64 v6 fun i8 =>
 (nilK l7
 ((cp F_ref05_less [.agg [.int .u64 a2_0, .int .u64 a2_1], .agg [.int .u64 a0_0, .int .u64 a0_1]]).bind fun r9 =>
 (AV.aggK r9 fun l10 =>
 (consK l10 fun v11 l12 =>
 (AV.intK .u64 v11 fun i13 =>
 (consK l12 fun v14 l15 =>
 (AV.intK .u64 v14 fun i16 =>
 (nilK l15
 ((cp F_ref01_Cmp [.agg [.int .u64 i5, .int .u64 i8], .agg [.int .u64 i13, .int .u64 i16]]).bind fun r17 =>
 (AV.intK .i64 r17 fun i18 =>
 (some (.int .i64 i18))))))))))))))))))
theorem eq_ref05_near (n : Nat) (a0_0 : Int) (a0_1 : Int) (a1_0 : Int) (a1_1 : Int) (a2_0 : Int) (a2_1 : Int) : CP C (n + 1) F_ref05_near [.agg [.int .u64 a0_0, .int .u64 a0_1], .agg [.int .u64 a1_0, .int .u64 a1_1], .agg [.int .u64 a2_0, .int .u64 a2_1]] = R_ref05_near (CP C n) n a0_0 a0_1 a1_0 a1_1 a2_0 a2_1 := by kernel_rfl
-- ref05_Wide
def S_ref05_Wide_1023 (b0 : Bool) (x1 : Int) (x2 : Int) (x3 : Int) (x4 : Int) : St := ⟨[.junk, .junk, .junk, .junk, .junk, .junk, .ptr (some (2, 0)), .junk, .ptr (some (3, 0)), .junk, .ptr (some (4, 0)), .junk, .bool b0, .junk, .junk, .junk, .junk, .junk, .junk, .junk, .junk, .junk, .junk, .junk, .junk, .junk, .junk, .junk, .junk, .junk, .junk, .junk, .junk, .junk, .junk, .junk, .junk, .junk, .junk, .junk, .junk, .junk, .junk, .junk, .junk, .junk, .junk, .junk, .junk, .junk, .junk, .junk, .junk, .junk, .junk, .junk, .junk, .junk, .junk, .junk, .junk, .junk, .junk, .junk, .junk, .junk, .junk, .junk, .junk, .junk, .junk, .junk, .junk, .junk, .junk, .junk, .junk, .junk, .junk, .junk, .junk, .junk, .junk, .junk, .junk, .junk, .junk, .junk, .junk, .junk, .junk, .junk, .junk, .junk, .junk, .junk, .junk, .junk, .junk, .junk, .junk, .junk, .junk, .junk, .junk, .junk, .junk, .junk, .junk, .junk, .junk, .junk], [.dead, .dead, .cells 24 [.int .u64 0, .int .u64 0], .cells 24 [.int .u64 x1, .int .u64 x2], .cells 24 [.int .u64 x3, .int .u64 x4]]⟩
def T_ref05_Wide_1023 (cp : FuncId → List AV → Option AV) (b0 : Bool) (x1 : Int) (x2 : Int) (x3 : Int) (x4 : Int) : Option AV :=
 (cond b0
 (some (.tup [.agg [.int .u64 x3, .int .u64 x4], .int .i64 0]))
 (some (.tup [.agg [.int .u64 x1, .int .u64 x2], .int .i64 0])))
theorem K_ref05_Wide_1023 (j : Jump) (n : Nat) (b0 : Bool) (x1 : Int) (x2 : Int) (x3 : Int) (x4 : Int) : enter (topEnv C (CP C n) n F_ref05_Wide) (some j) (bodyOf C.P F_ref05_Wide) (endOf C.P F_ref05_Wide) [true, true, true, true, true, true, true, true, true] [] (S_ref05_Wide_1023 b0 x1 x2 x3 x4) = T_ref05_Wide_1023 (CP C n) b0 x1 x2 x3 x4 := by kernel_rfl
def J_ref05_Wide_1023 (cp : FuncId → List AV → Option AV) (n : Nat) (b0 : Bool) (x1 : Int) (x2 : Int) (x3 : Int) (x4 : Int) : Option AV := T_ref05_Wide_1023 cp b0 x1 x2 x3 x4
theorem JE_ref05_Wide_1023 (n : Nat) (b0 : Bool) (x1 : Int) (x2 : Int) (x3 : Int) (x4 : Int) : jT (topEnv C (CP C n) n F_ref05_Wide) (bodyOf C.P F_ref05_Wide) (endOf C.P F_ref05_Wide) [true, true, true, true, true, true, true, true, true] [] (S_ref05_Wide_1023 b0 x1 x2 x3 x4) = J_ref05_Wide_1023 (CP C n) n b0 x1 x2 x3 x4 :=
  (jT_eq _ _ _ _ _ _).trans ((K_ref05_Wide_1023 _ n b0 x1 x2 x3 x4).trans (rfl))
def T_ref05_Wide_1 (cp : FuncId → List AV → Option AV) (a0_0 : Int) (a0_1 : Int) (a1_0 : Int) (a1_1 : Int) (a2 : Int) (j1023 : Bool → Int → Int → Int → Int → Option AV) : Option AV :=
 ((cp F_ref01_Signed [.agg [.int .u64 a1_0, .int .u64 a1_1], .agg [.int .u64 0, .int .u64 1]]).bind fun r1 =>
 (AV.intK .i64 r1 fun i2 =>
 (cond (decide (i2 < 0))
 (some (.tup [.agg [.int .u64 0, .int .u64 0], .int .i64 5]))
 ((cp F_ref01_Cmp [.agg [.int .u64 a1_0, .int .u64 a1_1], .agg [.int .u64 65536, .int .u64 0]]).bind fun r3 =>
 (AV.intK .i64 r3 fun i4 =>
 (cond (decide (i4 > 0))
 (some (.tup [.agg [.int .u64 0, .int .u64 0], .int .i64 5]))
 ((cp F_ref05_out [.agg [.int .u64 a0_0, .int .u64 a0_1]]).bind fun r5 =>
 (AV.boolK r5 fun b6 =>
 (cond b6
 (some (.tup [.agg [.int .u64 0, .int .u64 0], .int .i64 5]))
 (cond (decide (a2 < 0))
 (some (.tup [.agg [.int .u64 0, .int .u64 0], .int .i64 5]))
 (cond (decide (a2 > 8))
 (some (.tup [.agg [.int .u64 0, .int .u64 0], .int .i64 5]))
 ((cp F_ref05_Floor [.agg [.int .u64 a0_0, .int .u64 a0_1], .agg [.int .u64 a1_0, .int .u64 a1_1]]).bind fun r7 =>
 (AV.tupK r7 fun l8 =>
 (consK l8 fun v9 l10 =>
 (AV.aggK v9 fun l11 =>
 (consK l11 fun v12 l13 =>
 (AV.intK .u64 v12 fun i14 =>
 (consK l13 fun v15 l16 =>
 (AV.intK .u64 v15 fun i17 =>
 (nilK l16
 (consK l10 fun v18 l19 =>
 (AV.boolK v18 fun b20 =>
 (nilK l19
 (cond ((i14 == a0_0) && ((i17 == a0_1) && true))
 (some (.tup [.agg [.int .u64 a0_0, .int .u64 a0_1], .int .i64 0]))
 ((cp F_ref05_more [.agg [.int .u64 i14, .int .u64 i17], .agg [.int .u64 a1_0, .int .u64 a1_1]]).bind fun r21 =>
 (AV.aggK r21 fun l22 =>
 (consK l22 fun v23 l24 =>
 (AV.intK .u64 v23 fun i25 =>
 (consK l24 fun v26 l27 =>
 (AV.intK .u64 v26 fun i28 =>
 (nilK l27
 ((cp F_ref01_Below [.agg [.int .u64 a0_0, .int .u64 a0_1]]).bind fun r29 =>
 (AV.boolK r29 fun b30 =>
 ((cp F_ref05_near [.agg [.int .u64 a0_0, .int .u64 a0_1], .agg [.int .u64 i14, .int .u64 i17], .agg [.int .u64 i25, .int .u64 i28]]).bind fun r31 =>
 (AV.intK .i64 r31 fun i32 =>
 (cond (a2 == 1)
 (j1023 true i14 i17 i25 i28)
 (cond (a2 == 2)
 (j1023 b30 i14 i17 i25 i28)
 (cond (a2 == 3)
 (j1023 (!b30) i14 i17 i25 i28)
 (cond (a2 == 4)
 (cond (decide (i32 > 0))
 (j1023 true i14 i17 i25 i28)
 (cond (i32 == 0)
 (j1023 (!b20) i14 i17 i25 i28)
 (j1023 false i14 i17 i25 i28)))
 (cond (a2 == 5)
 (cond (decide (i32 > 0))
 (j1023 true i14 i17 i25 i28)
 (cond (i32 == 0)
 (j1023 (!b30) i14 i17 i25 i28)
 (j1023 false i14 i17 i25 i28)))
 (cond (a2 == 6)
 (cond (decide (i32 > 0))
 (j1023 true i14 i17 i25 i28)
 (cond (i32 == 0)
 (j1023 b30 i14 i17 i25 i28)
 (j1023 false i14 i17 i25 i28)))
 (cond (a2 == 7)
 (j1023 (decide (i32 > 0)) i14 i17 i25 i28)
 (cond (a2 == 8)
 (j1023 (decide (i32 ≥ 0)) i14 i17 i25 i28)
 (j1023 false i14 i17 i25 i28))))))))))))))))))))))))))))))))))))))))))))
theorem K_ref05_Wide_1 (j : Jump) (n : Nat) (a0_0 : Int) (a0_1 : Int) (a1_0 : Int) (a1_1 : Int) (a2 : Int) : ex (topEnv C (CP C n) n F_ref05_Wide) (some j) (bodyOf C.P F_ref05_Wide) 1 [] [] (endOf C.P F_ref05_Wide) (startOf C.P F_ref05_Wide [.agg [.int .u64 a0_0, .int .u64 a0_1], .agg [.int .u64 a1_0, .int .u64 a1_1], .int .i64 a2]) = T_ref05_Wide_1 (CP C n) a0_0 a0_1 a1_0 a1_1 a2 (fun b0 x1 x2 x3 x4 => j [true, true, true, true, true, true, true, true, true] [] (S_ref05_Wide_1023 b0 x1 x2 x3 x4)) := by kernel_rfl
def R_ref05_Wide (cp : FuncId → List AV → Option AV) (n : Nat) (a0_0 : Int) (a0_1 : Int) (a1_0 : Int) (a1_1 : Int) (a2 : Int) : Option AV := T_ref05_Wide_1 cp a0_0 a0_1 a1_0 a1_1 a2 (J_ref05_Wide_1023 cp n)
theorem eq_ref05_Wide (n : Nat) (a0_0 : Int) (a0_1 : Int) (a1_0 : Int) (a1_1 : Int) (a2 : Int) : CP C (n + 1) F_ref05_Wide [.agg [.int .u64 a0_0, .int .u64 a0_1], .agg [.int .u64 a1_0, .int .u64 a1_1], .int .i64 a2] = R_ref05_Wide (CP C n) n a0_0 a0_1 a1_0 a1_1 a2 :=
  (CP_pure C n F_ref05_Wide _ (by kernel_rfl) (by kernel_rfl)).trans ((K_ref05_Wide_1 _ n a0_0 a0_1 a1_0 a1_1 a2).trans (congrArg (T_ref05_Wide_1 (CP C n) a0_0 a0_1 a1_0 a1_1 a2) (funext fun b0 => (funext fun x1 => (funext fun x2 => (funext fun x3 => (funext fun x4 => (JE_ref05_Wide_1023 n) b0 x1 x2 x3 x4)))))))
-- dur_Check
def R_dur_Check (cp : FuncId → List AV → Option AV) (_n : Nat) (a0_0 : Int) (a0_1 : Int) : Option AV :=
 (cond (decide (a0_1 < 0))
 (some (.int .i64 5))
 (cond (decide (a0_1 ≥ 1000000000))
 (some (.int .i64 5))
 (cond (decide (a0_0 > 1099511627776))
 (some (.int .i64 8))
 (cond (decide (a0_0 < (-1099511627776)))
 (some (.int .i64 8))
 (cond ((a0_0 == 1099511627776) && ((a0_1 == (if 1 > a0_1 then 1 else a0_1)) && true))
 (some (.int .i64 8))
 (some (.int .i64 0)))))))
theorem eq_dur_Check (n : Nat) (a0_0 : Int) (a0_1 : Int) : CP C (n + 1) F_dur_Check [.agg [.int .i64 a0_0, .int .i64 a0_1]] = R_dur_Check (CP C n) n a0_0 a0_1 := by kernel_rfl
-- cmp_isNaN_int
def R_cmp_isNaN_int (cp : FuncId → List AV → Option AV) (_n : Nat) (a0 : Int) : Option AV :=
 (some (.bool (a0 != a0)))
theorem eq_cmp_isNaN_int (n : Nat) (a0 : Int) : CP C (n + 1) F_cmp_isNaN_int [.int .i64 a0] = R_cmp_isNaN_int (CP C n) n a0 := by kernel_rfl
-- cmp_Compare_int
def R_cmp_Compare_int (cp : FuncId → List AV → Option AV) (_n : Nat) (a0 : Int) (a1 : Int) : Option AV :=
 ((cp F_cmp_isNaN_int [.int .i64 a0]).bind fun r1 =>
 (AV.boolK r1 fun b2 =>
 ((cp F_cmp_isNaN_int [.int .i64 a1]).bind fun r3 =>
 (AV.boolK r3 fun b4 =>
 (cond b2
 (cond b4
 (some (.int .i64 0))
 (some (.int .i64 (-1))))
 (cond b4
 (some (.int .i64 1))
 (cond (decide (a0 < a1))
 (some (.int .i64 (-1)))
 (cond (decide (a0 > a1))
 (some (.int .i64 1))
 (some (.int .i64 0))))))))))
theorem eq_cmp_Compare_int (n : Nat) (a0 : Int) (a1 : Int) : CP C (n + 1) F_cmp_Compare_int [.int .i64 a0, .int .i64 a1] = R_cmp_Compare_int (CP C n) n a0 a1 := by kernel_rfl
-- dur_Cmp
def R_dur_Cmp (cp : FuncId → List AV → Option AV) (_n : Nat) (a0_0 : Int) (a0_1 : Int) (a1_0 : Int) (a1_1 : Int) : Option AV :=
 ((cp F_cmp_Compare_int [.int .i64 a0_0, .int .i64 a1_0]).bind fun r1 =>
 (AV.intK .i64 r1 fun i2 =>
 ((cp F_cmp_Compare_int [.int .i64 a0_1, .int .i64 a1_1]).bind fun r3 =>
 (AV.intK .i64 r3 fun i4 =>
 (cond (i2 != 0)
 (some (.int .i64 i2))
 (cond (i4 != 0)
 (some (.int .i64 i4))
 (some (.int .i64 0))))))))
theorem eq_dur_Cmp (n : Nat) (a0_0 : Int) (a0_1 : Int) (a1_0 : Int) (a1_1 : Int) : CP C (n + 1) F_dur_Cmp [.agg [.int .i64 a0_0, .int .i64 a0_1], .agg [.int .i64 a1_0, .int .i64 a1_1]] = R_dur_Cmp (CP C n) n a0_0 a0_1 a1_0 a1_1 := by kernel_rfl
-- round_check
def R_round_check (cp : FuncId → List AV → Option AV) (_n : Nat) (a0 : Int) (a1_0 : Int) (a1_1 : Int) (a2 : Int) : Option AV :=
 ((cp F_dur_Check [.agg [.int .i64 a1_0, .int .i64 a1_1]]).bind fun r1 =>
 (AV.intK .i64 r1 fun i2 =>
 ((cp F_round_find [.int .i64 a2]).bind fun r3 =>
 (AV.tupK r3 fun l4 =>
 (consK l4 fun v5 l6 =>
 (AV.aggK v5 fun l7 =>
 (consK l7 fun v8 l9 =>
 (AV.boolK v8 fun b10 =>
 (consK l9 fun v11 l12 =>
 (AV.intK .i64 v11 fun i13 =>
 (nilK l12
 (consK l6 fun v14 l15 =>
 (AV.boolK v14 fun b16 =>
 (nilK l15
 (cond (!b16)
 (cond (a0 != 0)
 (cond (decide (a0 < 5))
 (some (.int .i64 a0))
 (some (.int .i64 5)))
 (some (.int .i64 5)))
 ((cp F_dur_Cmp [.agg [.int .i64 a1_0, .int .i64 a1_1], .agg [.int .i64 0, .int .i64 0]]).bind fun r17 =>
 (AV.intK .i64 r17 fun i18 =>
 (cond (decide (i18 ≤ 0))
 (cond (a0 != 0)
 (cond (decide (a0 < 5))
 (some (.int .i64 a0))
 (some (.int .i64 5)))
 (some (.int .i64 5)))
 (cond (i2 == 0)
 (some (.int .i64 a0))
 (cond (a0 != 0)
 (cond (decide (a0 < i2))
 (some (.int .i64 a0))
 (some (.int .i64 i2)))
 (some (.int .i64 i2))))))))))))))))))))))
theorem eq_round_check (n : Nat) (a0 : Int) (a1_0 : Int) (a1_1 : Int) (a2 : Int) : CP C (n + 1) F_round_check [.int .i64 a0, .agg [.int .i64 a1_0, .int .i64 a1_1], .int .i64 a2] = R_round_check (CP C n) n a0 a1_0 a1_1 a2 := by kernel_rfl
-- instant_Check
def R_instant_Check (cp : FuncId → List AV → Option AV) (_n : Nat) (a0_0 : Int) (a0_1 : Int) : Option AV :=
 (cond (decide (a0_1 < 0))
 (some (.int .i64 5))
 (cond (decide (a0_1 ≥ 1000000000))
 (some (.int .i64 5))
 (cond (decide (a0_0 < (-377705116800)))
 (some (.int .i64 8))
 (cond (decide (a0_0 > 253402300799))
 (some (.int .i64 8))
 (some (.int .i64 0))))))
theorem eq_instant_Check (n : Nat) (a0_0 : Int) (a0_1 : Int) : CP C (n + 1) F_instant_Check [.agg [.int .i64 a0_0, .int .i64 a0_1]] = R_instant_Check (CP C n) n a0_0 a0_1 := by kernel_rfl
-- math_bits_Mul64
def R_math_bits_Mul64 (cp : FuncId → List AV → Option AV) (_n : Nat) (a0 : Int) (a1 : Int) : Option AV :=
 (bnd (IntKind.u64.wrap ((BitVec.ofInt 64 a0 &&& BitVec.ofInt 64 4294967295).toNat : Int)) fun y1 =>
 (bnd (IntKind.u64.wrap ((BitVec.ofInt 64 a1 &&& BitVec.ofInt 64 4294967295).toNat : Int)) fun y2 =>
 (bnd (IntKind.u64.wrap ((IntKind.u64.wrap ((Int.fdiv a0 4294967296) * y2)) + (Int.fdiv (IntKind.u64.wrap (y1 * y2)) 4294967296))) fun y3 =>
 (bnd (IntKind.u64.wrap ((BitVec.ofInt 64 y3 &&& BitVec.ofInt 64 4294967295).toNat : Int)) fun y4 =>
 (bnd (IntKind.u64.wrap (y4 + (IntKind.u64.wrap (y1 * (Int.fdiv a1 4294967296))))) fun y5 =>
 (bnd (IntKind.u64.wrap ((Int.fdiv a0 4294967296) * (Int.fdiv a1 4294967296))) fun y6 =>
 (bnd (IntKind.u64.wrap ((IntKind.u64.wrap (y6 + (Int.fdiv y3 4294967296))) + (Int.fdiv y5 4294967296))) fun y7 =>
 (some (.tup [.int .u64 y7, .int .u64 (IntKind.u64.wrap (a0 * a1))])))))))))
theorem eq_math_bits_Mul64 (n : Nat) (a0 : Int) (a1 : Int) : CP C (n + 1) F_math_bits_Mul64 [.int .u64 a0, .int .u64 a1] = R_math_bits_Mul64 (CP C n) n a0 a1 := by kernel_rfl
-- wide_Mul
def R_wide_Mul (cp : FuncId → List AV → Option AV) (_n : Nat) (a0 : Int) (a1 : Int) : Option AV :=
 ((cp F_math_bits_Mul64 [.int .u64 a0, .int .u64 a1]).bind fun r1 =>
 (AV.tupK r1 fun l2 =>
 (consK l2 fun v3 l4 =>
 (AV.intK .u64 v3 fun i5 =>
 (consK l4 fun v6 l7 =>
 (AV.intK .u64 v6 fun i8 =>
 (nilK l7
 (some (.agg [.int .u64 i5, .int .u64 i8])))))))))
theorem eq_wide_Mul (n : Nat) (a0 : Int) (a1 : Int) : CP C (n + 1) F_wide_Mul [.int .u64 a0, .int .u64 a1] = R_wide_Mul (CP C n) n a0 a1 := by kernel_rfl
-- wide_Of
def R_wide_Of (cp : FuncId → List AV → Option AV) (_n : Nat) (a0 : Int) : Option AV :=
 (some (.agg [.int .u64 (IntKind.u64.wrap (Int.fdiv a0 9223372036854775808)), .int .u64 (IntKind.u64.wrap a0)]))
theorem eq_wide_Of (n : Nat) (a0 : Int) : CP C (n + 1) F_wide_Of [.int .i64 a0] = R_wide_Of (CP C n) n a0 := by kernel_rfl
-- instant_Nanos
def R_instant_Nanos (cp : FuncId → List AV → Option AV) (_n : Nat) (a0_0 : Int) (a0_1 : Int) : Option AV :=
 ((cp F_instant_Check [.agg [.int .i64 a0_0, .int .i64 a0_1]]).bind fun r1 =>
 (AV.intK .i64 r1 fun i2 =>
 (cond (i2 != 0)
 (some (.tup [.agg [.int .u64 0, .int .u64 0], .int .i64 i2]))
 (bnd (IntKind.u64.wrap (IntKind.i64.wrap (a0_0 - (-377705116800)))) fun y3 =>
 ((cp F_wide_Mul [.int .u64 y3, .int .u64 1000000000]).bind fun r4 =>
 (AV.aggK r4 fun l5 =>
 (consK l5 fun v6 l7 =>
 (AV.intK .u64 v6 fun i8 =>
 (consK l7 fun v9 l10 =>
 (AV.intK .u64 v9 fun i11 =>
 (nilK l10
 ((cp F_wide_Of [.int .i64 a0_1]).bind fun r12 =>
 (AV.aggK r12 fun l13 =>
 (consK l13 fun v14 l15 =>
 (AV.intK .u64 v14 fun i16 =>
 (consK l15 fun v17 l18 =>
 (AV.intK .u64 v17 fun i19 =>
 (nilK l18
 ((cp F_wide_Add [.agg [.int .u64 i8, .int .u64 i11], .agg [.int .u64 i16, .int .u64 i19]]).bind fun r20 =>
 (AV.tupK r20 fun l21 =>
 (consK l21 fun v22 l23 =>
 (AV.aggK v22 fun l24 =>
 (consK l24 fun v25 l26 =>
 (AV.intK .u64 v25 fun i27 =>
 (consK l26 fun v28 l29 =>
 (AV.intK .u64 v28 fun i30 =>
 (nilK l29
 (consK l23 fun v31 l32 =>
 (AV.boolK v31 fun b33 =>
 (nilK l32
 ((cp F_wide_Mul [.int .u64 377705116800, .int .u64 1000000000]).bind fun r34 =>
 (AV.aggK r34 fun l35 =>
 (consK l35 fun v36 l37 =>
 (AV.intK .u64 v36 fun i38 =>
 (consK l37 fun v39 l40 =>
 (AV.intK .u64 v39 fun i41 =>
 (nilK l40
 ((cp F_wide_Sub [.agg [.int .u64 i27, .int .u64 i30], .agg [.int .u64 i38, .int .u64 i41]]).bind fun r42 =>
 (AV.tupK r42 fun l43 =>
 (consK l43 fun v44 l45 =>
 (AV.aggK v44 fun l46 =>
 (consK l46 fun v47 l48 =>
 (AV.intK .u64 v47 fun i49 =>
 (consK l48 fun v50 l51 =>
 (AV.intK .u64 v50 fun i52 =>
 (nilK l51
 (consK l45 fun v53 l54 =>
 (AV.boolK v53 fun b55 =>
 (nilK l54
 (some (.tup [.agg [.int .u64 i49, .int .u64 i52], .int .i64 0])))))))))))))))))))))))))))))))))))))))))))))))))))
theorem eq_instant_Nanos (n : Nat) (a0_0 : Int) (a0_1 : Int) : CP C (n + 1) F_instant_Nanos [.agg [.int .i64 a0_0, .int .i64 a0_1]] = R_instant_Nanos (CP C n) n a0_0 a0_1 := by kernel_rfl
-- dur_of
def R_dur_of (cp : FuncId → List AV → Option AV) (_n : Nat) (a0_0 : Int) (a0_1 : Int) : Option AV :=
 (cond (decide (a0_0 ≥ 0))
 ((cp F_wide_Mul [.int .u64 (IntKind.u64.wrap a0_0), .int .u64 1000000000]).bind fun r1 =>
 (AV.aggK r1 fun l2 =>
 (consK l2 fun v3 l4 =>
 (AV.intK .u64 v3 fun i5 =>
 (consK l4 fun v6 l7 =>
 (AV.intK .u64 v6 fun i8 =>
 (nilK l7
 ((cp F_wide_Of [.int .i64 a0_1]).bind fun r9 =>
 (AV.aggK r9 fun l10 =>
 (consK l10 fun v11 l12 =>
 (AV.intK .u64 v11 fun i13 =>
 (consK l12 fun v14 l15 =>
 (AV.intK .u64 v14 fun i16 =>
 (nilK l15
 ((cp F_wide_Add [.agg [.int .u64 i5, .int .u64 i8], .agg [.int .u64 i13, .int .u64 i16]]).bind fun r17 =>
 (AV.tupK r17 fun l18 =>
 (consK l18 fun v19 l20 =>
 (AV.aggK v19 fun l21 =>
 (consK l21 fun v22 l23 =>
 (AV.intK .u64 v22 fun i24 =>
 (consK l23 fun v25 l26 =>
 (AV.intK .u64 v25 fun i27 =>
 (nilK l26
 (consK l20 fun v28 l29 =>
 (AV.boolK v28 fun b30 =>
 (nilK l29
 (some (.agg [.bool false, .int .u64 i24, .int .u64 i27]))))))))))))))))))))))))))))
 ((cp F_wide_Mul [.int .u64 (IntKind.u64.wrap (0 - (IntKind.u64.wrap a0_0))), .int .u64 1000000000]).bind fun r31 =>
 (AV.aggK r31 fun l32 =>
 (consK l32 fun v33 l34 =>
 (AV.intK .u64 v33 fun i35 =>
 (consK l34 fun v36 l37 =>
 (AV.intK .u64 v36 fun i38 =>
 (nilK l37
 ((cp F_wide_Of [.int .i64 a0_1]).bind fun r39 =>
 (AV.aggK r39 fun l40 =>
 (consK l40 fun v41 l42 =>
 (AV.intK .u64 v41 fun i43 =>
 (consK l42 fun v44 l45 =>
 (AV.intK .u64 v44 fun i46 =>
 (nilK l45
 ((cp F_wide_Sub [.agg [.int .u64 i35, .int .u64 i38], .agg [.int .u64 i43, .int .u64 i46]]).bind fun r47 =>
 (AV.tupK r47 fun l48 =>
 (consK l48 fun v49 l50 =>
 (AV.aggK v49 fun l51 =>
 (consK l51 fun v52 l53 =>
 (AV.intK .u64 v52 fun i54 =>
 (consK l53 fun v55 l56 =>
 (AV.intK .u64 v55 fun i57 =>
 (nilK l56
 (consK l50 fun v58 l59 =>
 (AV.boolK v58 fun b60 =>
 (nilK l59
 (some (.agg [.bool true, .int .u64 i54, .int .u64 i57])))))))))))))))))))))))))))))
theorem eq_dur_of (n : Nat) (a0_0 : Int) (a0_1 : Int) : CP C (n + 1) F_dur_of [.agg [.int .i64 a0_0, .int .i64 a0_1]] = R_dur_of (CP C n) n a0_0 a0_1 := by kernel_rfl
-- dur_number_wide
def R_dur_number_wide (cp : FuncId → List AV → Option AV) (_n : Nat) (a0_0 : Bool) (a0_1 : Int) (a0_2 : Int) : Option AV :=
 (cond a0_0
 ((cp F_wide_Neg [.agg [.int .u64 a0_1, .int .u64 a0_2]]).bind fun r1 =>
 (AV.aggK r1 fun l2 =>
 (consK l2 fun v3 l4 =>
 (AV.intK .u64 v3 fun i5 =>
 (consK l4 fun v6 l7 =>
 (AV.intK .u64 v6 fun i8 =>
 (nilK l7
 (some (.agg [.int .u64 i5, .int .u64 i8])))))))))
 (some (.agg [.int .u64 a0_1, .int .u64 a0_2])))
theorem eq_dur_number_wide (n : Nat) (a0_0 : Bool) (a0_1 : Int) (a0_2 : Int) : CP C (n + 1) F_dur_number_wide [.agg [.bool a0_0, .int .u64 a0_1, .int .u64 a0_2]] = R_dur_number_wide (CP C n) n a0_0 a0_1 a0_2 := by kernel_rfl
-- dur_Nanos
def R_dur_Nanos (cp : FuncId → List AV → Option AV) (_n : Nat) (a0_0 : Int) (a0_1 : Int) : Option AV :=
 ((cp F_dur_Check [.agg [.int .i64 a0_0, .int .i64 a0_1]]).bind fun r1 =>
 (AV.intK .i64 r1 fun i2 =>
 (cond (i2 != 0)
 (some (.tup [.agg [.int .u64 0, .int .u64 0], .int .i64 i2]))
 ((cp F_dur_of [.agg [.int .i64 a0_0, .int .i64 a0_1]]).bind fun r3 =>
 (AV.aggK r3 fun l4 =>
 (consK l4 fun v5 l6 =>
 (AV.boolK v5 fun b7 =>
 (consK l6 fun v8 l9 =>
 (AV.intK .u64 v8 fun i10 =>
 (consK l9 fun v11 l12 =>
 (AV.intK .u64 v11 fun i13 =>
 (nilK l12
 ((cp F_dur_number_wide [.agg [.bool b7, .int .u64 i10, .int .u64 i13]]).bind fun r14 =>
 (AV.aggK r14 fun l15 =>
 (consK l15 fun v16 l17 =>
 (AV.intK .u64 v16 fun i18 =>
 (consK l17 fun v19 l20 =>
 (AV.intK .u64 v19 fun i21 =>
 (nilK l20
 (some (.tup [.agg [.int .u64 i18, .int .u64 i21], .int .i64 0])))))))))))))))))))))
theorem eq_dur_Nanos (n : Nat) (a0_0 : Int) (a0_1 : Int) : CP C (n + 1) F_dur_Nanos [.agg [.int .i64 a0_0, .int .i64 a0_1]] = R_dur_Nanos (CP C n) n a0_0 a0_1 := by kernel_rfl
-- wide_Int
def R_wide_Int (cp : FuncId → List AV → Option AV) (_n : Nat) (a0_0 : Int) (a0_1 : Int) : Option AV :=
 ((cp F_wide_Of [.int .i64 (IntKind.i64.wrap a0_1)]).bind fun r1 =>
 (AV.aggK r1 fun l2 =>
 (consK l2 fun v3 l4 =>
 (AV.intK .u64 v3 fun i5 =>
 (consK l4 fun v6 l7 =>
 (AV.intK .u64 v6 fun i8 =>
 (nilK l7
 (cond (!((i5 == a0_0) && ((i8 == a0_1) && true)))
 (some (.tup [.int .i64 0, .int .i64 8]))
 (some (.tup [.int .i64 (IntKind.i64.wrap a0_1), .int .i64 0]))))))))))
theorem eq_wide_Int (n : Nat) (a0_0 : Int) (a0_1 : Int) : CP C (n + 1) F_wide_Int [.agg [.int .u64 a0_0, .int .u64 a0_1]] = R_wide_Int (CP C n) n a0_0 a0_1 := by kernel_rfl
-- instant_New
def R_instant_New (cp : FuncId → List AV → Option AV) (_n : Nat) (a0 : Int) (a1 : Int) : Option AV :=
 (cond (decide ((Int.tmod a1 1000000000) < 0))
 (bnd (IntKind.i64.wrap ((IntKind.i64.wrap (Int.tdiv a1 1000000000)) - 1)) fun y1 =>
 (cond (decide (a0 > 1352913928575))
 (some (.tup [.agg [.int .i64 0, .int .i64 0], .int .i64 8]))
 (cond (decide (a0 < (-1477216744576)))
 (some (.tup [.agg [.int .i64 0, .int .i64 0], .int .i64 8]))
 (bnd (IntKind.i64.wrap (a1 - (IntKind.i64.wrap (y1 * 1000000000)))) fun y2 =>
 ((cp F_instant_Check [.agg [.int .i64 (IntKind.i64.wrap (a0 + y1)), .int .i64 y2]]).bind fun r3 =>
 (AV.intK .i64 r3 fun i4 =>
 (cond (i4 != 0)
 (some (.tup [.agg [.int .i64 0, .int .i64 0], .int .i64 i4]))
 (some (.tup [.agg [.int .i64 (IntKind.i64.wrap (a0 + y1)), .int .i64 y2], .int .i64 0])))))))))
 (cond (decide (a0 > 1352913928575))
 (some (.tup [.agg [.int .i64 0, .int .i64 0], .int .i64 8]))
 (cond (decide (a0 < (-1477216744576)))
 (some (.tup [.agg [.int .i64 0, .int .i64 0], .int .i64 8]))
 (bnd (IntKind.i64.wrap (a0 + (IntKind.i64.wrap (Int.tdiv a1 1000000000)))) fun y5 =>
 (bnd (IntKind.i64.wrap ((IntKind.i64.wrap (Int.tdiv a1 1000000000)) * 1000000000)) fun y6 =>
 ((cp F_instant_Check [.agg [.int .i64 y5, .int .i64 (IntKind.i64.wrap (a1 - y6))]]).bind fun r7 =>
 (AV.intK .i64 r7 fun i8 =>
 (cond (i8 != 0)
 (some (.tup [.agg [.int .i64 0, .int .i64 0], .int .i64 i8]))
 (some (.tup [.agg [.int .i64 y5, .int .i64 (IntKind.i64.wrap (a1 - y6))], .int .i64 0]))))))))))
theorem eq_instant_New (n : Nat) (a0 : Int) (a1 : Int) : CP C (n + 1) F_instant_New [.int .i64 a0, .int .i64 a1] = R_instant_New (CP C n) n a0 a1 := by kernel_rfl
-- instant_OfNanos
def S_instant_OfNanos_15 (x0 : Int) (x1 : Int) (x2 : Int) : St := ⟨[.junk, .junk, .ptr (some (1, 0)), .junk, .junk, .ptr (some (6, 0)), .int .i64 x0, .junk, .junk, .junk, .junk, .junk, .junk, .junk, .junk, .junk, .junk, .junk, .junk, .junk, .junk, .junk, .junk, .junk, .junk, .junk, .junk, .junk, .junk, .junk], [.dead, .cells 33 [.int .i64 0, .int .i64 0], .dead, .dead, .dead, .dead, .cells 24 [.int .u64 x1, .int .u64 x2]]⟩
def T_instant_OfNanos_15 (cp : FuncId → List AV → Option AV) (x0 : Int) (x1 : Int) (x2 : Int) : Option AV :=
 ((cp F_wide_Int [.agg [.int .u64 x1, .int .u64 x2]]).bind fun r1 =>
 (AV.tupK r1 fun l2 =>
 (consK l2 fun v3 l4 =>
 (AV.intK .i64 v3 fun i5 =>
 (consK l4 fun v6 l7 =>
 (AV.intK .i64 v6 fun i8 =>
 (nilK l7
 (cond (i8 != 0)
 (some (.tup [.agg [.int .i64 0, .int .i64 0], .int .i64 i8]))
 ((cp F_instant_New [.int .i64 i5, .int .i64 x0]).bind fun r9 =>
 (AV.tupK r9 fun l10 =>
 (consK l10 fun v11 l12 =>
 (AV.aggK v11 fun l13 =>
 (consK l13 fun v14 l15 =>
 (AV.intK .i64 v14 fun i16 =>
 (consK l15 fun v17 l18 =>
 (AV.intK .i64 v17 fun i19 =>
 (nilK l18
 (consK l12 fun v20 l21 =>
 (AV.intK .i64 v20 fun i22 =>
 (nilK l21
 (some (.tup [.agg [.int .i64 i16, .int .i64 i19], .int .i64 i22]))))))))))))))))))))))
theorem K_instant_OfNanos_15 (j : Jump) (n : Nat) (x0 : Int) (x1 : Int) (x2 : Int) : enter (topEnv C (CP C n) n F_instant_OfNanos) (some j) (bodyOf C.P F_instant_OfNanos) (endOf C.P F_instant_OfNanos) [true, true, true] [] (S_instant_OfNanos_15 x0 x1 x2) = T_instant_OfNanos_15 (CP C n) x0 x1 x2 := by kernel_rfl
def J_instant_OfNanos_15 (cp : FuncId → List AV → Option AV) (n : Nat) (x0 : Int) (x1 : Int) (x2 : Int) : Option AV := T_instant_OfNanos_15 cp x0 x1 x2
theorem JE_instant_OfNanos_15 (n : Nat) (x0 : Int) (x1 : Int) (x2 : Int) : jT (topEnv C (CP C n) n F_instant_OfNanos) (bodyOf C.P F_instant_OfNanos) (endOf C.P F_instant_OfNanos) [true, true, true] [] (S_instant_OfNanos_15 x0 x1 x2) = J_instant_OfNanos_15 (CP C n) n x0 x1 x2 :=
  (jT_eq _ _ _ _ _ _).trans ((K_instant_OfNanos_15 _ n x0 x1 x2).trans (rfl))
def T_instant_OfNanos_1 (cp : FuncId → List AV → Option AV) (a0_0 : Int) (a0_1 : Int) (j15 : Int → Int → Int → Option AV) : Option AV :=
 (cond (!(decide (a0_0 ≥ 9223372036854775808)))
 ((cp F_wide_Div [.agg [.int .u64 a0_0, .int .u64 a0_1], .int .u64 1000000000]).bind fun r1 =>
 (AV.tupK r1 fun l2 =>
 (consK l2 fun v3 l4 =>
 (AV.aggK v3 fun l5 =>
 (consK l5 fun v6 l7 =>
 (AV.intK .u64 v6 fun i8 =>
 (consK l7 fun v9 l10 =>
 (AV.intK .u64 v9 fun i11 =>
 (nilK l10
 (consK l4 fun v12 l13 =>
 (AV.intK .u64 v12 fun i14 =>
 (consK l13 fun v15 l16 =>
 (AV.intK .i64 v15 fun i17 =>
 (nilK l16
 (j15 (IntKind.i64.wrap i14) i8 i11)))))))))))))))
 ((cp F_wide_Neg [.agg [.int .u64 a0_0, .int .u64 a0_1]]).bind fun r18 =>
 (AV.aggK r18 fun l19 =>
 (consK l19 fun v20 l21 =>
 (AV.intK .u64 v20 fun i22 =>
 (consK l21 fun v23 l24 =>
 (AV.intK .u64 v23 fun i25 =>
 (nilK l24
 ((cp F_wide_Div [.agg [.int .u64 i22, .int .u64 i25], .int .u64 1000000000]).bind fun r26 =>
 (AV.tupK r26 fun l27 =>
 (consK l27 fun v28 l29 =>
 (AV.aggK v28 fun l30 =>
 (consK l30 fun v31 l32 =>
 (AV.intK .u64 v31 fun i33 =>
 (consK l32 fun v34 l35 =>
 (AV.intK .u64 v34 fun i36 =>
 (nilK l35
 (consK l29 fun v37 l38 =>
 (AV.intK .u64 v37 fun i39 =>
 (consK l38 fun v40 l41 =>
 (AV.intK .i64 v40 fun i42 =>
 (nilK l41
 (cond (i39 == 0)
 ((cp F_wide_Neg [.agg [.int .u64 i33, .int .u64 i36]]).bind fun r43 =>
 (AV.aggK r43 fun l44 =>
 (consK l44 fun v45 l46 =>
 (AV.intK .u64 v45 fun i47 =>
 (consK l46 fun v48 l49 =>
 (AV.intK .u64 v48 fun i50 =>
 (nilK l49
 (j15 0 i47 i50))))))))
 ((cp F_wide_Add [.agg [.int .u64 i33, .int .u64 i36], .agg [.int .u64 0, .int .u64 1]]).bind fun r51 =>
 (AV.tupK r51 fun l52 =>
 (consK l52 fun v53 l54 =>
 (AV.aggK v53 fun l55 =>
 (consK l55 fun v56 l57 =>
 (AV.intK .u64 v56 fun i58 =>
 (consK l57 fun v59 l60 =>
 (AV.intK .u64 v59 fun i61 =>
 (nilK l60
 (consK l54 fun v62 l63 =>
 (AV.boolK v62 fun b64 =>
 (nilK l63
 ((cp F_wide_Neg [.agg [.int .u64 i58, .int .u64 i61]]).bind fun r65 =>
 (AV.aggK r65 fun l66 =>
 (consK l66 fun v67 l68 =>
 (AV.intK .u64 v67 fun i69 =>
 (consK l68 fun v70 l71 =>
 (AV.intK .u64 v70 fun i72 =>
 (nilK l71
 (j15 (IntKind.i64.wrap (IntKind.u64.wrap (1000000000 - i39))) i69 i72)))))))))))))))))))))))))))))))))))))))))))
theorem K_instant_OfNanos_1 (j : Jump) (n : Nat) (a0_0 : Int) (a0_1 : Int) : ex (topEnv C (CP C n) n F_instant_OfNanos) (some j) (bodyOf C.P F_instant_OfNanos) 1 [] [] (endOf C.P F_instant_OfNanos) (startOf C.P F_instant_OfNanos [.agg [.int .u64 a0_0, .int .u64 a0_1]]) = T_instant_OfNanos_1 (CP C n) a0_0 a0_1 (fun x0 x1 x2 => j [true, true, true] [] (S_instant_OfNanos_15 x0 x1 x2)) := by kernel_rfl
def R_instant_OfNanos (cp : FuncId → List AV → Option AV) (n : Nat) (a0_0 : Int) (a0_1 : Int) : Option AV := T_instant_OfNanos_1 cp a0_0 a0_1 (J_instant_OfNanos_15 cp n)
theorem eq_instant_OfNanos (n : Nat) (a0_0 : Int) (a0_1 : Int) : CP C (n + 1) F_instant_OfNanos [.agg [.int .u64 a0_0, .int .u64 a0_1]] = R_instant_OfNanos (CP C n) n a0_0 a0_1 :=
  (CP_pure C n F_instant_OfNanos _ (by kernel_rfl) (by kernel_rfl)).trans ((K_instant_OfNanos_1 _ n a0_0 a0_1).trans (congrArg (T_instant_OfNanos_1 (CP C n) a0_0 a0_1) (funext fun x0 => (funext fun x1 => (funext fun x2 => (JE_instant_OfNanos_15 n) x0 x1 x2)))))
-- round_Instant
def R_round_Instant (cp : FuncId → List AV → Option AV) (_n : Nat) (a0_0 : Int) (a0_1 : Int) (a1_0 : Int) (a1_1 : Int) (a2 : Int) : Option AV :=
 ((cp F_instant_Check [.agg [.int .i64 a0_0, .int .i64 a0_1]]).bind fun r1 =>
 (AV.intK .i64 r1 fun i2 =>
 ((cp F_round_check [.int .i64 i2, .agg [.int .i64 a1_0, .int .i64 a1_1], .int .i64 a2]).bind fun r3 =>
 (AV.intK .i64 r3 fun i4 =>
 (cond (i4 != 0)
 (some (.tup [.agg [.int .i64 0, .int .i64 0], .int .i64 i4]))
 ((cp F_instant_Nanos [.agg [.int .i64 a0_0, .int .i64 a0_1]]).bind fun r5 =>
 (AV.tupK r5 fun l6 =>
 (consK l6 fun v7 l8 =>
 (AV.aggK v7 fun l9 =>
 (consK l9 fun v10 l11 =>
 (AV.intK .u64 v10 fun i12 =>
 (consK l11 fun v13 l14 =>
 (AV.intK .u64 v13 fun i15 =>
 (nilK l14
 (consK l8 fun v16 l17 =>
 (AV.intK .i64 v16 fun i18 =>
 (nilK l17
 ((cp F_dur_Nanos [.agg [.int .i64 a1_0, .int .i64 a1_1]]).bind fun r19 =>
 (AV.tupK r19 fun l20 =>
 (consK l20 fun v21 l22 =>
 (AV.aggK v21 fun l23 =>
 (consK l23 fun v24 l25 =>
 (AV.intK .u64 v24 fun i26 =>
 (consK l25 fun v27 l28 =>
 (AV.intK .u64 v27 fun i29 =>
 (nilK l28
 (consK l22 fun v30 l31 =>
 (AV.intK .i64 v30 fun i32 =>
 (nilK l31
 ((cp F_round_Wide [.agg [.int .u64 i12, .int .u64 i15], .agg [.int .u64 i26, .int .u64 i29], .int .i64 a2]).bind fun r33 =>
 (AV.tupK r33 fun l34 =>
 (consK l34 fun v35 l36 =>
 (AV.aggK v35 fun l37 =>
 (consK l37 fun v38 l39 =>
 (AV.intK .u64 v38 fun i40 =>
 (consK l39 fun v41 l42 =>
 (AV.intK .u64 v41 fun i43 =>
 (nilK l42
 (consK l36 fun v44 l45 =>
 (AV.intK .i64 v44 fun i46 =>
 (nilK l45
 ((cp F_instant_OfNanos [.agg [.int .u64 i40, .int .u64 i43]]).bind fun r47 =>
 (AV.tupK r47 fun l48 =>
 (consK l48 fun v49 l50 =>
 (AV.aggK v49 fun l51 =>
 (consK l51 fun v52 l53 =>
 (AV.intK .i64 v52 fun i54 =>
 (consK l53 fun v55 l56 =>
 (AV.intK .i64 v55 fun i57 =>
 (nilK l56
 (consK l50 fun v58 l59 =>
 (AV.intK .i64 v58 fun i60 =>
 (nilK l59
 (some (.tup [.agg [.int .i64 i54, .int .i64 i57], .int .i64 i60])))))))))))))))))))))))))))))))))))))))))))))))))))))))
theorem eq_round_Instant (n : Nat) (a0_0 : Int) (a0_1 : Int) (a1_0 : Int) (a1_1 : Int) (a2 : Int) : CP C (n + 1) F_round_Instant [.agg [.int .i64 a0_0, .int .i64 a0_1], .agg [.int .i64 a1_0, .int .i64 a1_1], .int .i64 a2] = R_round_Instant (CP C n) n a0_0 a0_1 a1_0 a1_1 a2 := by kernel_rfl
-- dur_number_dur
def R_dur_number_dur (cp : FuncId → List AV → Option AV) (_n : Nat) (a0_0 : Bool) (a0_1 : Int) (a0_2 : Int) : Option AV :=
 ((cp F_wide_Div [.agg [.int .u64 a0_1, .int .u64 a0_2], .int .u64 1000000000]).bind fun r1 =>
 (AV.tupK r1 fun l2 =>
 (consK l2 fun v3 l4 =>
 (AV.aggK v3 fun l5 =>
 (consK l5 fun v6 l7 =>
 (AV.intK .u64 v6 fun i8 =>
 (consK l7 fun v9 l10 =>
 (AV.intK .u64 v9 fun i11 =>
 (nilK l10
 (consK l4 fun v12 l13 =>
 (AV.intK .u64 v12 fun i14 =>
 (consK l13 fun v15 l16 =>
 (AV.intK .i64 v15 fun i17 =>
 (nilK l16
 (cond (decide (i8 > 0))
 (some (.tup [.agg [.int .i64 0, .int .i64 0], .int .i64 8]))
 (cond (decide (i11 > 1099511627776))
 (some (.tup [.agg [.int .i64 0, .int .i64 0], .int .i64 8]))
 (cond a0_0
 (cond (decide (i14 > 0))
 (bnd (IntKind.i64.wrap ((IntKind.i64.wrap (0 - (IntKind.i64.wrap i11))) - 1)) fun y18 =>
 ((cp F_dur_Check [.agg [.int .i64 y18, .int .i64 (IntKind.i64.wrap (1000000000 - (IntKind.i64.wrap i14)))]]).bind fun r19 =>
 (AV.intK .i64 r19 fun i20 =>
 (cond (i20 != 0)
 (some (.tup [.agg [.int .i64 0, .int .i64 0], .int .i64 i20]))
 (some (.tup [.agg [.int .i64 y18, .int .i64 (IntKind.i64.wrap (1000000000 - (IntKind.i64.wrap i14)))], .int .i64 0]))))))
 ((cp F_dur_Check [.agg [.int .i64 (IntKind.i64.wrap (0 - (IntKind.i64.wrap i11))), .int .i64 (IntKind.i64.wrap i14)]]).bind fun r21 =>
 (AV.intK .i64 r21 fun i22 =>
 (cond (i22 != 0)
 (some (.tup [.agg [.int .i64 0, .int .i64 0], .int .i64 i22]))
 (some (.tup [.agg [.int .i64 (IntKind.i64.wrap (0 - (IntKind.i64.wrap i11))), .int .i64 (IntKind.i64.wrap i14)], .int .i64 0]))))))
 ((cp F_dur_Check [.agg [.int .i64 (IntKind.i64.wrap i11), .int .i64 (IntKind.i64.wrap i14)]]).bind fun r23 =>
 (AV.intK .i64 r23 fun i24 =>
 (cond (i24 != 0)
 (some (.tup [.agg [.int .i64 0, .int .i64 0], .int .i64 i24]))
 (some (.tup [.agg [.int .i64 (IntKind.i64.wrap i11), .int .i64 (IntKind.i64.wrap i14)], .int .i64 0]))))))))))))))))))))))
theorem eq_dur_number_dur (n : Nat) (a0_0 : Bool) (a0_1 : Int) (a0_2 : Int) : CP C (n + 1) F_dur_number_dur [.agg [.bool a0_0, .int .u64 a0_1, .int .u64 a0_2]] = R_dur_number_dur (CP C n) n a0_0 a0_1 a0_2 := by kernel_rfl
-- dur_OfNanos
def R_dur_OfNanos (cp : FuncId → List AV → Option AV) (_n : Nat) (a0_0 : Int) (a0_1 : Int) : Option AV :=
 (cond (decide (a0_0 ≥ 9223372036854775808))
 ((cp F_wide_Neg [.agg [.int .u64 a0_0, .int .u64 a0_1]]).bind fun r1 =>
 (AV.aggK r1 fun l2 =>
 (consK l2 fun v3 l4 =>
 (AV.intK .u64 v3 fun i5 =>
 (consK l4 fun v6 l7 =>
 (AV.intK .u64 v6 fun i8 =>
 (nilK l7
 ((cp F_dur_number_dur [.agg [.bool true, .int .u64 i5, .int .u64 i8]]).bind fun r9 =>
 (AV.tupK r9 fun l10 =>
 (consK l10 fun v11 l12 =>
 (AV.aggK v11 fun l13 =>
 (consK l13 fun v14 l15 =>
 (AV.intK .i64 v14 fun i16 =>
 (consK l15 fun v17 l18 =>
 (AV.intK .i64 v17 fun i19 =>
 (nilK l18
 (consK l12 fun v20 l21 =>
 (AV.intK .i64 v20 fun i22 =>
 (nilK l21
 (some (.tup [.agg [.int .i64 i16, .int .i64 i19], .int .i64 i22])))))))))))))))))))))
 ((cp F_dur_number_dur [.agg [.bool false, .int .u64 a0_0, .int .u64 a0_1]]).bind fun r23 =>
 (AV.tupK r23 fun l24 =>
 (consK l24 fun v25 l26 =>
 (AV.aggK v25 fun l27 =>
 (consK l27 fun v28 l29 =>
 (AV.intK .i64 v28 fun i30 =>
 (consK l29 fun v31 l32 =>
 (AV.intK .i64 v31 fun i33 =>
 (nilK l32
 (consK l26 fun v34 l35 =>
 (AV.intK .i64 v34 fun i36 =>
 (nilK l35
 (some (.tup [.agg [.int .i64 i30, .int .i64 i33], .int .i64 i36])))))))))))))))
theorem eq_dur_OfNanos (n : Nat) (a0_0 : Int) (a0_1 : Int) : CP C (n + 1) F_dur_OfNanos [.agg [.int .u64 a0_0, .int .u64 a0_1]] = R_dur_OfNanos (CP C n) n a0_0 a0_1 := by kernel_rfl
-- round_Dur
def R_round_Dur (cp : FuncId → List AV → Option AV) (_n : Nat) (a0_0 : Int) (a0_1 : Int) (a1_0 : Int) (a1_1 : Int) (a2 : Int) : Option AV :=
 ((cp F_dur_Check [.agg [.int .i64 a0_0, .int .i64 a0_1]]).bind fun r1 =>
 (AV.intK .i64 r1 fun i2 =>
 ((cp F_round_check [.int .i64 i2, .agg [.int .i64 a1_0, .int .i64 a1_1], .int .i64 a2]).bind fun r3 =>
 (AV.intK .i64 r3 fun i4 =>
 (cond (i4 != 0)
 (some (.tup [.agg [.int .i64 0, .int .i64 0], .int .i64 i4]))
 ((cp F_dur_Nanos [.agg [.int .i64 a0_0, .int .i64 a0_1]]).bind fun r5 =>
 (AV.tupK r5 fun l6 =>
 (consK l6 fun v7 l8 =>
 (AV.aggK v7 fun l9 =>
 (consK l9 fun v10 l11 =>
 (AV.intK .u64 v10 fun i12 =>
 (consK l11 fun v13 l14 =>
 (AV.intK .u64 v13 fun i15 =>
 (nilK l14
 (consK l8 fun v16 l17 =>
 (AV.intK .i64 v16 fun i18 =>
 (nilK l17
 ((cp F_dur_Nanos [.agg [.int .i64 a1_0, .int .i64 a1_1]]).bind fun r19 =>
 (AV.tupK r19 fun l20 =>
 (consK l20 fun v21 l22 =>
 (AV.aggK v21 fun l23 =>
 (consK l23 fun v24 l25 =>
 (AV.intK .u64 v24 fun i26 =>
 (consK l25 fun v27 l28 =>
 (AV.intK .u64 v27 fun i29 =>
 (nilK l28
 (consK l22 fun v30 l31 =>
 (AV.intK .i64 v30 fun i32 =>
 (nilK l31
 ((cp F_round_Wide [.agg [.int .u64 i12, .int .u64 i15], .agg [.int .u64 i26, .int .u64 i29], .int .i64 a2]).bind fun r33 =>
 (AV.tupK r33 fun l34 =>
 (consK l34 fun v35 l36 =>
 (AV.aggK v35 fun l37 =>
 (consK l37 fun v38 l39 =>
 (AV.intK .u64 v38 fun i40 =>
 (consK l39 fun v41 l42 =>
 (AV.intK .u64 v41 fun i43 =>
 (nilK l42
 (consK l36 fun v44 l45 =>
 (AV.intK .i64 v44 fun i46 =>
 (nilK l45
 ((cp F_dur_OfNanos [.agg [.int .u64 i40, .int .u64 i43]]).bind fun r47 =>
 (AV.tupK r47 fun l48 =>
 (consK l48 fun v49 l50 =>
 (AV.aggK v49 fun l51 =>
 (consK l51 fun v52 l53 =>
 (AV.intK .i64 v52 fun i54 =>
 (consK l53 fun v55 l56 =>
 (AV.intK .i64 v55 fun i57 =>
 (nilK l56
 (consK l50 fun v58 l59 =>
 (AV.intK .i64 v58 fun i60 =>
 (nilK l59
 (some (.tup [.agg [.int .i64 i54, .int .i64 i57], .int .i64 i60])))))))))))))))))))))))))))))))))))))))))))))))))))))))
theorem eq_round_Dur (n : Nat) (a0_0 : Int) (a0_1 : Int) (a1_0 : Int) (a1_1 : Int) (a2 : Int) : CP C (n + 1) F_round_Dur [.agg [.int .i64 a0_0, .int .i64 a0_1], .agg [.int .i64 a1_0, .int .i64 a1_1], .int .i64 a2] = R_round_Dur (CP C n) n a0_0 a0_1 a1_0 a1_1 a2 := by kernel_rfl
-- ref01_Of
def R_ref01_Of (cp : FuncId → List AV → Option AV) (_n : Nat) (a0 : Int) : Option AV :=
 (cond (decide (a0 < 0))
 (some (.agg [.int .u64 18446744073709551615, .int .u64 (IntKind.u64.wrap a0)]))
 (some (.agg [.int .u64 0, .int .u64 (IntKind.u64.wrap a0)])))
theorem eq_ref01_Of (n : Nat) (a0 : Int) : CP C (n + 1) F_ref01_Of [.int .i64 a0] = R_ref01_Of (CP C n) n a0 := by kernel_rfl
-- law05_awake
def S_law05_awake_116 (x0 : Int) : St := ⟨[.junk, .slice (some (0, 0)) 9 9, .int .i64 x0, .junk, .junk, .junk, .junk, .junk, .junk, .junk, .junk, .junk, .junk, .junk, .junk, .junk, .junk, .junk, .junk, .junk, .junk, .junk, .junk, .junk, .junk, .junk, .junk, .junk, .junk, .junk, .junk, .junk, .junk, .junk, .junk, .junk, .junk, .junk, .junk, .junk, .junk, .junk, .junk, .junk, .junk, .junk, .junk, .junk, .junk, .junk, .junk, .junk, .junk, .junk, .junk], [.cells 3 [.int .i64 (-20), .int .i64 (-10), .int .i64 (-10), .int .i64 (-20), .int .i64 (-20), .int .i64 (-20), .int .i64 (-10), .int .i64 (-20), .int .i64 (-10)]]⟩
def T_law05_awake_116 (cp : FuncId → List AV → Option AV) (x0 : Int) (r116 : Int → Option AV) : Option AV :=
 (cond (decide (x0 < 9))
 ((cp F_ref01_Of [.int .i64 (-15)]).bind fun r1 =>
 (AV.aggK r1 fun l2 =>
 (consK l2 fun v3 l4 =>
 (AV.intK .u64 v3 fun i5 =>
 (consK l4 fun v6 l7 =>
 (AV.intK .u64 v6 fun i8 =>
 (nilK l7
 ((cp F_round_Wide [.agg [.int .u64 i5, .int .u64 i8], .agg [.int .u64 0, .int .u64 10], .int .i64 x0]).bind fun r9 =>
 (AV.tupK r9 fun l10 =>
 (consK l10 fun v11 l12 =>
 (AV.aggK v11 fun l13 =>
 (consK l13 fun v14 l15 =>
 (AV.intK .u64 v14 fun i16 =>
 (consK l15 fun v17 l18 =>
 (AV.intK .u64 v17 fun i19 =>
 (nilK l18
 (consK l12 fun v20 l21 =>
 (AV.intK .i64 v20 fun i22 =>
 (nilK l21
 (cond ((decide (0 ≤ x0)) && (decide (x0 < 9)))
 (cond (fits (0 + ((Int.toNat x0) * 1)) 1 [.int .i64 (-20), .int .i64 (-10), .int .i64 (-10), .int .i64 (-20), .int .i64 (-20), .int .i64 (-20), .int .i64 (-10), .int .i64 (-20), .int .i64 (-10)])
 (cond ((AV.pure (nth [.int .i64 (-20), .int .i64 (-10), .int .i64 (-10), .int .i64 (-20), .int .i64 (-20), .int .i64 (-20), .int .i64 (-10), .int .i64 (-20), .int .i64 (-10)] (0 + ((Int.toNat x0) * 1)))) && true)
 ((cp F_ref01_Of [(nth [.int .i64 (-20), .int .i64 (-10), .int .i64 (-10), .int .i64 (-20), .int .i64 (-20), .int .i64 (-20), .int .i64 (-10), .int .i64 (-20), .int .i64 (-10)] (0 + ((Int.toNat x0) * 1)))]).bind fun r23 =>
 (AV.aggK r23 fun l24 =>
 (consK l24 fun v25 l26 =>
 (AV.intK .u64 v25 fun i27 =>
 (consK l26 fun v28 l29 =>
 (AV.intK .u64 v28 fun i30 =>
 (nilK l29
 (cond (!((i16 == i27) && ((i19 == i30) && true)))
 (some (.bool false))
 (cond (i22 != 0)
 (some (.bool false))
 (r116 (IntKind.i64.wrap (x0 + 1))))))))))))
 none)
 none)
 none))))))))))))))))))))
 ((cp F_round_Instant [.agg [.int .i64 (-1), .int .i64 999999999], .agg [.int .i64 1, .int .i64 0], .int .i64 1]).bind fun r31 =>
 (AV.tupK r31 fun l32 =>
 (consK l32 fun v33 l34 =>
 (AV.aggK v33 fun l35 =>
 (consK l35 fun v36 l37 =>
 (AV.intK .i64 v36 fun i38 =>
 (consK l37 fun v39 l40 =>
 (AV.intK .i64 v39 fun i41 =>
 (nilK l40
 (consK l34 fun v42 l43 =>
 (AV.intK .i64 v42 fun i44 =>
 (nilK l43
 ((cp F_round_Dur [.agg [.int .i64 0, .int .i64 0], .agg [.int .i64 0, .int .i64 0], .int .i64 0]).bind fun r45 =>
 (AV.tupK r45 fun l46 =>
 (consK l46 fun v47 l48 =>
 (AV.aggK v47 fun l49 =>
 (consK l49 fun v50 l51 =>
 (AV.intK .i64 v50 fun i52 =>
 (consK l51 fun v53 l54 =>
 (AV.intK .i64 v53 fun i55 =>
 (nilK l54
 (consK l48 fun v56 l57 =>
 (AV.intK .i64 v56 fun i58 =>
 (nilK l57
 (cond ((i38 == 0) && ((i41 == 0) && true))
 (cond (i44 == 0)
 (some (.bool (i58 == 5)))
 (some (.bool false)))
 (some (.bool false))))))))))))))))))))))))))))
theorem K_law05_awake_116 (j : Jump) (n : Nat) (m116 : Nat) (x0 : Int) : enter (topEnv C (CP C n) n F_law05_awake) (some j) (bodyOf C.P F_law05_awake) (endOf C.P F_law05_awake) [false, false, true, false, true, true] [(m116 + 1)] (S_law05_awake_116 x0) = T_law05_awake_116 (CP C n) x0 (fun x0 => j [false, false, true, false, true, true] [m116] (S_law05_awake_116 x0)) := by kernel_rfl
def J_law05_awake_116 (cp : FuncId → List AV → Option AV) (n : Nat) : Nat → Int → Option AV
  | 0 => (fun x0 => none)
  | m + 1 => (fun x0 => T_law05_awake_116 cp x0 (J_law05_awake_116 cp n m))
theorem Js_law05_awake_116 (cp : FuncId → List AV → Option AV) (n : Nat) (m : Nat) (x0 : Int) : J_law05_awake_116 cp n (m + 1) x0 = T_law05_awake_116 cp x0 (J_law05_awake_116 cp n m) := of_eq_true (eq_self _)
theorem JE_law05_awake_116 (n : Nat) : ∀ (m : Nat) (x0 : Int), jT (topEnv C (CP C n) n F_law05_awake) (bodyOf C.P F_law05_awake) (endOf C.P F_law05_awake) [false, false, true, false, true, true] [m] (S_law05_awake_116 x0) = J_law05_awake_116 (CP C n) n m x0
  | 0, x0 => (jT_eq _ _ _ _ _ _).trans (by kernel_rfl)
  | m + 1, x0 => (jT_eq _ _ _ _ _ _).trans ((K_law05_awake_116 _ n m x0).trans (congrArg (T_law05_awake_116 (CP C n) x0) (funext fun x0 => (JE_law05_awake_116 n m) x0)))
def T_law05_awake_1 (cp : FuncId → List AV → Option AV) (j116 : Int → Option AV) : Option AV :=
 (j116 0)
theorem K_law05_awake_1 (j : Jump) (n : Nat) : ex (topEnv C (CP C n) n F_law05_awake) (some j) (bodyOf C.P F_law05_awake) 1 [] [] (endOf C.P F_law05_awake) (startOf C.P F_law05_awake []) = T_law05_awake_1 (CP C n) (fun x0 => j [false, false, true, false, true, true] [(n + 300)] (S_law05_awake_116 x0)) := by kernel_rfl
def R_law05_awake (cp : FuncId → List AV → Option AV) (n : Nat) : Option AV := T_law05_awake_1 cp (J_law05_awake_116 cp n (n + 300))
theorem eq_law05_awake (n : Nat) : CP C (n + 1) F_law05_awake [] = R_law05_awake (CP C n) n :=
  (CP_pure C n F_law05_awake _ (by kernel_rfl) (by kernel_rfl)).trans ((K_law05_awake_1 _ n).trans (congrArg (T_law05_awake_1 (CP C n)) (funext fun x0 => (JE_law05_awake_116 n (n + 300)) x0)))
-- law05_RoundWides
def R_law05_RoundWides (cp : FuncId → List AV → Option AV) (_n : Nat) (a0_0 : Int) (a0_1 : Int) (a1_0 : Int) (a1_1 : Int) (a2 : Int) : Option AV :=
 ((cp F_round_Wide [.agg [.int .u64 a0_0, .int .u64 a0_1], .agg [.int .u64 a1_0, .int .u64 a1_1], .int .i64 a2]).bind fun r1 =>
 (AV.tupK r1 fun l2 =>
 (consK l2 fun v3 l4 =>
 (AV.aggK v3 fun l5 =>
 (consK l5 fun v6 l7 =>
 (AV.intK .u64 v6 fun i8 =>
 (consK l7 fun v9 l10 =>
 (AV.intK .u64 v9 fun i11 =>
 (nilK l10
 (consK l4 fun v12 l13 =>
 (AV.intK .i64 v12 fun i14 =>
 (nilK l13
 ((cp F_ref05_Wide [.agg [.int .u64 a0_0, .int .u64 a0_1], .agg [.int .u64 a1_0, .int .u64 a1_1], .int .i64 a2]).bind fun r15 =>
 (AV.tupK r15 fun l16 =>
 (consK l16 fun v17 l18 =>
 (AV.aggK v17 fun l19 =>
 (consK l19 fun v20 l21 =>
 (AV.intK .u64 v20 fun i22 =>
 (consK l21 fun v23 l24 =>
 (AV.intK .u64 v23 fun i25 =>
 (nilK l24
 (consK l18 fun v26 l27 =>
 (AV.intK .i64 v26 fun i28 =>
 (nilK l27
 (cond ((i8 == i22) && ((i11 == i25) && true))
 (cond (i14 == i28)
 ((cp F_law05_awake []).bind fun r29 =>
 (AV.boolK r29 fun b30 =>
 (some (.bool b30))))
 (some (.bool false)))
 (some (.bool false)))))))))))))))))))))))))))
theorem eq_law05_RoundWides (n : Nat) (a0_0 : Int) (a0_1 : Int) (a1_0 : Int) (a1_1 : Int) (a2 : Int) : CP C (n + 1) F_law05_RoundWides [.agg [.int .u64 a0_0, .int .u64 a0_1], .agg [.int .u64 a1_0, .int .u64 a1_1], .int .i64 a2] = R_law05_RoundWides (CP C n) n a0_0 a0_1 a1_0 a1_1 a2 := by kernel_rfl
-- ref03_Check
def R_ref03_Check (cp : FuncId → List AV → Option AV) (_n : Nat) (a0_0 : Int) (a0_1 : Int) : Option AV :=
 (cond (decide (a0_1 < 0))
 (some (.int .i64 5))
 (cond (decide (a0_1 ≥ 1000000000))
 (some (.int .i64 5))
 (cond (decide (a0_0 < (-377705116800)))
 (some (.int .i64 8))
 (cond (decide (a0_0 > 253402300799))
 (some (.int .i64 8))
 (some (.int .i64 0))))))
theorem eq_ref03_Check (n : Nat) (a0_0 : Int) (a0_1 : Int) : CP C (n + 1) F_ref03_Check [.agg [.int .i64 a0_0, .int .i64 a0_1]] = R_ref03_Check (CP C n) n a0_0 a0_1 := by kernel_rfl
-- ref03_CheckDur
def R_ref03_CheckDur (cp : FuncId → List AV → Option AV) (_n : Nat) (a0_0 : Int) (a0_1 : Int) : Option AV :=
 (cond (decide (a0_1 < 0))
 (some (.int .i64 5))
 (cond (decide (a0_1 ≥ 1000000000))
 (some (.int .i64 5))
 (cond (decide (a0_0 < (-1099511627776)))
 (some (.int .i64 8))
 (cond (decide (a0_0 > 1099511627776))
 (some (.int .i64 8))
 (cond (a0_0 == 1099511627776)
 (cond (decide (a0_1 > 0))
 (some (.int .i64 8))
 (some (.int .i64 0)))
 (some (.int .i64 0)))))))
theorem eq_ref03_CheckDur (n : Nat) (a0_0 : Int) (a0_1 : Int) : CP C (n + 1) F_ref03_CheckDur [.agg [.int .i64 a0_0, .int .i64 a0_1]] = R_ref03_CheckDur (CP C n) n a0_0 a0_1 := by kernel_rfl
-- ref05_args
def R_ref05_args (cp : FuncId → List AV → Option AV) (_n : Nat) (a0_0 : Int) (a0_1 : Int) (a1 : Int) : Option AV :=
 ((cp F_ref03_CheckDur [.agg [.int .i64 a0_0, .int .i64 a0_1]]).bind fun r1 =>
 (AV.intK .i64 r1 fun i2 =>
 (cond (decide (a0_0 < 0))
 (some (.int .i64 5))
 (cond ((a0_0 == 0) && ((a0_1 == 0) && true))
 (some (.int .i64 5))
 (cond (decide (a1 < 0))
 (some (.int .i64 5))
 (cond (decide (a1 > 8))
 (some (.int .i64 5))
 (some (.int .i64 i2))))))))
theorem eq_ref05_args (n : Nat) (a0_0 : Int) (a0_1 : Int) (a1 : Int) : CP C (n + 1) F_ref05_args [.agg [.int .i64 a0_0, .int .i64 a0_1], .int .i64 a1] = R_ref05_args (CP C n) n a0_0 a0_1 a1 := by kernel_rfl
-- ref01_Mul
def S_ref01_Mul_116 (x0 : Int) (x1 : Int) (x2 : Int) (l3 : List AV) : St := ⟨[.int .u64 x0, .int .u64 x1, .junk, .junk, .ptr (some (0, 0)), .ptr (some (1, 0)), .ptr (some (2, 0)), .int .i64 x2, .junk, .junk, .junk, .junk, .junk, .junk, .junk, .junk, .junk, .junk, .junk, .junk, .junk, .junk, .junk, .junk, .junk, .junk, .junk, .junk, .junk, .junk, .junk, .junk, .junk, .junk, .junk, .junk, .junk, .junk, .junk, .junk, .junk, .junk, .junk, .junk, .junk, .junk, .junk, .junk, .junk, .junk, .junk], [.cells 24 [.int .u64 0, .int .u64 0], .cells 101 [.bool false, .bool false, .bool false, .bool false, .bool false, .bool false, .bool false, .bool false, .bool false, .bool false, .bool false, .bool false, .bool false, .bool false, .bool false, .bool false, .bool false, .bool false, .bool false, .bool false, .bool false, .bool false, .bool false, .bool false, .bool false, .bool false, .bool false, .bool false, .bool false, .bool false, .bool false, .bool false, .bool false, .bool false, .bool false, .bool false, .bool false, .bool false, .bool false, .bool false, .bool false, .bool false, .bool false, .bool false, .bool false, .bool false, .bool false, .bool false, .bool false, .bool false, .bool false, .bool false, .bool false, .bool false, .bool false, .bool false, .bool false, .bool false, .bool false, .bool false, .bool false, .bool false, .bool false, .bool false, .bool false, .bool false, .bool false, .bool false, .bool false, .bool false, .bool false, .bool false, .bool false, .bool false, .bool false, .bool false, .bool false, .bool false, .bool false, .bool false, .bool false, .bool false, .bool false, .bool false, .bool false, .bool false, .bool false, .bool false, .bool false, .bool false, .bool false, .bool false, .bool false, .bool false, .bool false, .bool false, .bool false, .bool false, .bool false, .bool false, .bool false, .bool false, .bool false, .bool false, .bool false, .bool false, .bool false, .bool false, .bool false, .bool false, .bool false, .bool false, .bool false, .bool false, .bool false, .bool false, .bool false, .bool false, .bool false, .bool false, .bool false, .bool false, .bool false, .bool false, .bool false, .bool false, .bool false, .bool false], .cells 101 l3]⟩
def S_ref01_Mul_244 (x0 : Int) (x1 : Int) (l2 : List AV) (l3 : List AV) : St := ⟨[.junk, .int .u64 x0, .junk, .junk, .ptr (some (0, 0)), .ptr (some (1, 0)), .ptr (some (2, 0)), .junk, .int .i64 x1, .junk, .junk, .junk, .junk, .junk, .junk, .junk, .junk, .junk, .junk, .junk, .junk, .junk, .junk, .junk, .junk, .junk, .junk, .junk, .junk, .junk, .junk, .junk, .junk, .junk, .junk, .junk, .junk, .junk, .junk, .junk, .junk, .junk, .junk, .junk, .junk, .junk, .junk, .junk, .junk, .junk, .junk], [.cells 24 [.int .u64 0, .int .u64 0], .cells 101 l2, .cells 101 l3]⟩
def S_ref01_Mul_62612 (x0 : Int) (x1 : Int) (x2 : Int) (l3 : List AV) (l4 : List AV) : St := ⟨[.junk, .int .u64 x0, .junk, .junk, .ptr (some (0, 0)), .ptr (some (1, 0)), .ptr (some (2, 0)), .junk, .int .i64 x1, .int .i64 x2, .junk, .junk, .junk, .junk, .junk, .junk, .junk, .junk, .junk, .junk, .junk, .junk, .junk, .junk, .junk, .junk, .junk, .junk, .junk, .junk, .junk, .junk, .junk, .junk, .junk, .junk, .junk, .junk, .junk, .junk, .junk, .junk, .junk, .junk, .junk, .junk, .junk, .junk, .junk, .junk, .junk], [.cells 24 [.int .u64 0, .int .u64 0], .cells 101 l3, .cells 101 l4]⟩
def T_ref01_Mul_62612 (cp : FuncId → List AV → Option AV) (x0 : Int) (x1 : Int) (x2 : Int) (l3 : List AV) (l4 : List AV) (r62612 : Int → Int → Int → List AV → List AV → Option AV) (r244 : Int → Int → List AV → List AV → Option AV) : Option AV :=
 (cond (decide (x2 > 0))
 (cond ((decide (0 ≤ (IntKind.i64.wrap (x2 - 1)))) && (decide ((IntKind.i64.wrap (x2 - 1)) < 128)))
 (cond (fits (0 + ((Int.toNat (IntKind.i64.wrap (x2 - 1))) * 1)) 1 l4)
 (cond ((decide (0 ≤ x2)) && (decide (x2 < 128)))
 (cond (lenIs (cellsOf (nth l4 (0 + ((Int.toNat (IntKind.i64.wrap (x2 - 1))) * 1)))) 1)
 (cond (cellsOk (cellsOf (nth l4 (0 + ((Int.toNat (IntKind.i64.wrap (x2 - 1))) * 1)))))
 (cond (fits (0 + ((Int.toNat x2) * 1)) 1 l4)
 (r62612 x0 x1 (IntKind.i64.wrap (x2 - 1)) l3 (splice l4 (0 + ((Int.toNat x2) * 1)) (cellsOf (nth l4 (0 + ((Int.toNat (IntKind.i64.wrap (x2 - 1))) * 1))))))
 none)
 none)
 none)
 none)
 none)
 none)
 (cond (fits 0 1 l4)
 (r244 x0 (IntKind.i64.wrap (x1 + 1)) l3 (splice l4 0 [.bool false]))
 none))
theorem K_ref01_Mul_62612 (j : Jump) (n : Nat) (m62612 : Nat) (m244 : Nat) (x0 : Int) (x1 : Int) (x2 : Int) (l3 : List AV) (l4 : List AV) : enter (topEnv C (CP C n) n F_ref01_Mul) (some j) (bodyOf C.P F_ref01_Mul) (endOf C.P F_ref01_Mul) [false, false, true, false, true, false, false, true, false, false, true, false, true, true, true] [(m62612 + 1), m244] (S_ref01_Mul_62612 x0 x1 x2 l3 l4) = T_ref01_Mul_62612 (CP C n) x0 x1 x2 l3 l4 (fun x0 x1 x2 l3 l4 => j [false, false, true, false, true, false, false, true, false, false, true, false, true, true, true] [m62612, m244] (S_ref01_Mul_62612 x0 x1 x2 l3 l4)) (fun x0 x1 l2 l3 => j [false, false, true, false, true, true, true] [m244] (S_ref01_Mul_244 x0 x1 l2 l3)) := by kernel_rfl
def J_ref01_Mul_62612 (cp : FuncId → List AV → Option AV) (n : Nat) (r244 : Int → Int → List AV → List AV → Option AV) : Nat → Int → Int → Int → List AV → List AV → Option AV
  | 0 => (fun x0 x1 x2 l3 l4 => none)
  | m + 1 => (fun x0 x1 x2 l3 l4 => T_ref01_Mul_62612 cp x0 x1 x2 l3 l4 (J_ref01_Mul_62612 cp n r244 m) r244)
theorem Js_ref01_Mul_62612 (cp : FuncId → List AV → Option AV) (n : Nat) (r244 : Int → Int → List AV → List AV → Option AV) (m : Nat) (x0 : Int) (x1 : Int) (x2 : Int) (l3 : List AV) (l4 : List AV) : J_ref01_Mul_62612 cp n r244 (m + 1) x0 x1 x2 l3 l4 = T_ref01_Mul_62612 cp x0 x1 x2 l3 l4 (J_ref01_Mul_62612 cp n r244 m) r244 := of_eq_true (eq_self _)
theorem JE_ref01_Mul_62612 (n : Nat) (m244 : Nat) (r244 : Int → Int → List AV → List AV → Option AV) (h244 : ∀ (x0 : Int) (x1 : Int) (l2 : List AV) (l3 : List AV), jT (topEnv C (CP C n) n F_ref01_Mul) (bodyOf C.P F_ref01_Mul) (endOf C.P F_ref01_Mul) [false, false, true, false, true, true, true] [m244] (S_ref01_Mul_244 x0 x1 l2 l3) = r244 x0 x1 l2 l3) : ∀ (m : Nat) (x0 : Int) (x1 : Int) (x2 : Int) (l3 : List AV) (l4 : List AV), jT (topEnv C (CP C n) n F_ref01_Mul) (bodyOf C.P F_ref01_Mul) (endOf C.P F_ref01_Mul) [false, false, true, false, true, false, false, true, false, false, true, false, true, true, true] [m, m244] (S_ref01_Mul_62612 x0 x1 x2 l3 l4) = J_ref01_Mul_62612 (CP C n) n r244 m x0 x1 x2 l3 l4
  | 0, x0, x1, x2, l3, l4 => (jT_eq _ _ _ _ _ _).trans (by kernel_rfl)
  | m + 1, x0, x1, x2, l3, l4 => (jT_eq _ _ _ _ _ _).trans ((K_ref01_Mul_62612 _ n m m244 x0 x1 x2 l3 l4).trans (congr (congrArg (T_ref01_Mul_62612 (CP C n) x0 x1 x2 l3 l4) (funext fun x0 => (funext fun x1 => (funext fun x2 => (funext fun l3 => (funext fun l4 => (JE_ref01_Mul_62612 n m244 r244 h244 m) x0 x1 x2 l3 l4)))))) (funext fun x0 => (funext fun x1 => (funext fun l2 => (funext fun l3 => h244 x0 x1 l2 l3))))))
def T_ref01_Mul_244 (cp : FuncId → List AV → Option AV) (x0 : Int) (x1 : Int) (l2 : List AV) (l3 : List AV) (j62612 : Int → Int → Int → List AV → List AV → Option AV) : Option AV :=
 (cond (decide (x1 < 64))
 (cond (decide ((IntKind.u64.wrap x1) < 0))
 none
 (bnd (Int.fdiv x0 (2 ^ (min (Int.toNat (IntKind.u64.wrap x1)) 64))) fun y1 =>
 (bnd (IntKind.u64.wrap ((BitVec.ofInt 64 y1 &&& BitVec.ofInt 64 1).toNat : Int)) fun y2 =>
 (cond (y2 == 1)
 (cond (fits 0 128 l2)
 (cond (fits 0 128 l3)
 (cond ((AV.pureL (List.take 128 (List.drop 0 l2))) && ((AV.pureL (List.take 128 (List.drop 0 l3))) && true))
 ((cp F_ref01_sum [.agg (List.take 128 (List.drop 0 l2)), .agg (List.take 128 (List.drop 0 l3)), .bool false]).bind fun r3 =>
 (AV.tupK r3 fun l4 =>
 (consK l4 fun v5 l6 =>
 (AV.aggK v5 fun l7 =>
 (consK l6 fun v8 l9 =>
 (AV.boolK v8 fun b10 =>
 (nilK l9
 (cond (lenIs l7 128)
 (cond (cellsOk l7)
 (cond (fits 0 128 l2)
 (j62612 x0 x1 127 (splice l2 0 l7) l3)
 none)
 none)
 none))))))))
 none)
 none)
 none)
 (j62612 x0 x1 127 l2 l3)))))
 (cond (fits 0 128 l2)
 (cond ((AV.pureL (List.take 128 (List.drop 0 l2))) && true)
 ((cp F_ref01_wide [.agg (List.take 128 (List.drop 0 l2))]).bind fun r11 =>
 (AV.aggK r11 fun l12 =>
 (consK l12 fun v13 l14 =>
 (AV.intK .u64 v13 fun i15 =>
 (consK l14 fun v16 l17 =>
 (AV.intK .u64 v16 fun i18 =>
 (nilK l17
 (some (.agg [.int .u64 i15, .int .u64 i18])))))))))
 none)
 none))
theorem K_ref01_Mul_244 (j : Jump) (n : Nat) (m244 : Nat) (x0 : Int) (x1 : Int) (l2 : List AV) (l3 : List AV) : enter (topEnv C (CP C n) n F_ref01_Mul) (some j) (bodyOf C.P F_ref01_Mul) (endOf C.P F_ref01_Mul) [false, false, true, false, true, true, true] [(m244 + 1)] (S_ref01_Mul_244 x0 x1 l2 l3) = T_ref01_Mul_244 (CP C n) x0 x1 l2 l3 (fun x0 x1 x2 l3 l4 => j [false, false, true, false, true, false, false, true, false, false, true, false, true, true, true] [(n + 300), m244] (S_ref01_Mul_62612 x0 x1 x2 l3 l4)) := by kernel_rfl
def J_ref01_Mul_244 (cp : FuncId → List AV → Option AV) (n : Nat) : Nat → Int → Int → List AV → List AV → Option AV
  | 0 => (fun x0 x1 l2 l3 => none)
  | m + 1 => (fun x0 x1 l2 l3 => T_ref01_Mul_244 cp x0 x1 l2 l3 (J_ref01_Mul_62612 cp n (J_ref01_Mul_244 cp n m) (n + 300)))
theorem Js_ref01_Mul_244 (cp : FuncId → List AV → Option AV) (n : Nat) (m : Nat) (x0 : Int) (x1 : Int) (l2 : List AV) (l3 : List AV) : J_ref01_Mul_244 cp n (m + 1) x0 x1 l2 l3 = T_ref01_Mul_244 cp x0 x1 l2 l3 (J_ref01_Mul_62612 cp n (J_ref01_Mul_244 cp n m) (n + 300)) := of_eq_true (eq_self _)
theorem JE_ref01_Mul_244 (n : Nat) : ∀ (m : Nat) (x0 : Int) (x1 : Int) (l2 : List AV) (l3 : List AV), jT (topEnv C (CP C n) n F_ref01_Mul) (bodyOf C.P F_ref01_Mul) (endOf C.P F_ref01_Mul) [false, false, true, false, true, true, true] [m] (S_ref01_Mul_244 x0 x1 l2 l3) = J_ref01_Mul_244 (CP C n) n m x0 x1 l2 l3
  | 0, x0, x1, l2, l3 => (jT_eq _ _ _ _ _ _).trans (by kernel_rfl)
  | m + 1, x0, x1, l2, l3 => (jT_eq _ _ _ _ _ _).trans ((K_ref01_Mul_244 _ n m x0 x1 l2 l3).trans (congrArg (T_ref01_Mul_244 (CP C n) x0 x1 l2 l3) (funext fun x0 => (funext fun x1 => (funext fun x2 => (funext fun l3 => (funext fun l4 => (JE_ref01_Mul_62612 n m (J_ref01_Mul_244 (CP C n) n m) (JE_ref01_Mul_244 n m) (n + 300)) x0 x1 x2 l3 l4)))))))
def T_ref01_Mul_116 (cp : FuncId → List AV → Option AV) (x0 : Int) (x1 : Int) (x2 : Int) (l3 : List AV) (r116 : Int → Int → Int → List AV → Option AV) (j244 : Int → Int → List AV → List AV → Option AV) : Option AV :=
 (cond (decide (x2 < 64))
 (cond (decide ((IntKind.u64.wrap x2) < 0))
 none
 (bnd (Int.fdiv x0 (2 ^ (min (Int.toNat (IntKind.u64.wrap x2)) 64))) fun y1 =>
 (bnd (IntKind.u64.wrap ((BitVec.ofInt 64 y1 &&& BitVec.ofInt 64 1).toNat : Int)) fun y2 =>
 (cond ((decide (0 ≤ x2)) && (decide (x2 < 128)))
 (cond (fits (0 + ((Int.toNat x2) * 1)) 1 l3)
 (r116 x0 x1 (IntKind.i64.wrap (x2 + 1)) (splice l3 (0 + ((Int.toNat x2) * 1)) [.bool (y2 == 1)]))
 none)
 none))))
 (j244 x1 0 [.bool false, .bool false, .bool false, .bool false, .bool false, .bool false, .bool false, .bool false, .bool false, .bool false, .bool false, .bool false, .bool false, .bool false, .bool false, .bool false, .bool false, .bool false, .bool false, .bool false, .bool false, .bool false, .bool false, .bool false, .bool false, .bool false, .bool false, .bool false, .bool false, .bool false, .bool false, .bool false, .bool false, .bool false, .bool false, .bool false, .bool false, .bool false, .bool false, .bool false, .bool false, .bool false, .bool false, .bool false, .bool false, .bool false, .bool false, .bool false, .bool false, .bool false, .bool false, .bool false, .bool false, .bool false, .bool false, .bool false, .bool false, .bool false, .bool false, .bool false, .bool false, .bool false, .bool false, .bool false, .bool false, .bool false, .bool false, .bool false, .bool false, .bool false, .bool false, .bool false, .bool false, .bool false, .bool false, .bool false, .bool false, .bool false, .bool false, .bool false, .bool false, .bool false, .bool false, .bool false, .bool false, .bool false, .bool false, .bool false, .bool false, .bool false, .bool false, .bool false, .bool false, .bool false, .bool false, .bool false, .bool false, .bool false, .bool false, .bool false, .bool false, .bool false, .bool false, .bool false, .bool false, .bool false, .bool false, .bool false, .bool false, .bool false, .bool false, .bool false, .bool false, .bool false, .bool false, .bool false, .bool false, .bool false, .bool false, .bool false, .bool false, .bool false, .bool false, .bool false, .bool false, .bool false, .bool false, .bool false] l3))
theorem K_ref01_Mul_116 (j : Jump) (n : Nat) (m116 : Nat) (x0 : Int) (x1 : Int) (x2 : Int) (l3 : List AV) : enter (topEnv C (CP C n) n F_ref01_Mul) (some j) (bodyOf C.P F_ref01_Mul) (endOf C.P F_ref01_Mul) [false, false, true, false, true, true] [(m116 + 1)] (S_ref01_Mul_116 x0 x1 x2 l3) = T_ref01_Mul_116 (CP C n) x0 x1 x2 l3 (fun x0 x1 x2 l3 => j [false, false, true, false, true, true] [m116] (S_ref01_Mul_116 x0 x1 x2 l3)) (fun x0 x1 l2 l3 => j [false, false, true, false, true, true, true] [(n + 300)] (S_ref01_Mul_244 x0 x1 l2 l3)) := by kernel_rfl
def J_ref01_Mul_116 (cp : FuncId → List AV → Option AV) (n : Nat) : Nat → Int → Int → Int → List AV → Option AV
  | 0 => (fun x0 x1 x2 l3 => none)
  | m + 1 => (fun x0 x1 x2 l3 => T_ref01_Mul_116 cp x0 x1 x2 l3 (J_ref01_Mul_116 cp n m) (J_ref01_Mul_244 cp n (n + 300)))
theorem Js_ref01_Mul_116 (cp : FuncId → List AV → Option AV) (n : Nat) (m : Nat) (x0 : Int) (x1 : Int) (x2 : Int) (l3 : List AV) : J_ref01_Mul_116 cp n (m + 1) x0 x1 x2 l3 = T_ref01_Mul_116 cp x0 x1 x2 l3 (J_ref01_Mul_116 cp n m) (J_ref01_Mul_244 cp n (n + 300)) := of_eq_true (eq_self _)
theorem JE_ref01_Mul_116 (n : Nat) : ∀ (m : Nat) (x0 : Int) (x1 : Int) (x2 : Int) (l3 : List AV), jT (topEnv C (CP C n) n F_ref01_Mul) (bodyOf C.P F_ref01_Mul) (endOf C.P F_ref01_Mul) [false, false, true, false, true, true] [m] (S_ref01_Mul_116 x0 x1 x2 l3) = J_ref01_Mul_116 (CP C n) n m x0 x1 x2 l3
  | 0, x0, x1, x2, l3 => (jT_eq _ _ _ _ _ _).trans (by kernel_rfl)
  | m + 1, x0, x1, x2, l3 => (jT_eq _ _ _ _ _ _).trans ((K_ref01_Mul_116 _ n m x0 x1 x2 l3).trans (congr (congrArg (T_ref01_Mul_116 (CP C n) x0 x1 x2 l3) (funext fun x0 => (funext fun x1 => (funext fun x2 => (funext fun l3 => (JE_ref01_Mul_116 n m) x0 x1 x2 l3))))) (funext fun x0 => (funext fun x1 => (funext fun l2 => (funext fun l3 => (JE_ref01_Mul_244 n (n + 300)) x0 x1 l2 l3))))))
def T_ref01_Mul_1 (cp : FuncId → List AV → Option AV) (a0 : Int) (a1 : Int) (j116 : Int → Int → Int → List AV → Option AV) : Option AV :=
 (j116 a0 a1 0 [.bool false, .bool false, .bool false, .bool false, .bool false, .bool false, .bool false, .bool false, .bool false, .bool false, .bool false, .bool false, .bool false, .bool false, .bool false, .bool false, .bool false, .bool false, .bool false, .bool false, .bool false, .bool false, .bool false, .bool false, .bool false, .bool false, .bool false, .bool false, .bool false, .bool false, .bool false, .bool false, .bool false, .bool false, .bool false, .bool false, .bool false, .bool false, .bool false, .bool false, .bool false, .bool false, .bool false, .bool false, .bool false, .bool false, .bool false, .bool false, .bool false, .bool false, .bool false, .bool false, .bool false, .bool false, .bool false, .bool false, .bool false, .bool false, .bool false, .bool false, .bool false, .bool false, .bool false, .bool false, .bool false, .bool false, .bool false, .bool false, .bool false, .bool false, .bool false, .bool false, .bool false, .bool false, .bool false, .bool false, .bool false, .bool false, .bool false, .bool false, .bool false, .bool false, .bool false, .bool false, .bool false, .bool false, .bool false, .bool false, .bool false, .bool false, .bool false, .bool false, .bool false, .bool false, .bool false, .bool false, .bool false, .bool false, .bool false, .bool false, .bool false, .bool false, .bool false, .bool false, .bool false, .bool false, .bool false, .bool false, .bool false, .bool false, .bool false, .bool false, .bool false, .bool false, .bool false, .bool false, .bool false, .bool false, .bool false, .bool false, .bool false, .bool false, .bool false, .bool false, .bool false, .bool false, .bool false, .bool false])
theorem K_ref01_Mul_1 (j : Jump) (n : Nat) (a0 : Int) (a1 : Int) : ex (topEnv C (CP C n) n F_ref01_Mul) (some j) (bodyOf C.P F_ref01_Mul) 1 [] [] (endOf C.P F_ref01_Mul) (startOf C.P F_ref01_Mul [.int .u64 a0, .int .u64 a1]) = T_ref01_Mul_1 (CP C n) a0 a1 (fun x0 x1 x2 l3 => j [false, false, true, false, true, true] [(n + 300)] (S_ref01_Mul_116 x0 x1 x2 l3)) := by kernel_rfl
def R_ref01_Mul (cp : FuncId → List AV → Option AV) (n : Nat) (a0 : Int) (a1 : Int) : Option AV := T_ref01_Mul_1 cp a0 a1 (J_ref01_Mul_116 cp n (n + 300))
theorem eq_ref01_Mul (n : Nat) (a0 : Int) (a1 : Int) : CP C (n + 1) F_ref01_Mul [.int .u64 a0, .int .u64 a1] = R_ref01_Mul (CP C n) n a0 a1 :=
  (CP_pure C n F_ref01_Mul _ (by kernel_rfl) (by kernel_rfl)).trans ((K_ref01_Mul_1 _ n a0 a1).trans (congrArg (T_ref01_Mul_1 (CP C n) a0 a1) (funext fun x0 => (funext fun x1 => (funext fun x2 => (funext fun l3 => (JE_ref01_Mul_116 n (n + 300)) x0 x1 x2 l3))))))
-- ref02_Amount
def R_ref02_Amount (cp : FuncId → List AV → Option AV) (_n : Nat) (a0 : Int) : Option AV :=
 (cond (decide (a0 < 0))
 (some (.int .u64 (IntKind.u64.wrap (0 - (IntKind.u64.wrap a0)))))
 (some (.int .u64 (IntKind.u64.wrap a0))))
theorem eq_ref02_Amount (n : Nat) (a0 : Int) : CP C (n + 1) F_ref02_Amount [.int .i64 a0] = R_ref02_Amount (CP C n) n a0 := by kernel_rfl
-- ref01_Add
def R_ref01_Add (cp : FuncId → List AV → Option AV) (_n : Nat) (a0_0 : Int) (a0_1 : Int) (a1_0 : Int) (a1_1 : Int) : Option AV :=
 ((cp F_ref01_bits [.agg [.int .u64 a0_0, .int .u64 a0_1]]).bind fun r1 =>
 (AV.aggK r1 fun l2 =>
 ((cp F_ref01_bits [.agg [.int .u64 a1_0, .int .u64 a1_1]]).bind fun r3 =>
 (AV.aggK r3 fun l4 =>
 (cond ((AV.pureL l2) && ((AV.pureL l4) && true))
 ((cp F_ref01_sum [.agg l2, .agg l4, .bool false]).bind fun r5 =>
 (AV.tupK r5 fun l6 =>
 (consK l6 fun v7 l8 =>
 (AV.aggK v7 fun l9 =>
 (consK l8 fun v10 l11 =>
 (AV.boolK v10 fun b12 =>
 (nilK l11
 (cond (lenIs l9 128)
 (cond (cellsOk l9)
 (cond (fits 0 128 (splice [.bool false, .bool false, .bool false, .bool false, .bool false, .bool false, .bool false, .bool false, .bool false, .bool false, .bool false, .bool false, .bool false, .bool false, .bool false, .bool false, .bool false, .bool false, .bool false, .bool false, .bool false, .bool false, .bool false, .bool false, .bool false, .bool false, .bool false, .bool false, .bool false, .bool false, .bool false, .bool false, .bool false, .bool false, .bool false, .bool false, .bool false, .bool false, .bool false, .bool false, .bool false, .bool false, .bool false, .bool false, .bool false, .bool false, .bool false, .bool false, .bool false, .bool false, .bool false, .bool false, .bool false, .bool false, .bool false, .bool false, .bool false, .bool false, .bool false, .bool false, .bool false, .bool false, .bool false, .bool false, .bool false, .bool false, .bool false, .bool false, .bool false, .bool false, .bool false, .bool false, .bool false, .bool false, .bool false, .bool false, .bool false, .bool false, .bool false, .bool false, .bool false, .bool false, .bool false, .bool false, .bool false, .bool false, .bool false, .bool false, .bool false, .bool false, .bool false, .bool false, .bool false, .bool false, .bool false, .bool false, .bool false, .bool false, .bool false, .bool false, .bool false, .bool false, .bool false, .bool false, .bool false, .bool false, .bool false, .bool false, .bool false, .bool false, .bool false, .bool false, .bool false, .bool false, .bool false, .bool false, .bool false, .bool false, .bool false, .bool false, .bool false, .bool false, .bool false, .bool false, .bool false, .bool false, .bool false, .bool false] 0 l9))
 (cond ((AV.pureL (List.take 128 (List.drop 0 (splice [.bool false, .bool false, .bool false, .bool false, .bool false, .bool false, .bool false, .bool false, .bool false, .bool false, .bool false, .bool false, .bool false, .bool false, .bool false, .bool false, .bool false, .bool false, .bool false, .bool false, .bool false, .bool false, .bool false, .bool false, .bool false, .bool false, .bool false, .bool false, .bool false, .bool false, .bool false, .bool false, .bool false, .bool false, .bool false, .bool false, .bool false, .bool false, .bool false, .bool false, .bool false, .bool false, .bool false, .bool false, .bool false, .bool false, .bool false, .bool false, .bool false, .bool false, .bool false, .bool false, .bool false, .bool false, .bool false, .bool false, .bool false, .bool false, .bool false, .bool false, .bool false, .bool false, .bool false, .bool false, .bool false, .bool false, .bool false, .bool false, .bool false, .bool false, .bool false, .bool false, .bool false, .bool false, .bool false, .bool false, .bool false, .bool false, .bool false, .bool false, .bool false, .bool false, .bool false, .bool false, .bool false, .bool false, .bool false, .bool false, .bool false, .bool false, .bool false, .bool false, .bool false, .bool false, .bool false, .bool false, .bool false, .bool false, .bool false, .bool false, .bool false, .bool false, .bool false, .bool false, .bool false, .bool false, .bool false, .bool false, .bool false, .bool false, .bool false, .bool false, .bool false, .bool false, .bool false, .bool false, .bool false, .bool false, .bool false, .bool false, .bool false, .bool false, .bool false, .bool false, .bool false, .bool false, .bool false, .bool false] 0 l9)))) && true)
 ((cp F_ref01_wide [.agg (List.take 128 (List.drop 0 (splice [.bool false, .bool false, .bool false, .bool false, .bool false, .bool false, .bool false, .bool false, .bool false, .bool false, .bool false, .bool false, .bool false, .bool false, .bool false, .bool false, .bool false, .bool false, .bool false, .bool false, .bool false, .bool false, .bool false, .bool false, .bool false, .bool false, .bool false, .bool false, .bool false, .bool false, .bool false, .bool false, .bool false, .bool false, .bool false, .bool false, .bool false, .bool false, .bool false, .bool false, .bool false, .bool false, .bool false, .bool false, .bool false, .bool false, .bool false, .bool false, .bool false, .bool false, .bool false, .bool false, .bool false, .bool false, .bool false, .bool false, .bool false, .bool false, .bool false, .bool false, .bool false, .bool false, .bool false, .bool false, .bool false, .bool false, .bool false, .bool false, .bool false, .bool false, .bool false, .bool false, .bool false, .bool false, .bool false, .bool false, .bool false, .bool false, .bool false, .bool false, .bool false, .bool false, .bool false, .bool false, .bool false, .bool false, .bool false, .bool false, .bool false, .bool false, .bool false, .bool false, .bool false, .bool false, .bool false, .bool false, .bool false, .bool false, .bool false, .bool false, .bool false, .bool false, .bool false, .bool false, .bool false, .bool false, .bool false, .bool false, .bool false, .bool false, .bool false, .bool false, .bool false, .bool false, .bool false, .bool false, .bool false, .bool false, .bool false, .bool false, .bool false, .bool false, .bool false, .bool false, .bool false, .bool false, .bool false, .bool false] 0 l9)))]).bind fun r13 =>
 (AV.aggK r13 fun l14 =>
 (consK l14 fun v15 l16 =>
 (AV.intK .u64 v15 fun i17 =>
 (consK l16 fun v18 l19 =>
 (AV.intK .u64 v18 fun i20 =>
 (nilK l19
 (some (.tup [.agg [.int .u64 i17, .int .u64 i20], .bool b12])))))))))
 none)
 none)
 none)
 none))))))))
 none)))))
theorem eq_ref01_Add (n : Nat) (a0_0 : Int) (a0_1 : Int) (a1_0 : Int) (a1_1 : Int) : CP C (n + 1) F_ref01_Add [.agg [.int .u64 a0_0, .int .u64 a0_1], .agg [.int .u64 a1_0, .int .u64 a1_1]] = R_ref01_Add (CP C n) n a0_0 a0_1 a1_0 a1_1 := by kernel_rfl
-- ref03_Wide
def R_ref03_Wide (cp : FuncId → List AV → Option AV) (_n : Nat) (a0 : Int) (a1 : Int) : Option AV :=
 ((cp F_ref02_Amount [.int .i64 a0]).bind fun r1 =>
 (AV.intK .u64 r1 fun i2 =>
 ((cp F_ref01_Mul [.int .u64 i2, .int .u64 1000000000]).bind fun r3 =>
 (AV.aggK r3 fun l4 =>
 (consK l4 fun v5 l6 =>
 (AV.intK .u64 v5 fun i7 =>
 (consK l6 fun v8 l9 =>
 (AV.intK .u64 v8 fun i10 =>
 (nilK l9
 (cond (decide (a0 < 0))
 ((cp F_ref01_Neg [.agg [.int .u64 i7, .int .u64 i10]]).bind fun r11 =>
 (AV.aggK r11 fun l12 =>
 (consK l12 fun v13 l14 =>
 (AV.intK .u64 v13 fun i15 =>
 (consK l14 fun v16 l17 =>
 (AV.intK .u64 v16 fun i18 =>
 (nilK l17
 ((cp F_ref01_Of [.int .i64 a1]).bind fun r19 =>
 (AV.aggK r19 fun l20 =>
 (consK l20 fun v21 l22 =>
 (AV.intK .u64 v21 fun i23 =>
 (consK l22 fun v24 l25 =>
 (AV.intK .u64 v24 fun i26 =>
 (nilK l25
 ((cp F_ref01_Add [.agg [.int .u64 i15, .int .u64 i18], .agg [.int .u64 i23, .int .u64 i26]]).bind fun r27 =>
 (AV.tupK r27 fun l28 =>
 (consK l28 fun v29 l30 =>
 (AV.aggK v29 fun l31 =>
 (consK l31 fun v32 l33 =>
 (AV.intK .u64 v32 fun i34 =>
 (consK l33 fun v35 l36 =>
 (AV.intK .u64 v35 fun i37 =>
 (nilK l36
 (consK l30 fun v38 l39 =>
 (AV.boolK v38 fun b40 =>
 (nilK l39
 (some (.agg [.int .u64 i34, .int .u64 i37]))))))))))))))))))))))))))))
 ((cp F_ref01_Of [.int .i64 a1]).bind fun r41 =>
 (AV.aggK r41 fun l42 =>
 (consK l42 fun v43 l44 =>
 (AV.intK .u64 v43 fun i45 =>
 (consK l44 fun v46 l47 =>
 (AV.intK .u64 v46 fun i48 =>
 (nilK l47
 ((cp F_ref01_Add [.agg [.int .u64 i7, .int .u64 i10], .agg [.int .u64 i45, .int .u64 i48]]).bind fun r49 =>
 (AV.tupK r49 fun l50 =>
 (consK l50 fun v51 l52 =>
 (AV.aggK v51 fun l53 =>
 (consK l53 fun v54 l55 =>
 (AV.intK .u64 v54 fun i56 =>
 (consK l55 fun v57 l58 =>
 (AV.intK .u64 v57 fun i59 =>
 (nilK l58
 (consK l52 fun v60 l61 =>
 (AV.boolK v60 fun b62 =>
 (nilK l61
 (some (.agg [.int .u64 i56, .int .u64 i59])))))))))))))))))))))))))))))))
theorem eq_ref03_Wide (n : Nat) (a0 : Int) (a1 : Int) : CP C (n + 1) F_ref03_Wide [.int .i64 a0, .int .i64 a1] = R_ref03_Wide (CP C n) n a0 a1 := by kernel_rfl
-- ref01_Div
def S_ref01_Div_1012 (x0 : Int) (x1 : Int) (x2 : Int) (l3 : List AV) (l4 : List AV) : St := ⟨[.junk, .int .u64 x0, .junk, .junk, .ptr (some (1, 0)), .junk, .junk, .ptr (some (2, 0)), .ptr (some (3, 0)), .int .u64 x1, .int .i64 x2, .junk, .junk, .junk, .junk, .junk, .junk, .junk, .junk, .junk, .junk, .junk, .junk, .junk, .junk, .junk, .junk, .junk, .junk, .junk, .junk, .junk, .junk, .junk, .junk, .junk, .junk, .junk, .junk, .junk, .junk, .junk, .junk, .junk], [.dead, .cells 24 [.int .u64 0, .int .u64 0], .cells 101 l3, .cells 101 l4]⟩
def T_ref01_Div_1012 (cp : FuncId → List AV → Option AV) (x0 : Int) (x1 : Int) (x2 : Int) (l3 : List AV) (l4 : List AV) (r1012 : Int → Int → Int → List AV → List AV → Option AV) : Option AV :=
 (cond (decide (x2 ≥ 0))
 (cond ((decide (0 ≤ x2)) && (decide (x2 < 128)))
 (cond (fits (0 + ((Int.toNat x2) * 1)) 1 l3)
 (AV.boolK (nth l3 (0 + ((Int.toNat x2) * 1))) fun b1 =>
 (cond b1
 (bnd (IntKind.u64.wrap ((BitVec.ofInt 64 (IntKind.u64.wrap (x1 * 2)) ||| BitVec.ofInt 64 1).toNat : Int)) fun y2 =>
 (cond (decide (x1 ≥ 9223372036854775808))
 (cond ((decide (0 ≤ x2)) && (decide (x2 < 128)))
 (cond (fits (0 + ((Int.toNat x2) * 1)) 1 l4)
 (r1012 x0 (IntKind.u64.wrap (y2 - x0)) (IntKind.i64.wrap (x2 - 1)) l3 (splice l4 (0 + ((Int.toNat x2) * 1)) [.bool true]))
 none)
 none)
 (cond (decide (y2 ≥ x0))
 (cond ((decide (0 ≤ x2)) && (decide (x2 < 128)))
 (cond (fits (0 + ((Int.toNat x2) * 1)) 1 l4)
 (r1012 x0 (IntKind.u64.wrap (y2 - x0)) (IntKind.i64.wrap (x2 - 1)) l3 (splice l4 (0 + ((Int.toNat x2) * 1)) [.bool true]))
 none)
 none)
 (r1012 x0 y2 (IntKind.i64.wrap (x2 - 1)) l3 l4))))
 (cond (decide (x1 ≥ 9223372036854775808))
 (cond ((decide (0 ≤ x2)) && (decide (x2 < 128)))
 (cond (fits (0 + ((Int.toNat x2) * 1)) 1 l4)
 (r1012 x0 (IntKind.u64.wrap ((IntKind.u64.wrap (x1 * 2)) - x0)) (IntKind.i64.wrap (x2 - 1)) l3 (splice l4 (0 + ((Int.toNat x2) * 1)) [.bool true]))
 none)
 none)
 (cond (decide ((IntKind.u64.wrap (x1 * 2)) ≥ x0))
 (cond ((decide (0 ≤ x2)) && (decide (x2 < 128)))
 (cond (fits (0 + ((Int.toNat x2) * 1)) 1 l4)
 (r1012 x0 (IntKind.u64.wrap ((IntKind.u64.wrap (x1 * 2)) - x0)) (IntKind.i64.wrap (x2 - 1)) l3 (splice l4 (0 + ((Int.toNat x2) * 1)) [.bool true]))
 none)
 none)
 (r1012 x0 (IntKind.u64.wrap (x1 * 2)) (IntKind.i64.wrap (x2 - 1)) l3 l4)))))
 none)
 none)
 (cond (fits 0 128 l4)
 (cond ((AV.pureL (List.take 128 (List.drop 0 l4))) && true)
 ((cp F_ref01_wide [.agg (List.take 128 (List.drop 0 l4))]).bind fun r3 =>
 (AV.aggK r3 fun l4 =>
 (consK l4 fun v5 l6 =>
 (AV.intK .u64 v5 fun i7 =>
 (consK l6 fun v8 l9 =>
 (AV.intK .u64 v8 fun i10 =>
 (nilK l9
 (some (.tup [.agg [.int .u64 i7, .int .u64 i10], .int .u64 x1, .int .i64 0])))))))))
 none)
 none))
theorem K_ref01_Div_1012 (j : Jump) (n : Nat) (m1012 : Nat) (x0 : Int) (x1 : Int) (x2 : Int) (l3 : List AV) (l4 : List AV) : enter (topEnv C (CP C n) n F_ref01_Div) (some j) (bodyOf C.P F_ref01_Div) (endOf C.P F_ref01_Div) [false, false, true, false, true, true, true, true, true] [(m1012 + 1)] (S_ref01_Div_1012 x0 x1 x2 l3 l4) = T_ref01_Div_1012 (CP C n) x0 x1 x2 l3 l4 (fun x0 x1 x2 l3 l4 => j [false, false, true, false, true, true, true, true, true] [m1012] (S_ref01_Div_1012 x0 x1 x2 l3 l4)) := by kernel_rfl
def J_ref01_Div_1012 (cp : FuncId → List AV → Option AV) (n : Nat) : Nat → Int → Int → Int → List AV → List AV → Option AV
  | 0 => (fun x0 x1 x2 l3 l4 => none)
  | m + 1 => (fun x0 x1 x2 l3 l4 => T_ref01_Div_1012 cp x0 x1 x2 l3 l4 (J_ref01_Div_1012 cp n m))
theorem Js_ref01_Div_1012 (cp : FuncId → List AV → Option AV) (n : Nat) (m : Nat) (x0 : Int) (x1 : Int) (x2 : Int) (l3 : List AV) (l4 : List AV) : J_ref01_Div_1012 cp n (m + 1) x0 x1 x2 l3 l4 = T_ref01_Div_1012 cp x0 x1 x2 l3 l4 (J_ref01_Div_1012 cp n m) := of_eq_true (eq_self _)
theorem JE_ref01_Div_1012 (n : Nat) : ∀ (m : Nat) (x0 : Int) (x1 : Int) (x2 : Int) (l3 : List AV) (l4 : List AV), jT (topEnv C (CP C n) n F_ref01_Div) (bodyOf C.P F_ref01_Div) (endOf C.P F_ref01_Div) [false, false, true, false, true, true, true, true, true] [m] (S_ref01_Div_1012 x0 x1 x2 l3 l4) = J_ref01_Div_1012 (CP C n) n m x0 x1 x2 l3 l4
  | 0, x0, x1, x2, l3, l4 => (jT_eq _ _ _ _ _ _).trans (by kernel_rfl)
  | m + 1, x0, x1, x2, l3, l4 => (jT_eq _ _ _ _ _ _).trans ((K_ref01_Div_1012 _ n m x0 x1 x2 l3 l4).trans (congrArg (T_ref01_Div_1012 (CP C n) x0 x1 x2 l3 l4) (funext fun x0 => (funext fun x1 => (funext fun x2 => (funext fun l3 => (funext fun l4 => (JE_ref01_Div_1012 n m) x0 x1 x2 l3 l4)))))))
def T_ref01_Div_1 (cp : FuncId → List AV → Option AV) (a0_0 : Int) (a0_1 : Int) (a1 : Int) (j1012 : Int → Int → Int → List AV → List AV → Option AV) : Option AV :=
 (cond (a1 == 0)
 (some (.tup [.agg [.int .u64 0, .int .u64 0], .int .u64 0, .int .i64 5]))
 ((cp F_ref01_bits [.agg [.int .u64 a0_0, .int .u64 a0_1]]).bind fun r1 =>
 (AV.aggK r1 fun l2 =>
 (cond (lenIs l2 128)
 (cond (cellsOk l2)
 (j1012 a1 0 127 (splice [.bool false, .bool false, .bool false, .bool false, .bool false, .bool false, .bool false, .bool false, .bool false, .bool false, .bool false, .bool false, .bool false, .bool false, .bool false, .bool false, .bool false, .bool false, .bool false, .bool false, .bool false, .bool false, .bool false, .bool false, .bool false, .bool false, .bool false, .bool false, .bool false, .bool false, .bool false, .bool false, .bool false, .bool false, .bool false, .bool false, .bool false, .bool false, .bool false, .bool false, .bool false, .bool false, .bool false, .bool false, .bool false, .bool false, .bool false, .bool false, .bool false, .bool false, .bool false, .bool false, .bool false, .bool false, .bool false, .bool false, .bool false, .bool false, .bool false, .bool false, .bool false, .bool false, .bool false, .bool false, .bool false, .bool false, .bool false, .bool false, .bool false, .bool false, .bool false, .bool false, .bool false, .bool false, .bool false, .bool false, .bool false, .bool false, .bool false, .bool false, .bool false, .bool false, .bool false, .bool false, .bool false, .bool false, .bool false, .bool false, .bool false, .bool false, .bool false, .bool false, .bool false, .bool false, .bool false, .bool false, .bool false, .bool false, .bool false, .bool false, .bool false, .bool false, .bool false, .bool false, .bool false, .bool false, .bool false, .bool false, .bool false, .bool false, .bool false, .bool false, .bool false, .bool false, .bool false, .bool false, .bool false, .bool false, .bool false, .bool false, .bool false, .bool false, .bool false, .bool false, .bool false, .bool false, .bool false, .bool false] 0 l2) [.bool false, .bool false, .bool false, .bool false, .bool false, .bool false, .bool false, .bool false, .bool false, .bool false, .bool false, .bool false, .bool false, .bool false, .bool false, .bool false, .bool false, .bool false, .bool false, .bool false, .bool false, .bool false, .bool false, .bool false, .bool false, .bool false, .bool false, .bool false, .bool false, .bool false, .bool false, .bool false, .bool false, .bool false, .bool false, .bool false, .bool false, .bool false, .bool false, .bool false, .bool false, .bool false, .bool false, .bool false, .bool false, .bool false, .bool false, .bool false, .bool false, .bool false, .bool false, .bool false, .bool false, .bool false, .bool false, .bool false, .bool false, .bool false, .bool false, .bool false, .bool false, .bool false, .bool false, .bool false, .bool false, .bool false, .bool false, .bool false, .bool false, .bool false, .bool false, .bool false, .bool false, .bool false, .bool false, .bool false, .bool false, .bool false, .bool false, .bool false, .bool false, .bool false, .bool false, .bool false, .bool false, .bool false, .bool false, .bool false, .bool false, .bool false, .bool false, .bool false, .bool false, .bool false, .bool false, .bool false, .bool false, .bool false, .bool false, .bool false, .bool false, .bool false, .bool false, .bool false, .bool false, .bool false, .bool false, .bool false, .bool false, .bool false, .bool false, .bool false, .bool false, .bool false, .bool false, .bool false, .bool false, .bool false, .bool false, .bool false, .bool false, .bool false, .bool false, .bool false, .bool false, .bool false, .bool false, .bool false])
 none)
 none))))
theorem K_ref01_Div_1 (j : Jump) (n : Nat) (a0_0 : Int) (a0_1 : Int) (a1 : Int) : ex (topEnv C (CP C n) n F_ref01_Div) (some j) (bodyOf C.P F_ref01_Div) 1 [] [] (endOf C.P F_ref01_Div) (startOf C.P F_ref01_Div [.agg [.int .u64 a0_0, .int .u64 a0_1], .int .u64 a1]) = T_ref01_Div_1 (CP C n) a0_0 a0_1 a1 (fun x0 x1 x2 l3 l4 => j [false, false, true, false, true, true, true, true, true] [(n + 300)] (S_ref01_Div_1012 x0 x1 x2 l3 l4)) := by kernel_rfl
def R_ref01_Div (cp : FuncId → List AV → Option AV) (n : Nat) (a0_0 : Int) (a0_1 : Int) (a1 : Int) : Option AV := T_ref01_Div_1 cp a0_0 a0_1 a1 (J_ref01_Div_1012 cp n (n + 300))
theorem eq_ref01_Div (n : Nat) (a0_0 : Int) (a0_1 : Int) (a1 : Int) : CP C (n + 1) F_ref01_Div [.agg [.int .u64 a0_0, .int .u64 a0_1], .int .u64 a1] = R_ref01_Div (CP C n) n a0_0 a0_1 a1 :=
  (CP_pure C n F_ref01_Div _ (by kernel_rfl) (by kernel_rfl)).trans ((K_ref01_Div_1 _ n a0_0 a0_1 a1).trans (congrArg (T_ref01_Div_1 (CP C n) a0_0 a0_1 a1) (funext fun x0 => (funext fun x1 => (funext fun x2 => (funext fun l3 => (funext fun l4 => (JE_ref01_Div_1012 n (n + 300)) x0 x1 x2 l3 l4)))))))
-- ref02_Floor
def S_ref02_Floor_15 (x0 : Int) (x1 : Int) (x2 : Int) (x3 : Int) (x4 : Int) : St := ⟨[.junk, .int .i64 x0, .ptr (some (0, 0)), .junk, .ptr (some (1, 0)), .junk, .ptr (some (2, 0)), .junk, .junk, .junk, .junk, .junk, .junk, .junk, .junk, .junk, .junk, .junk, .junk, .junk, .junk, .junk, .junk, .junk, .junk, .junk, .junk, .junk, .junk, .junk, .junk, .junk, .junk, .junk, .junk, .junk, .junk, .junk, .junk, .junk, .junk, .junk, .junk, .junk, .junk, .junk, .junk, .junk, .junk, .junk, .junk, .junk, .junk, .junk, .junk, .junk, .junk, .junk, .junk, .junk, .junk, .junk, .junk, .junk, .junk, .junk], [.cells 24 [.int .u64 x1, .int .u64 x2], .cells 24 [.int .u64 0, .int .u64 0], .cells 24 [.int .u64 x3, .int .u64 x4]]⟩
def T_ref02_Floor_15 (cp : FuncId → List AV → Option AV) (x0 : Int) (x1 : Int) (x2 : Int) (x3 : Int) (x4 : Int) : Option AV :=
 ((cp F_ref02_Amount [.int .i64 x0]).bind fun r1 =>
 (AV.intK .u64 r1 fun i2 =>
 ((cp F_ref01_Div [.agg [.int .u64 x3, .int .u64 x4], .int .u64 i2]).bind fun r3 =>
 (AV.tupK r3 fun l4 =>
 (consK l4 fun v5 l6 =>
 (AV.aggK v5 fun l7 =>
 (consK l7 fun v8 l9 =>
 (AV.intK .u64 v8 fun i10 =>
 (consK l9 fun v11 l12 =>
 (AV.intK .u64 v11 fun i13 =>
 (nilK l12
 (consK l6 fun v14 l15 =>
 (AV.intK .u64 v14 fun i16 =>
 (consK l15 fun v17 l18 =>
 (AV.intK .i64 v17 fun i19 =>
 (nilK l18
 ((cp F_ref01_Below [.agg [.int .u64 x1, .int .u64 x2]]).bind fun r20 =>
 (AV.boolK r20 fun b21 =>
 (cond (b21 == (decide (x0 < 0)))
 (cond (decide (x0 < 0))
 (some (.tup [.agg [.int .u64 i10, .int .u64 i13], .int .i64 (IntKind.i64.wrap (IntKind.u64.wrap (0 - i16)))]))
 (some (.tup [.agg [.int .u64 i10, .int .u64 i13], .int .i64 (IntKind.i64.wrap i16)])))
 (cond (i16 == 0)
 ((cp F_ref01_Neg [.agg [.int .u64 i10, .int .u64 i13]]).bind fun r22 =>
 (AV.aggK r22 fun l23 =>
 (consK l23 fun v24 l25 =>
 (AV.intK .u64 v24 fun i26 =>
 (consK l25 fun v27 l28 =>
 (AV.intK .u64 v27 fun i29 =>
 (nilK l28
 (some (.tup [.agg [.int .u64 i26, .int .u64 i29], .int .i64 0])))))))))
 ((cp F_ref01_Add [.agg [.int .u64 i10, .int .u64 i13], .agg [.int .u64 0, .int .u64 1]]).bind fun r30 =>
 (AV.tupK r30 fun l31 =>
 (consK l31 fun v32 l33 =>
 (AV.aggK v32 fun l34 =>
 (consK l34 fun v35 l36 =>
 (AV.intK .u64 v35 fun i37 =>
 (consK l36 fun v38 l39 =>
 (AV.intK .u64 v38 fun i40 =>
 (nilK l39
 (consK l33 fun v41 l42 =>
 (AV.boolK v41 fun b43 =>
 (nilK l42
 (cond (decide (x0 < 0))
 ((cp F_ref01_Neg [.agg [.int .u64 i37, .int .u64 i40]]).bind fun r44 =>
 (AV.aggK r44 fun l45 =>
 (consK l45 fun v46 l47 =>
 (AV.intK .u64 v46 fun i48 =>
 (consK l47 fun v49 l50 =>
 (AV.intK .u64 v49 fun i51 =>
 (nilK l50
 ((cp F_ref02_Amount [.int .i64 x0]).bind fun r52 =>
 (AV.intK .u64 r52 fun i53 =>
 (bnd (IntKind.i64.wrap (IntKind.u64.wrap (0 - (IntKind.u64.wrap (i53 - i16))))) fun y54 =>
 (some (.tup [.agg [.int .u64 i48, .int .u64 i51], .int .i64 y54]))))))))))))
 ((cp F_ref01_Neg [.agg [.int .u64 i37, .int .u64 i40]]).bind fun r55 =>
 (AV.aggK r55 fun l56 =>
 (consK l56 fun v57 l58 =>
 (AV.intK .u64 v57 fun i59 =>
 (consK l58 fun v60 l61 =>
 (AV.intK .u64 v60 fun i62 =>
 (nilK l61
 ((cp F_ref02_Amount [.int .i64 x0]).bind fun r63 =>
 (AV.intK .u64 r63 fun i64 =>
 (some (.tup [.agg [.int .u64 i59, .int .u64 i62], .int .i64 (IntKind.i64.wrap (IntKind.u64.wrap (i64 - i16)))]))))))))))))))))))))))))))))))))))))))))))))
theorem K_ref02_Floor_15 (j : Jump) (n : Nat) (x0 : Int) (x1 : Int) (x2 : Int) (x3 : Int) (x4 : Int) : enter (topEnv C (CP C n) n F_ref02_Floor) (some j) (bodyOf C.P F_ref02_Floor) (endOf C.P F_ref02_Floor) [true, true, true] [] (S_ref02_Floor_15 x0 x1 x2 x3 x4) = T_ref02_Floor_15 (CP C n) x0 x1 x2 x3 x4 := by kernel_rfl
def J_ref02_Floor_15 (cp : FuncId → List AV → Option AV) (n : Nat) (x0 : Int) (x1 : Int) (x2 : Int) (x3 : Int) (x4 : Int) : Option AV := T_ref02_Floor_15 cp x0 x1 x2 x3 x4
theorem JE_ref02_Floor_15 (n : Nat) (x0 : Int) (x1 : Int) (x2 : Int) (x3 : Int) (x4 : Int) : jT (topEnv C (CP C n) n F_ref02_Floor) (bodyOf C.P F_ref02_Floor) (endOf C.P F_ref02_Floor) [true, true, true] [] (S_ref02_Floor_15 x0 x1 x2 x3 x4) = J_ref02_Floor_15 (CP C n) n x0 x1 x2 x3 x4 :=
  (jT_eq _ _ _ _ _ _).trans ((K_ref02_Floor_15 _ n x0 x1 x2 x3 x4).trans (rfl))
def T_ref02_Floor_1 (cp : FuncId → List AV → Option AV) (a0_0 : Int) (a0_1 : Int) (a1 : Int) (j15 : Int → Int → Int → Int → Int → Option AV) : Option AV :=
 ((cp F_ref01_Below [.agg [.int .u64 a0_0, .int .u64 a0_1]]).bind fun r1 =>
 (AV.boolK r1 fun b2 =>
 (cond b2
 ((cp F_ref01_Neg [.agg [.int .u64 a0_0, .int .u64 a0_1]]).bind fun r3 =>
 (AV.aggK r3 fun l4 =>
 (consK l4 fun v5 l6 =>
 (AV.intK .u64 v5 fun i7 =>
 (consK l6 fun v8 l9 =>
 (AV.intK .u64 v8 fun i10 =>
 (nilK l9
 (j15 a1 a0_0 a0_1 i7 i10))))))))
 (j15 a1 a0_0 a0_1 a0_0 a0_1))))
theorem K_ref02_Floor_1 (j : Jump) (n : Nat) (a0_0 : Int) (a0_1 : Int) (a1 : Int) : ex (topEnv C (CP C n) n F_ref02_Floor) (some j) (bodyOf C.P F_ref02_Floor) 1 [] [] (endOf C.P F_ref02_Floor) (startOf C.P F_ref02_Floor [.agg [.int .u64 a0_0, .int .u64 a0_1], .int .i64 a1]) = T_ref02_Floor_1 (CP C n) a0_0 a0_1 a1 (fun x0 x1 x2 x3 x4 => j [true, true, true] [] (S_ref02_Floor_15 x0 x1 x2 x3 x4)) := by kernel_rfl
def R_ref02_Floor (cp : FuncId → List AV → Option AV) (n : Nat) (a0_0 : Int) (a0_1 : Int) (a1 : Int) : Option AV := T_ref02_Floor_1 cp a0_0 a0_1 a1 (J_ref02_Floor_15 cp n)
theorem eq_ref02_Floor (n : Nat) (a0_0 : Int) (a0_1 : Int) (a1 : Int) : CP C (n + 1) F_ref02_Floor [.agg [.int .u64 a0_0, .int .u64 a0_1], .int .i64 a1] = R_ref02_Floor (CP C n) n a0_0 a0_1 a1 :=
  (CP_pure C n F_ref02_Floor _ (by kernel_rfl) (by kernel_rfl)).trans ((K_ref02_Floor_1 _ n a0_0 a0_1 a1).trans (congrArg (T_ref02_Floor_1 (CP C n) a0_0 a0_1 a1) (funext fun x0 => (funext fun x1 => (funext fun x2 => (funext fun x3 => (funext fun x4 => (JE_ref02_Floor_15 n) x0 x1 x2 x3 x4)))))))
-- ref01_Int
def R_ref01_Int (cp : FuncId → List AV → Option AV) (_n : Nat) (a0_0 : Int) (a0_1 : Int) : Option AV :=
 ((cp F_ref01_Of [.int .i64 (IntKind.i64.wrap a0_1)]).bind fun r1 =>
 (AV.aggK r1 fun l2 =>
 (consK l2 fun v3 l4 =>
 (AV.intK .u64 v3 fun i5 =>
 (consK l4 fun v6 l7 =>
 (AV.intK .u64 v6 fun i8 =>
 (nilK l7
 (cond (!((i5 == a0_0) && ((i8 == a0_1) && true)))
 (some (.tup [.int .i64 0, .int .i64 8]))
 (some (.tup [.int .i64 (IntKind.i64.wrap a0_1), .int .i64 0]))))))))))
theorem eq_ref01_Int (n : Nat) (a0_0 : Int) (a0_1 : Int) : CP C (n + 1) F_ref01_Int [.agg [.int .u64 a0_0, .int .u64 a0_1]] = R_ref01_Int (CP C n) n a0_0 a0_1 := by kernel_rfl
-- ref03_Parts
def R_ref03_Parts (cp : FuncId → List AV → Option AV) (_n : Nat) (a0_0 : Int) (a0_1 : Int) : Option AV :=
 ((cp F_ref02_Floor [.agg [.int .u64 a0_0, .int .u64 a0_1], .int .i64 1000000000]).bind fun r1 =>
 (AV.tupK r1 fun l2 =>
 (consK l2 fun v3 l4 =>
 (AV.aggK v3 fun l5 =>
 (consK l5 fun v6 l7 =>
 (AV.intK .u64 v6 fun i8 =>
 (consK l7 fun v9 l10 =>
 (AV.intK .u64 v9 fun i11 =>
 (nilK l10
 (consK l4 fun v12 l13 =>
 (AV.intK .i64 v12 fun i14 =>
 (nilK l13
 ((cp F_ref01_Int [.agg [.int .u64 i8, .int .u64 i11]]).bind fun r15 =>
 (AV.tupK r15 fun l16 =>
 (consK l16 fun v17 l18 =>
 (AV.intK .i64 v17 fun i19 =>
 (consK l18 fun v20 l21 =>
 (AV.intK .i64 v20 fun i22 =>
 (nilK l21
 (some (.tup [.int .i64 i19, .int .i64 i14, .bool (i22 == 0)])))))))))))))))))))))
theorem eq_ref03_Parts (n : Nat) (a0_0 : Int) (a0_1 : Int) : CP C (n + 1) F_ref03_Parts [.agg [.int .u64 a0_0, .int .u64 a0_1]] = R_ref03_Parts (CP C n) n a0_0 a0_1 := by kernel_rfl
-- ref03_instant
def R_ref03_instant (cp : FuncId → List AV → Option AV) (_n : Nat) (a0_0 : Int) (a0_1 : Int) : Option AV :=
 ((cp F_ref03_Parts [.agg [.int .u64 a0_0, .int .u64 a0_1]]).bind fun r1 =>
 (AV.tupK r1 fun l2 =>
 (consK l2 fun v3 l4 =>
 (AV.intK .i64 v3 fun i5 =>
 (consK l4 fun v6 l7 =>
 (AV.intK .i64 v6 fun i8 =>
 (consK l7 fun v9 l10 =>
 (AV.boolK v9 fun b11 =>
 (nilK l10
 (cond (!b11)
 (some (.tup [.agg [.int .i64 0, .int .i64 0], .int .i64 8]))
 (cond (decide (i5 < (-377705116800)))
 (some (.tup [.agg [.int .i64 0, .int .i64 0], .int .i64 8]))
 (cond (decide (i5 > 253402300799))
 (some (.tup [.agg [.int .i64 0, .int .i64 0], .int .i64 8]))
 (some (.tup [.agg [.int .i64 i5, .int .i64 i8], .int .i64 0]))))))))))))))
theorem eq_ref03_instant (n : Nat) (a0_0 : Int) (a0_1 : Int) : CP C (n + 1) F_ref03_instant [.agg [.int .u64 a0_0, .int .u64 a0_1]] = R_ref03_instant (CP C n) n a0_0 a0_1 := by kernel_rfl
-- ref03_OfNanos
def R_ref03_OfNanos (cp : FuncId → List AV → Option AV) (_n : Nat) (a0_0 : Int) (a0_1 : Int) : Option AV :=
 ((cp F_ref03_instant [.agg [.int .u64 a0_0, .int .u64 a0_1]]).bind fun r1 =>
 (AV.tupK r1 fun l2 =>
 (consK l2 fun v3 l4 =>
 (AV.aggK v3 fun l5 =>
 (consK l5 fun v6 l7 =>
 (AV.intK .i64 v6 fun i8 =>
 (consK l7 fun v9 l10 =>
 (AV.intK .i64 v9 fun i11 =>
 (nilK l10
 (consK l4 fun v12 l13 =>
 (AV.intK .i64 v12 fun i14 =>
 (nilK l13
 (some (.tup [.agg [.int .i64 i8, .int .i64 i11], .int .i64 i14]))))))))))))))
theorem eq_ref03_OfNanos (n : Nat) (a0_0 : Int) (a0_1 : Int) : CP C (n + 1) F_ref03_OfNanos [.agg [.int .u64 a0_0, .int .u64 a0_1]] = R_ref03_OfNanos (CP C n) n a0_0 a0_1 := by kernel_rfl
-- ref05_Instant
def S_ref05_Instant_7 (x0 : Int) (x1 : Int) (x2 : Int) (x3 : Int) (x4 : Int) : St := ⟨[.junk, .junk, .int .i64 x0, .ptr (some (0, 0)), .ptr (some (1, 0)), .junk, .ptr (some (2, 0)), .junk, .junk, .junk, .junk, .junk, .junk, .junk, .junk, .junk, .junk, .junk, .junk, .junk, .junk, .junk, .junk, .junk, .junk, .junk, .junk, .junk, .junk, .junk, .junk, .junk, .junk, .junk, .junk, .junk, .junk, .junk, .junk, .junk, .junk], [.cells 33 [.int .i64 x1, .int .i64 x2], .cells 34 [.int .i64 x3, .int .i64 x4], .cells 33 [.int .i64 0, .int .i64 0], .dead, .dead, .dead, .dead, .dead, .dead, .dead, .dead]⟩
def T_ref05_Instant_7 (cp : FuncId → List AV → Option AV) (x0 : Int) (x1 : Int) (x2 : Int) (x3 : Int) (x4 : Int) : Option AV :=
 ((cp F_ref03_Wide [.int .i64 x1, .int .i64 x2]).bind fun r1 =>
 (AV.aggK r1 fun l2 =>
 (consK l2 fun v3 l4 =>
 (AV.intK .u64 v3 fun i5 =>
 (consK l4 fun v6 l7 =>
 (AV.intK .u64 v6 fun i8 =>
 (nilK l7
 ((cp F_ref03_Wide [.int .i64 x3, .int .i64 x4]).bind fun r9 =>
 (AV.aggK r9 fun l10 =>
 (consK l10 fun v11 l12 =>
 (AV.intK .u64 v11 fun i13 =>
 (consK l12 fun v14 l15 =>
 (AV.intK .u64 v14 fun i16 =>
 (nilK l15
 ((cp F_ref05_Wide [.agg [.int .u64 i5, .int .u64 i8], .agg [.int .u64 i13, .int .u64 i16], .int .i64 x0]).bind fun r17 =>
 (AV.tupK r17 fun l18 =>
 (consK l18 fun v19 l20 =>
 (AV.aggK v19 fun l21 =>
 (consK l21 fun v22 l23 =>
 (AV.intK .u64 v22 fun i24 =>
 (consK l23 fun v25 l26 =>
 (AV.intK .u64 v25 fun i27 =>
 (nilK l26
 (consK l20 fun v28 l29 =>
 (AV.intK .i64 v28 fun i30 =>
 (nilK l29
 ((cp F_ref03_OfNanos [.agg [.int .u64 i24, .int .u64 i27]]).bind fun r31 =>
 (AV.tupK r31 fun l32 =>
 (consK l32 fun v33 l34 =>
 (AV.aggK v33 fun l35 =>
 (consK l35 fun v36 l37 =>
 (AV.intK .i64 v36 fun i38 =>
 (consK l37 fun v39 l40 =>
 (AV.intK .i64 v39 fun i41 =>
 (nilK l40
 (consK l34 fun v42 l43 =>
 (AV.intK .i64 v42 fun i44 =>
 (nilK l43
 (some (.tup [.agg [.int .i64 i38, .int .i64 i41], .int .i64 i44]))))))))))))))))))))))))))))))))))))))))
theorem K_ref05_Instant_7 (j : Jump) (n : Nat) (x0 : Int) (x1 : Int) (x2 : Int) (x3 : Int) (x4 : Int) : enter (topEnv C (CP C n) n F_ref05_Instant) (some j) (bodyOf C.P F_ref05_Instant) (endOf C.P F_ref05_Instant) [true, true] [] (S_ref05_Instant_7 x0 x1 x2 x3 x4) = T_ref05_Instant_7 (CP C n) x0 x1 x2 x3 x4 := by kernel_rfl
def J_ref05_Instant_7 (cp : FuncId → List AV → Option AV) (n : Nat) (x0 : Int) (x1 : Int) (x2 : Int) (x3 : Int) (x4 : Int) : Option AV := T_ref05_Instant_7 cp x0 x1 x2 x3 x4
theorem JE_ref05_Instant_7 (n : Nat) (x0 : Int) (x1 : Int) (x2 : Int) (x3 : Int) (x4 : Int) : jT (topEnv C (CP C n) n F_ref05_Instant) (bodyOf C.P F_ref05_Instant) (endOf C.P F_ref05_Instant) [true, true] [] (S_ref05_Instant_7 x0 x1 x2 x3 x4) = J_ref05_Instant_7 (CP C n) n x0 x1 x2 x3 x4 :=
  (jT_eq _ _ _ _ _ _).trans ((K_ref05_Instant_7 _ n x0 x1 x2 x3 x4).trans (rfl))
def T_ref05_Instant_1 (cp : FuncId → List AV → Option AV) (a0_0 : Int) (a0_1 : Int) (a1_0 : Int) (a1_1 : Int) (a2 : Int) (j7 : Int → Int → Int → Int → Int → Option AV) : Option AV :=
 ((cp F_ref03_Check [.agg [.int .i64 a0_0, .int .i64 a0_1]]).bind fun r1 =>
 (AV.intK .i64 r1 fun i2 =>
 ((cp F_ref05_args [.agg [.int .i64 a1_0, .int .i64 a1_1], .int .i64 a2]).bind fun r3 =>
 (AV.intK .i64 r3 fun i4 =>
 (cond (i2 != 0)
 (cond (i4 != 0)
 (cond (i2 == 0)
 (cond (i4 != 0)
 (some (.tup [.agg [.int .i64 0, .int .i64 0], .int .i64 i4]))
 (j7 a2 a0_0 a0_1 a1_0 a1_1))
 (cond (decide (i4 < i2))
 (cond (i4 != 0)
 (some (.tup [.agg [.int .i64 0, .int .i64 0], .int .i64 i4]))
 (j7 a2 a0_0 a0_1 a1_0 a1_1))
 (cond (i2 != 0)
 (some (.tup [.agg [.int .i64 0, .int .i64 0], .int .i64 i2]))
 (j7 a2 a0_0 a0_1 a1_0 a1_1))))
 (cond (i2 != 0)
 (some (.tup [.agg [.int .i64 0, .int .i64 0], .int .i64 i2]))
 (j7 a2 a0_0 a0_1 a1_0 a1_1)))
 (cond (i4 != 0)
 (cond (i4 != 0)
 (some (.tup [.agg [.int .i64 0, .int .i64 0], .int .i64 i4]))
 (j7 a2 a0_0 a0_1 a1_0 a1_1))
 (j7 a2 a0_0 a0_1 a1_0 a1_1)))))))
theorem K_ref05_Instant_1 (j : Jump) (n : Nat) (a0_0 : Int) (a0_1 : Int) (a1_0 : Int) (a1_1 : Int) (a2 : Int) : ex (topEnv C (CP C n) n F_ref05_Instant) (some j) (bodyOf C.P F_ref05_Instant) 1 [] [] (endOf C.P F_ref05_Instant) (startOf C.P F_ref05_Instant [.agg [.int .i64 a0_0, .int .i64 a0_1], .agg [.int .i64 a1_0, .int .i64 a1_1], .int .i64 a2]) = T_ref05_Instant_1 (CP C n) a0_0 a0_1 a1_0 a1_1 a2 (fun x0 x1 x2 x3 x4 => j [true, true] [] (S_ref05_Instant_7 x0 x1 x2 x3 x4)) := by kernel_rfl
def R_ref05_Instant (cp : FuncId → List AV → Option AV) (n : Nat) (a0_0 : Int) (a0_1 : Int) (a1_0 : Int) (a1_1 : Int) (a2 : Int) : Option AV := T_ref05_Instant_1 cp a0_0 a0_1 a1_0 a1_1 a2 (J_ref05_Instant_7 cp n)
theorem eq_ref05_Instant (n : Nat) (a0_0 : Int) (a0_1 : Int) (a1_0 : Int) (a1_1 : Int) (a2 : Int) : CP C (n + 1) F_ref05_Instant [.agg [.int .i64 a0_0, .int .i64 a0_1], .agg [.int .i64 a1_0, .int .i64 a1_1], .int .i64 a2] = R_ref05_Instant (CP C n) n a0_0 a0_1 a1_0 a1_1 a2 :=
  (CP_pure C n F_ref05_Instant _ (by kernel_rfl) (by kernel_rfl)).trans ((K_ref05_Instant_1 _ n a0_0 a0_1 a1_0 a1_1 a2).trans (congrArg (T_ref05_Instant_1 (CP C n) a0_0 a0_1 a1_0 a1_1 a2) (funext fun x0 => (funext fun x1 => (funext fun x2 => (funext fun x3 => (funext fun x4 => (JE_ref05_Instant_7 n) x0 x1 x2 x3 x4)))))))
-- law05_RoundInstants
def R_law05_RoundInstants (cp : FuncId → List AV → Option AV) (_n : Nat) (a0_0 : Int) (a0_1 : Int) (a1_0 : Int) (a1_1 : Int) (a2 : Int) : Option AV :=
 ((cp F_round_Instant [.agg [.int .i64 a0_0, .int .i64 a0_1], .agg [.int .i64 a1_0, .int .i64 a1_1], .int .i64 a2]).bind fun r1 =>
 (AV.tupK r1 fun l2 =>
 (consK l2 fun v3 l4 =>
 (AV.aggK v3 fun l5 =>
 (consK l5 fun v6 l7 =>
 (AV.intK .i64 v6 fun i8 =>
 (consK l7 fun v9 l10 =>
 (AV.intK .i64 v9 fun i11 =>
 (nilK l10
 (consK l4 fun v12 l13 =>
 (AV.intK .i64 v12 fun i14 =>
 (nilK l13
 ((cp F_ref05_Instant [.agg [.int .i64 a0_0, .int .i64 a0_1], .agg [.int .i64 a1_0, .int .i64 a1_1], .int .i64 a2]).bind fun r15 =>
 (AV.tupK r15 fun l16 =>
 (consK l16 fun v17 l18 =>
 (AV.aggK v17 fun l19 =>
 (consK l19 fun v20 l21 =>
 (AV.intK .i64 v20 fun i22 =>
 (consK l21 fun v23 l24 =>
 (AV.intK .i64 v23 fun i25 =>
 (nilK l24
 (consK l18 fun v26 l27 =>
 (AV.intK .i64 v26 fun i28 =>
 (nilK l27
 (cond ((i8 == i22) && ((i11 == i25) && true))
 (cond (i14 == i28)
 ((cp F_law05_awake []).bind fun r29 =>
 (AV.boolK r29 fun b30 =>
 (some (.bool b30))))
 (some (.bool false)))
 (some (.bool false)))))))))))))))))))))))))))
theorem eq_law05_RoundInstants (n : Nat) (a0_0 : Int) (a0_1 : Int) (a1_0 : Int) (a1_1 : Int) (a2 : Int) : CP C (n + 1) F_law05_RoundInstants [.agg [.int .i64 a0_0, .int .i64 a0_1], .agg [.int .i64 a1_0, .int .i64 a1_1], .int .i64 a2] = R_law05_RoundInstants (CP C n) n a0_0 a0_1 a1_0 a1_1 a2 := by kernel_rfl
-- ref04_OfNanos
def R_ref04_OfNanos (cp : FuncId → List AV → Option AV) (_n : Nat) (a0_0 : Int) (a0_1 : Int) : Option AV :=
 ((cp F_ref03_Parts [.agg [.int .u64 a0_0, .int .u64 a0_1]]).bind fun r1 =>
 (AV.tupK r1 fun l2 =>
 (consK l2 fun v3 l4 =>
 (AV.intK .i64 v3 fun i5 =>
 (consK l4 fun v6 l7 =>
 (AV.intK .i64 v6 fun i8 =>
 (consK l7 fun v9 l10 =>
 (AV.boolK v9 fun b11 =>
 (nilK l10
 (cond (!b11)
 (some (.tup [.agg [.int .i64 0, .int .i64 0], .int .i64 8]))
 ((cp F_ref03_CheckDur [.agg [.int .i64 i5, .int .i64 i8]]).bind fun r12 =>
 (AV.intK .i64 r12 fun i13 =>
 (cond (i13 != 0)
 (some (.tup [.agg [.int .i64 0, .int .i64 0], .int .i64 8]))
 (some (.tup [.agg [.int .i64 i5, .int .i64 i8], .int .i64 0])))))))))))))))
theorem eq_ref04_OfNanos (n : Nat) (a0_0 : Int) (a0_1 : Int) : CP C (n + 1) F_ref04_OfNanos [.agg [.int .u64 a0_0, .int .u64 a0_1]] = R_ref04_OfNanos (CP C n) n a0_0 a0_1 := by kernel_rfl
-- ref05_Dur
def S_ref05_Dur_7 (x0 : Int) (x1 : Int) (x2 : Int) (x3 : Int) (x4 : Int) : St := ⟨[.junk, .junk, .int .i64 x0, .ptr (some (0, 0)), .ptr (some (1, 0)), .junk, .ptr (some (2, 0)), .junk, .junk, .junk, .junk, .junk, .junk, .junk, .junk, .junk, .junk, .junk, .junk, .junk, .junk, .junk, .junk, .junk, .junk, .junk, .junk, .junk, .junk, .junk, .junk, .junk, .junk, .junk, .junk, .junk, .junk, .junk, .junk, .junk, .junk], [.cells 34 [.int .i64 x1, .int .i64 x2], .cells 34 [.int .i64 x3, .int .i64 x4], .cells 34 [.int .i64 0, .int .i64 0], .dead, .dead, .dead, .dead, .dead, .dead, .dead, .dead]⟩
def T_ref05_Dur_7 (cp : FuncId → List AV → Option AV) (x0 : Int) (x1 : Int) (x2 : Int) (x3 : Int) (x4 : Int) : Option AV :=
 ((cp F_ref03_Wide [.int .i64 x1, .int .i64 x2]).bind fun r1 =>
 (AV.aggK r1 fun l2 =>
 (consK l2 fun v3 l4 =>
 (AV.intK .u64 v3 fun i5 =>
 (consK l4 fun v6 l7 =>
 (AV.intK .u64 v6 fun i8 =>
 (nilK l7
 ((cp F_ref03_Wide [.int .i64 x3, .int .i64 x4]).bind fun r9 =>
 (AV.aggK r9 fun l10 =>
 (consK l10 fun v11 l12 =>
 (AV.intK .u64 v11 fun i13 =>
 (consK l12 fun v14 l15 =>
 (AV.intK .u64 v14 fun i16 =>
 (nilK l15
 ((cp F_ref05_Wide [.agg [.int .u64 i5, .int .u64 i8], .agg [.int .u64 i13, .int .u64 i16], .int .i64 x0]).bind fun r17 =>
 (AV.tupK r17 fun l18 =>
 (consK l18 fun v19 l20 =>
 (AV.aggK v19 fun l21 =>
 (consK l21 fun v22 l23 =>
 (AV.intK .u64 v22 fun i24 =>
 (consK l23 fun v25 l26 =>
 (AV.intK .u64 v25 fun i27 =>
 (nilK l26
 (consK l20 fun v28 l29 =>
 (AV.intK .i64 v28 fun i30 =>
 (nilK l29
 ((cp F_ref04_OfNanos [.agg [.int .u64 i24, .int .u64 i27]]).bind fun r31 =>
 (AV.tupK r31 fun l32 =>
 (consK l32 fun v33 l34 =>
 (AV.aggK v33 fun l35 =>
 (consK l35 fun v36 l37 =>
 (AV.intK .i64 v36 fun i38 =>
 (consK l37 fun v39 l40 =>
 (AV.intK .i64 v39 fun i41 =>
 (nilK l40
 (consK l34 fun v42 l43 =>
 (AV.intK .i64 v42 fun i44 =>
 (nilK l43
 (some (.tup [.agg [.int .i64 i38, .int .i64 i41], .int .i64 i44]))))))))))))))))))))))))))))))))))))))))
theorem K_ref05_Dur_7 (j : Jump) (n : Nat) (x0 : Int) (x1 : Int) (x2 : Int) (x3 : Int) (x4 : Int) : enter (topEnv C (CP C n) n F_ref05_Dur) (some j) (bodyOf C.P F_ref05_Dur) (endOf C.P F_ref05_Dur) [true, true] [] (S_ref05_Dur_7 x0 x1 x2 x3 x4) = T_ref05_Dur_7 (CP C n) x0 x1 x2 x3 x4 := by kernel_rfl
def J_ref05_Dur_7 (cp : FuncId → List AV → Option AV) (n : Nat) (x0 : Int) (x1 : Int) (x2 : Int) (x3 : Int) (x4 : Int) : Option AV := T_ref05_Dur_7 cp x0 x1 x2 x3 x4
theorem JE_ref05_Dur_7 (n : Nat) (x0 : Int) (x1 : Int) (x2 : Int) (x3 : Int) (x4 : Int) : jT (topEnv C (CP C n) n F_ref05_Dur) (bodyOf C.P F_ref05_Dur) (endOf C.P F_ref05_Dur) [true, true] [] (S_ref05_Dur_7 x0 x1 x2 x3 x4) = J_ref05_Dur_7 (CP C n) n x0 x1 x2 x3 x4 :=
  (jT_eq _ _ _ _ _ _).trans ((K_ref05_Dur_7 _ n x0 x1 x2 x3 x4).trans (rfl))
def T_ref05_Dur_1 (cp : FuncId → List AV → Option AV) (a0_0 : Int) (a0_1 : Int) (a1_0 : Int) (a1_1 : Int) (a2 : Int) (j7 : Int → Int → Int → Int → Int → Option AV) : Option AV :=
 ((cp F_ref03_CheckDur [.agg [.int .i64 a0_0, .int .i64 a0_1]]).bind fun r1 =>
 (AV.intK .i64 r1 fun i2 =>
 ((cp F_ref05_args [.agg [.int .i64 a1_0, .int .i64 a1_1], .int .i64 a2]).bind fun r3 =>
 (AV.intK .i64 r3 fun i4 =>
 (cond (i2 != 0)
 (cond (i4 != 0)
 (cond (i2 == 0)
 (cond (i4 != 0)
 (some (.tup [.agg [.int .i64 0, .int .i64 0], .int .i64 i4]))
 (j7 a2 a0_0 a0_1 a1_0 a1_1))
 (cond (decide (i4 < i2))
 (cond (i4 != 0)
 (some (.tup [.agg [.int .i64 0, .int .i64 0], .int .i64 i4]))
 (j7 a2 a0_0 a0_1 a1_0 a1_1))
 (cond (i2 != 0)
 (some (.tup [.agg [.int .i64 0, .int .i64 0], .int .i64 i2]))
 (j7 a2 a0_0 a0_1 a1_0 a1_1))))
 (cond (i2 != 0)
 (some (.tup [.agg [.int .i64 0, .int .i64 0], .int .i64 i2]))
 (j7 a2 a0_0 a0_1 a1_0 a1_1)))
 (cond (i4 != 0)
 (cond (i4 != 0)
 (some (.tup [.agg [.int .i64 0, .int .i64 0], .int .i64 i4]))
 (j7 a2 a0_0 a0_1 a1_0 a1_1))
 (j7 a2 a0_0 a0_1 a1_0 a1_1)))))))
theorem K_ref05_Dur_1 (j : Jump) (n : Nat) (a0_0 : Int) (a0_1 : Int) (a1_0 : Int) (a1_1 : Int) (a2 : Int) : ex (topEnv C (CP C n) n F_ref05_Dur) (some j) (bodyOf C.P F_ref05_Dur) 1 [] [] (endOf C.P F_ref05_Dur) (startOf C.P F_ref05_Dur [.agg [.int .i64 a0_0, .int .i64 a0_1], .agg [.int .i64 a1_0, .int .i64 a1_1], .int .i64 a2]) = T_ref05_Dur_1 (CP C n) a0_0 a0_1 a1_0 a1_1 a2 (fun x0 x1 x2 x3 x4 => j [true, true] [] (S_ref05_Dur_7 x0 x1 x2 x3 x4)) := by kernel_rfl
def R_ref05_Dur (cp : FuncId → List AV → Option AV) (n : Nat) (a0_0 : Int) (a0_1 : Int) (a1_0 : Int) (a1_1 : Int) (a2 : Int) : Option AV := T_ref05_Dur_1 cp a0_0 a0_1 a1_0 a1_1 a2 (J_ref05_Dur_7 cp n)
theorem eq_ref05_Dur (n : Nat) (a0_0 : Int) (a0_1 : Int) (a1_0 : Int) (a1_1 : Int) (a2 : Int) : CP C (n + 1) F_ref05_Dur [.agg [.int .i64 a0_0, .int .i64 a0_1], .agg [.int .i64 a1_0, .int .i64 a1_1], .int .i64 a2] = R_ref05_Dur (CP C n) n a0_0 a0_1 a1_0 a1_1 a2 :=
  (CP_pure C n F_ref05_Dur _ (by kernel_rfl) (by kernel_rfl)).trans ((K_ref05_Dur_1 _ n a0_0 a0_1 a1_0 a1_1 a2).trans (congrArg (T_ref05_Dur_1 (CP C n) a0_0 a0_1 a1_0 a1_1 a2) (funext fun x0 => (funext fun x1 => (funext fun x2 => (funext fun x3 => (funext fun x4 => (JE_ref05_Dur_7 n) x0 x1 x2 x3 x4)))))))
-- law05_RoundDurs
def R_law05_RoundDurs (cp : FuncId → List AV → Option AV) (_n : Nat) (a0_0 : Int) (a0_1 : Int) (a1_0 : Int) (a1_1 : Int) (a2 : Int) : Option AV :=
 ((cp F_round_Dur [.agg [.int .i64 a0_0, .int .i64 a0_1], .agg [.int .i64 a1_0, .int .i64 a1_1], .int .i64 a2]).bind fun r1 =>
 (AV.tupK r1 fun l2 =>
 (consK l2 fun v3 l4 =>
 (AV.aggK v3 fun l5 =>
 (consK l5 fun v6 l7 =>
 (AV.intK .i64 v6 fun i8 =>
 (consK l7 fun v9 l10 =>
 (AV.intK .i64 v9 fun i11 =>
 (nilK l10
 (consK l4 fun v12 l13 =>
 (AV.intK .i64 v12 fun i14 =>
 (nilK l13
 ((cp F_ref05_Dur [.agg [.int .i64 a0_0, .int .i64 a0_1], .agg [.int .i64 a1_0, .int .i64 a1_1], .int .i64 a2]).bind fun r15 =>
 (AV.tupK r15 fun l16 =>
 (consK l16 fun v17 l18 =>
 (AV.aggK v17 fun l19 =>
 (consK l19 fun v20 l21 =>
 (AV.intK .i64 v20 fun i22 =>
 (consK l21 fun v23 l24 =>
 (AV.intK .i64 v23 fun i25 =>
 (nilK l24
 (consK l18 fun v26 l27 =>
 (AV.intK .i64 v26 fun i28 =>
 (nilK l27
 (cond ((i8 == i22) && ((i11 == i25) && true))
 (cond (i14 == i28)
 ((cp F_law05_awake []).bind fun r29 =>
 (AV.boolK r29 fun b30 =>
 (some (.bool b30))))
 (some (.bool false)))
 (some (.bool false)))))))))))))))))))))))))))
theorem eq_law05_RoundDurs (n : Nat) (a0_0 : Int) (a0_1 : Int) (a1_0 : Int) (a1_1 : Int) (a2 : Int) : CP C (n + 1) F_law05_RoundDurs [.agg [.int .i64 a0_0, .int .i64 a0_1], .agg [.int .i64 a1_0, .int .i64 a1_1], .int .i64 a2] = R_law05_RoundDurs (CP C n) n a0_0 a0_1 a1_0 a1_1 a2 := by kernel_rfl
-- law05_RoundAgain
def S_law05_RoundAgain_253 (b0 : Bool) (x1 : Int) (x2 : Int) (x3 : Int) (x4 : Int) (x5 : Int) (x6 : Int) : St := ⟨[.junk, .junk, .junk, .junk, .ptr (some (1, 0)), .ptr (some (2, 0)), .junk, .ptr (some (3, 0)), .junk, .junk, .junk, .junk, .junk, .junk, .junk, .junk, .junk, .junk, .junk, .junk, .junk, .junk, .junk, .junk, .junk, .junk, .junk, .junk, .junk, .junk, .junk, .junk, .junk, .junk, .junk, .junk, .junk, .junk, .junk, .junk, .junk, .junk, .junk, .junk, .junk, .junk, .junk, .junk, .junk, .junk, .junk, .junk, .junk, .junk, .junk, .junk, .junk, .junk, .junk, .junk, .junk, .junk, .junk, .junk, .junk, .junk, .junk, .bool b0, .junk, .junk, .junk, .junk, .junk, .junk, .junk, .junk, .junk, .junk, .junk, .junk, .junk, .junk, .junk, .junk, .junk, .junk, .junk, .junk, .junk, .junk, .junk, .junk, .junk, .junk, .junk, .junk, .junk, .junk], [.dead, .cells 24 [.int .u64 x1, .int .u64 x2], .cells 45 [.int .i64 x3, .int .i64 x4], .cells 24 [.int .u64 x5, .int .u64 x6], .dead, .dead]⟩
def T_law05_RoundAgain_253 (cp : FuncId → List AV → Option AV) (b0 : Bool) (x1 : Int) (x2 : Int) (x3 : Int) (x4 : Int) (x5 : Int) (x6 : Int) : Option AV :=
 (cond b0
 (some (.bool false))
 ((cp F_round_Wide [.agg [.int .u64 x5, .int .u64 x6], .agg [.int .u64 x1, .int .u64 x2], .int .i64 x4]).bind fun r1 =>
 (AV.tupK r1 fun l2 =>
 (consK l2 fun v3 l4 =>
 (AV.aggK v3 fun l5 =>
 (consK l5 fun v6 l7 =>
 (AV.intK .u64 v6 fun i8 =>
 (consK l7 fun v9 l10 =>
 (AV.intK .u64 v9 fun i11 =>
 (nilK l10
 (consK l4 fun v12 l13 =>
 (AV.intK .i64 v12 fun i14 =>
 (nilK l13
 (cond (i14 != 0)
 ((cp F_ref05_Wide [.agg [.int .u64 x5, .int .u64 x6], .agg [.int .u64 x1, .int .u64 x2], .int .i64 x4]).bind fun r15 =>
 (AV.tupK r15 fun l16 =>
 (consK l16 fun v17 l18 =>
 (AV.aggK v17 fun l19 =>
 (consK l19 fun v20 l21 =>
 (AV.intK .u64 v20 fun i22 =>
 (consK l21 fun v23 l24 =>
 (AV.intK .u64 v23 fun i25 =>
 (nilK l24
 (consK l18 fun v26 l27 =>
 (AV.intK .i64 v26 fun i28 =>
 (nilK l27
 (cond (i14 == i28)
 ((cp F_law05_awake []).bind fun r29 =>
 (AV.boolK r29 fun b30 =>
 (some (.bool b30))))
 (some (.bool false)))))))))))))))
 (cond ((i8 == x5) && ((i11 == x6) && true))
 ((cp F_law05_awake []).bind fun r31 =>
 (AV.boolK r31 fun b32 =>
 (some (.bool b32))))
 (some (.bool false)))))))))))))))))
theorem K_law05_RoundAgain_253 (j : Jump) (n : Nat) (b0 : Bool) (x1 : Int) (x2 : Int) (x3 : Int) (x4 : Int) (x5 : Int) (x6 : Int) : enter (topEnv C (CP C n) n F_law05_RoundAgain) (some j) (bodyOf C.P F_law05_RoundAgain) (endOf C.P F_law05_RoundAgain) [true, false, true, true, true, true, true] [] (S_law05_RoundAgain_253 b0 x1 x2 x3 x4 x5 x6) = T_law05_RoundAgain_253 (CP C n) b0 x1 x2 x3 x4 x5 x6 := by kernel_rfl
def J_law05_RoundAgain_253 (cp : FuncId → List AV → Option AV) (n : Nat) (b0 : Bool) (x1 : Int) (x2 : Int) (x3 : Int) (x4 : Int) (x5 : Int) (x6 : Int) : Option AV := T_law05_RoundAgain_253 cp b0 x1 x2 x3 x4 x5 x6
theorem JE_law05_RoundAgain_253 (n : Nat) (b0 : Bool) (x1 : Int) (x2 : Int) (x3 : Int) (x4 : Int) (x5 : Int) (x6 : Int) : jT (topEnv C (CP C n) n F_law05_RoundAgain) (bodyOf C.P F_law05_RoundAgain) (endOf C.P F_law05_RoundAgain) [true, false, true, true, true, true, true] [] (S_law05_RoundAgain_253 b0 x1 x2 x3 x4 x5 x6) = J_law05_RoundAgain_253 (CP C n) n b0 x1 x2 x3 x4 x5 x6 :=
  (jT_eq _ _ _ _ _ _).trans ((K_law05_RoundAgain_253 _ n b0 x1 x2 x3 x4 x5 x6).trans (rfl))
def T_law05_RoundAgain_1 (cp : FuncId → List AV → Option AV) (a0_0 : Int) (a0_1 : Int) (a1_0 : Int) (a1_1 : Int) (a2_0 : Int) (a2_1 : Int) (j253 : Bool → Int → Int → Int → Int → Int → Int → Option AV) : Option AV :=
 ((cp F_round_Wide [.agg [.int .u64 a0_0, .int .u64 a0_1], .agg [.int .u64 a1_0, .int .u64 a1_1], .int .i64 a2_0]).bind fun r1 =>
 (AV.tupK r1 fun l2 =>
 (consK l2 fun v3 l4 =>
 (AV.aggK v3 fun l5 =>
 (consK l5 fun v6 l7 =>
 (AV.intK .u64 v6 fun i8 =>
 (consK l7 fun v9 l10 =>
 (AV.intK .u64 v9 fun i11 =>
 (nilK l10
 (consK l4 fun v12 l13 =>
 (AV.intK .i64 v12 fun i14 =>
 (nilK l13
 ((cp F_round_Wide [.agg [.int .u64 a0_0, .int .u64 a0_1], .agg [.int .u64 a1_0, .int .u64 a1_1], .int .i64 0]).bind fun r15 =>
 (AV.tupK r15 fun l16 =>
 (consK l16 fun v17 l18 =>
 (AV.aggK v17 fun l19 =>
 (consK l19 fun v20 l21 =>
 (AV.intK .u64 v20 fun i22 =>
 (consK l21 fun v23 l24 =>
 (AV.intK .u64 v23 fun i25 =>
 (nilK l24
 (consK l18 fun v26 l27 =>
 (AV.intK .i64 v26 fun i28 =>
 (nilK l27
 ((cp F_round_Wide [.agg [.int .u64 a0_0, .int .u64 a0_1], .agg [.int .u64 a1_0, .int .u64 a1_1], .int .i64 1]).bind fun r29 =>
 (AV.tupK r29 fun l30 =>
 (consK l30 fun v31 l32 =>
 (AV.aggK v31 fun l33 =>
 (consK l33 fun v34 l35 =>
 (AV.intK .u64 v34 fun i36 =>
 (consK l35 fun v37 l38 =>
 (AV.intK .u64 v37 fun i39 =>
 (nilK l38
 (consK l32 fun v40 l41 =>
 (AV.intK .i64 v40 fun i42 =>
 (nilK l41
 (cond (i14 != 0)
 ((cp F_law05_awake []).bind fun r43 =>
 (AV.boolK r43 fun b44 =>
 (some (.bool b44))))
 (cond (i28 != 0)
 ((cp F_law05_awake []).bind fun r45 =>
 (AV.boolK r45 fun b46 =>
 (some (.bool b46))))
 (cond (i42 != 0)
 ((cp F_law05_awake []).bind fun r47 =>
 (AV.boolK r47 fun b48 =>
 (some (.bool b48))))
 ((cp F_ref01_Signed [.agg [.int .u64 i22, .int .u64 i25], .agg [.int .u64 a0_0, .int .u64 a0_1]]).bind fun r49 =>
 (AV.intK .i64 r49 fun i50 =>
 (cond (decide (i50 > 0))
 (j253 true a1_0 a1_1 a2_0 a2_1 i8 i11)
 ((cp F_ref01_Signed [.agg [.int .u64 i36, .int .u64 i39], .agg [.int .u64 a0_0, .int .u64 a0_1]]).bind fun r51 =>
 (AV.intK .i64 r51 fun i52 =>
 (cond (decide (i52 < 0))
 (j253 true a1_0 a1_1 a2_0 a2_1 i8 i11)
 (cond (!((i8 == i22) && ((i11 == i25) && true)))
 (j253 (!((i8 == i36) && ((i11 == i39) && true))) a1_0 a1_1 a2_0 a2_1 i8 i11)
 (j253 false a1_0 a1_1 a2_0 a2_1 i8 i11)))))))))))))))))))))))))))))))))))))))))))))))
theorem K_law05_RoundAgain_1 (j : Jump) (n : Nat) (a0_0 : Int) (a0_1 : Int) (a1_0 : Int) (a1_1 : Int) (a2_0 : Int) (a2_1 : Int) : ex (topEnv C (CP C n) n F_law05_RoundAgain) (some j) (bodyOf C.P F_law05_RoundAgain) 1 [] [] (endOf C.P F_law05_RoundAgain) (startOf C.P F_law05_RoundAgain [.agg [.int .u64 a0_0, .int .u64 a0_1], .agg [.int .u64 a1_0, .int .u64 a1_1], .agg [.int .i64 a2_0, .int .i64 a2_1]]) = T_law05_RoundAgain_1 (CP C n) a0_0 a0_1 a1_0 a1_1 a2_0 a2_1 (fun b0 x1 x2 x3 x4 x5 x6 => j [true, false, true, true, true, true, true] [] (S_law05_RoundAgain_253 b0 x1 x2 x3 x4 x5 x6)) := by kernel_rfl
def R_law05_RoundAgain (cp : FuncId → List AV → Option AV) (n : Nat) (a0_0 : Int) (a0_1 : Int) (a1_0 : Int) (a1_1 : Int) (a2_0 : Int) (a2_1 : Int) : Option AV := T_law05_RoundAgain_1 cp a0_0 a0_1 a1_0 a1_1 a2_0 a2_1 (J_law05_RoundAgain_253 cp n)
theorem eq_law05_RoundAgain (n : Nat) (a0_0 : Int) (a0_1 : Int) (a1_0 : Int) (a1_1 : Int) (a2_0 : Int) (a2_1 : Int) : CP C (n + 1) F_law05_RoundAgain [.agg [.int .u64 a0_0, .int .u64 a0_1], .agg [.int .u64 a1_0, .int .u64 a1_1], .agg [.int .i64 a2_0, .int .i64 a2_1]] = R_law05_RoundAgain (CP C n) n a0_0 a0_1 a1_0 a1_1 a2_0 a2_1 :=
  (CP_pure C n F_law05_RoundAgain _ (by kernel_rfl) (by kernel_rfl)).trans ((K_law05_RoundAgain_1 _ n a0_0 a0_1 a1_0 a1_1 a2_0 a2_1).trans (congrArg (T_law05_RoundAgain_1 (CP C n) a0_0 a0_1 a1_0 a1_1 a2_0 a2_1) (funext fun b0 => (funext fun x1 => (funext fun x2 => (funext fun x3 => (funext fun x4 => (funext fun x5 => (funext fun x6 => (JE_law05_RoundAgain_253 n) b0 x1 x2 x3 x4 x5 x6)))))))))
-- law05_RoundTurns
def S_law05_RoundTurns_244 (x0 : Int) (x1 : Int) (x2 : Int) (x3 : Int) (x4 : Int) : St := ⟨[.junk, .junk, .ptr (some (0, 0)), .ptr (some (1, 0)), .junk, .slice (some (2, 0)) 9 9, .slice (some (3, 0)) 9 9, .int .i64 x0, .junk, .junk, .junk, .junk, .junk, .junk, .junk, .junk, .junk, .junk, .junk, .junk, .junk, .junk, .junk, .junk, .junk, .junk, .junk, .junk, .junk, .junk, .junk, .junk, .junk, .junk, .junk, .junk, .junk, .junk, .junk, .junk, .junk, .junk, .junk, .junk, .junk, .junk, .junk, .junk, .junk, .junk, .junk, .junk, .junk], [.cells 24 [.int .u64 x1, .int .u64 x2], .cells 24 [.int .u64 x3, .int .u64 x4], .cells 3 [.int .i64 0, .int .i64 1, .int .i64 2, .int .i64 3, .int .i64 4, .int .i64 5, .int .i64 6, .int .i64 7, .int .i64 8], .cells 3 [.int .i64 1, .int .i64 0, .int .i64 2, .int .i64 3, .int .i64 4, .int .i64 5, .int .i64 6, .int .i64 8, .int .i64 7]]⟩
def T_law05_RoundTurns_244 (cp : FuncId → List AV → Option AV) (x0 : Int) (x1 : Int) (x2 : Int) (x3 : Int) (x4 : Int) (r244 : Int → Int → Int → Int → Int → Option AV) : Option AV :=
 (cond (decide (x0 < 9))
 (cond ((decide (0 ≤ x0)) && (decide (x0 < 9)))
 (cond (fits (0 + ((Int.toNat x0) * 1)) 1 [.int .i64 0, .int .i64 1, .int .i64 2, .int .i64 3, .int .i64 4, .int .i64 5, .int .i64 6, .int .i64 7, .int .i64 8])
 (cond ((AV.pure (nth [.int .i64 0, .int .i64 1, .int .i64 2, .int .i64 3, .int .i64 4, .int .i64 5, .int .i64 6, .int .i64 7, .int .i64 8] (0 + ((Int.toNat x0) * 1)))) && true)
 ((cp F_round_Wide [.agg [.int .u64 x1, .int .u64 x2], .agg [.int .u64 x3, .int .u64 x4], (nth [.int .i64 0, .int .i64 1, .int .i64 2, .int .i64 3, .int .i64 4, .int .i64 5, .int .i64 6, .int .i64 7, .int .i64 8] (0 + ((Int.toNat x0) * 1)))]).bind fun r1 =>
 (AV.tupK r1 fun l2 =>
 (consK l2 fun v3 l4 =>
 (AV.aggK v3 fun l5 =>
 (consK l5 fun v6 l7 =>
 (AV.intK .u64 v6 fun i8 =>
 (consK l7 fun v9 l10 =>
 (AV.intK .u64 v9 fun i11 =>
 (nilK l10
 (consK l4 fun v12 l13 =>
 (AV.intK .i64 v12 fun i14 =>
 (nilK l13
 ((cp F_ref01_Neg [.agg [.int .u64 x1, .int .u64 x2]]).bind fun r15 =>
 (AV.aggK r15 fun l16 =>
 (consK l16 fun v17 l18 =>
 (AV.intK .u64 v17 fun i19 =>
 (consK l18 fun v20 l21 =>
 (AV.intK .u64 v20 fun i22 =>
 (nilK l21
 (cond ((decide (0 ≤ x0)) && (decide (x0 < 9)))
 (cond (fits (0 + ((Int.toNat x0) * 1)) 1 [.int .i64 1, .int .i64 0, .int .i64 2, .int .i64 3, .int .i64 4, .int .i64 5, .int .i64 6, .int .i64 8, .int .i64 7])
 (cond ((AV.pure (nth [.int .i64 1, .int .i64 0, .int .i64 2, .int .i64 3, .int .i64 4, .int .i64 5, .int .i64 6, .int .i64 8, .int .i64 7] (0 + ((Int.toNat x0) * 1)))) && true)
 ((cp F_round_Wide [.agg [.int .u64 i19, .int .u64 i22], .agg [.int .u64 x3, .int .u64 x4], (nth [.int .i64 1, .int .i64 0, .int .i64 2, .int .i64 3, .int .i64 4, .int .i64 5, .int .i64 6, .int .i64 8, .int .i64 7] (0 + ((Int.toNat x0) * 1)))]).bind fun r23 =>
 (AV.tupK r23 fun l24 =>
 (consK l24 fun v25 l26 =>
 (AV.aggK v25 fun l27 =>
 (consK l27 fun v28 l29 =>
 (AV.intK .u64 v28 fun i30 =>
 (consK l29 fun v31 l32 =>
 (AV.intK .u64 v31 fun i33 =>
 (nilK l32
 (consK l26 fun v34 l35 =>
 (AV.intK .i64 v34 fun i36 =>
 (nilK l35
 (cond (i14 != i36)
 (some (.bool false))
 (cond (i14 == 0)
 ((cp F_ref01_Neg [.agg [.int .u64 i8, .int .u64 i11]]).bind fun r37 =>
 (AV.aggK r37 fun l38 =>
 (consK l38 fun v39 l40 =>
 (AV.intK .u64 v39 fun i41 =>
 (consK l40 fun v42 l43 =>
 (AV.intK .u64 v42 fun i44 =>
 (nilK l43
 (cond (!((i41 == i30) && ((i44 == i33) && true)))
 (some (.bool false))
 (r244 (IntKind.i64.wrap (x0 + 1)) x1 x2 x3 x4)))))))))
 (r244 (IntKind.i64.wrap (x0 + 1)) x1 x2 x3 x4)))))))))))))))
 none)
 none)
 none))))))))))))))))))))
 none)
 none)
 none)
 ((cp F_law05_awake []).bind fun r45 =>
 (AV.boolK r45 fun b46 =>
 (some (.bool b46)))))
theorem K_law05_RoundTurns_244 (j : Jump) (n : Nat) (m244 : Nat) (x0 : Int) (x1 : Int) (x2 : Int) (x3 : Int) (x4 : Int) : enter (topEnv C (CP C n) n F_law05_RoundTurns) (some j) (bodyOf C.P F_law05_RoundTurns) (endOf C.P F_law05_RoundTurns) [false, false, true, false, true, true, true] [(m244 + 1)] (S_law05_RoundTurns_244 x0 x1 x2 x3 x4) = T_law05_RoundTurns_244 (CP C n) x0 x1 x2 x3 x4 (fun x0 x1 x2 x3 x4 => j [false, false, true, false, true, true, true] [m244] (S_law05_RoundTurns_244 x0 x1 x2 x3 x4)) := by kernel_rfl
def J_law05_RoundTurns_244 (cp : FuncId → List AV → Option AV) (n : Nat) : Nat → Int → Int → Int → Int → Int → Option AV
  | 0 => (fun x0 x1 x2 x3 x4 => none)
  | m + 1 => (fun x0 x1 x2 x3 x4 => T_law05_RoundTurns_244 cp x0 x1 x2 x3 x4 (J_law05_RoundTurns_244 cp n m))
theorem Js_law05_RoundTurns_244 (cp : FuncId → List AV → Option AV) (n : Nat) (m : Nat) (x0 : Int) (x1 : Int) (x2 : Int) (x3 : Int) (x4 : Int) : J_law05_RoundTurns_244 cp n (m + 1) x0 x1 x2 x3 x4 = T_law05_RoundTurns_244 cp x0 x1 x2 x3 x4 (J_law05_RoundTurns_244 cp n m) := of_eq_true (eq_self _)
theorem JE_law05_RoundTurns_244 (n : Nat) : ∀ (m : Nat) (x0 : Int) (x1 : Int) (x2 : Int) (x3 : Int) (x4 : Int), jT (topEnv C (CP C n) n F_law05_RoundTurns) (bodyOf C.P F_law05_RoundTurns) (endOf C.P F_law05_RoundTurns) [false, false, true, false, true, true, true] [m] (S_law05_RoundTurns_244 x0 x1 x2 x3 x4) = J_law05_RoundTurns_244 (CP C n) n m x0 x1 x2 x3 x4
  | 0, x0, x1, x2, x3, x4 => (jT_eq _ _ _ _ _ _).trans (by kernel_rfl)
  | m + 1, x0, x1, x2, x3, x4 => (jT_eq _ _ _ _ _ _).trans ((K_law05_RoundTurns_244 _ n m x0 x1 x2 x3 x4).trans (congrArg (T_law05_RoundTurns_244 (CP C n) x0 x1 x2 x3 x4) (funext fun x0 => (funext fun x1 => (funext fun x2 => (funext fun x3 => (funext fun x4 => (JE_law05_RoundTurns_244 n m) x0 x1 x2 x3 x4)))))))
def T_law05_RoundTurns_1 (cp : FuncId → List AV → Option AV) (a0_0 : Int) (a0_1 : Int) (a1_0 : Int) (a1_1 : Int) (j244 : Int → Int → Int → Int → Int → Option AV) : Option AV :=
 (j244 0 a0_0 a0_1 a1_0 a1_1)
theorem K_law05_RoundTurns_1 (j : Jump) (n : Nat) (a0_0 : Int) (a0_1 : Int) (a1_0 : Int) (a1_1 : Int) : ex (topEnv C (CP C n) n F_law05_RoundTurns) (some j) (bodyOf C.P F_law05_RoundTurns) 1 [] [] (endOf C.P F_law05_RoundTurns) (startOf C.P F_law05_RoundTurns [.agg [.int .u64 a0_0, .int .u64 a0_1], .agg [.int .u64 a1_0, .int .u64 a1_1]]) = T_law05_RoundTurns_1 (CP C n) a0_0 a0_1 a1_0 a1_1 (fun x0 x1 x2 x3 x4 => j [false, false, true, false, true, true, true] [(n + 300)] (S_law05_RoundTurns_244 x0 x1 x2 x3 x4)) := by kernel_rfl
def R_law05_RoundTurns (cp : FuncId → List AV → Option AV) (n : Nat) (a0_0 : Int) (a0_1 : Int) (a1_0 : Int) (a1_1 : Int) : Option AV := T_law05_RoundTurns_1 cp a0_0 a0_1 a1_0 a1_1 (J_law05_RoundTurns_244 cp n (n + 300))
theorem eq_law05_RoundTurns (n : Nat) (a0_0 : Int) (a0_1 : Int) (a1_0 : Int) (a1_1 : Int) : CP C (n + 1) F_law05_RoundTurns [.agg [.int .u64 a0_0, .int .u64 a0_1], .agg [.int .u64 a1_0, .int .u64 a1_1]] = R_law05_RoundTurns (CP C n) n a0_0 a0_1 a1_0 a1_1 :=
  (CP_pure C n F_law05_RoundTurns _ (by kernel_rfl) (by kernel_rfl)).trans ((K_law05_RoundTurns_1 _ n a0_0 a0_1 a1_0 a1_1).trans (congrArg (T_law05_RoundTurns_1 (CP C n) a0_0 a0_1 a1_0 a1_1) (funext fun x0 => (funext fun x1 => (funext fun x2 => (funext fun x3 => (funext fun x4 => (JE_law05_RoundTurns_244 n (n + 300)) x0 x1 x2 x3 x4)))))))
end Go.Proofs.Ytiamacidfgkdkaa.Sim.S
