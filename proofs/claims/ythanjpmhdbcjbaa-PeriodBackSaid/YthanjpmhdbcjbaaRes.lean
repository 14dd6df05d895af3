/- What each function of the program answers, as a plain function, printed by a program of ours. Condition: none beyond what each theorem says. -/

import Derived.Test.YthanjpmhdbcjbaaCfg
set_option maxRecDepth 100000
set_option linter.unusedVariables false
open Go Go.Proofs.Ythanjpmhdbcjbaa.Sim Go.Proofs
namespace Go.Proofs.Ythanjpmhdbcjbaa.Sim.S
-- period_apart
def R_period_apart (cp : FuncId → List AV → Option AV) (_n : Nat) (a0_0 : Int) (a0_1 : Int) (a0_2 : Int) : Option AV :=
 (some (.agg [.int .i64 a0_0, .int .i64 a0_1, .int .i64 a0_2]))
theorem eq_period_apart (n : Nat) (a0_0 : Int) (a0_1 : Int) (a0_2 : Int) : CP C (n + 1) F_period_apart [.agg [.int .i64 a0_0, .int .i64 a0_1, .int .i64 a0_2]] = R_period_apart (CP C n) n a0_0 a0_1 a0_2 := by kernel_rfl
-- period_in
def R_period_in (cp : FuncId → List AV → Option AV) (_n : Nat) (a0 : Int) (a1 : Int) : Option AV :=
 (cond (decide (a1 < (-1000000)))
 (some (.tup [.int .i64 0, .int .i64 8]))
 (cond (decide (a1 > 1000000))
 (some (.tup [.int .i64 0, .int .i64 8]))
 (some (.tup [.int .i64 a1, .int .i64 0]))))
theorem eq_period_in (n : Nat) (a0 : Int) (a1 : Int) : CP C (n + 1) F_period_in [.int .i64 a0, .int .i64 a1] = R_period_in (CP C n) n a0 a1 := by kernel_rfl
-- period_Check
def R_period_Check (cp : FuncId → List AV → Option AV) (_n : Nat) (a0_0 : Int) (a0_1 : Int) (a0_2 : Int) : Option AV :=
 ((cp F_period_apart [.agg [.int .i64 a0_0, .int .i64 a0_1, .int .i64 a0_2]]).bind fun r1 =>
 (AV.aggK r1 fun l2 =>
 (consK l2 fun v3 l4 =>
 (AV.intK .i64 v3 fun i5 =>
 (consK l4 fun v6 l7 =>
 (AV.intK .i64 v6 fun i8 =>
 (consK l7 fun v9 l10 =>
 (AV.intK .i64 v9 fun i11 =>
 (nilK l10
 ((cp F_period_in [.int .i64 0, .int .i64 i5]).bind fun r12 =>
 (AV.tupK r12 fun l13 =>
 (consK l13 fun v14 l15 =>
 (AV.intK .i64 v14 fun i16 =>
 (consK l15 fun v17 l18 =>
 (AV.intK .i64 v17 fun i19 =>
 (nilK l18
 (cond (i19 != 0)
 (some (.int .i64 i19))
 ((cp F_period_in [.int .i64 1, .int .i64 i8]).bind fun r20 =>
 (AV.tupK r20 fun l21 =>
 (consK l21 fun v22 l23 =>
 (AV.intK .i64 v22 fun i24 =>
 (consK l23 fun v25 l26 =>
 (AV.intK .i64 v25 fun i27 =>
 (nilK l26
 (cond (i27 != 0)
 (some (.int .i64 i27))
 ((cp F_period_in [.int .i64 2, .int .i64 i11]).bind fun r28 =>
 (AV.tupK r28 fun l29 =>
 (consK l29 fun v30 l31 =>
 (AV.intK .i64 v30 fun i32 =>
 (consK l31 fun v33 l34 =>
 (AV.intK .i64 v33 fun i35 =>
 (nilK l34
 (cond (i35 != 0)
 (some (.int .i64 i35))
 (some (.int .i64 0)))))))))))))))))))))))))))))))))))
theorem eq_period_Check (n : Nat) (a0_0 : Int) (a0_1 : Int) (a0_2 : Int) : CP C (n + 1) F_period_Check [.agg [.int .i64 a0_0, .int .i64 a0_1, .int .i64 a0_2]] = R_period_Check (CP C n) n a0_0 a0_1 a0_2 := by kernel_rfl
-- period_whole
def R_period_whole (cp : FuncId → List AV → Option AV) (_n : Nat) (a0_0 : Int) (a0_1 : Int) (a0_2 : Int) (a1 : Int) : Option AV :=
 (cond (a1 == 0)
 ((cp F_period_in [.int .i64 0, .int .i64 a0_0]).bind fun r1 =>
 (AV.tupK r1 fun l2 =>
 (consK l2 fun v3 l4 =>
 (AV.intK .i64 v3 fun i5 =>
 (consK l4 fun v6 l7 =>
 (AV.intK .i64 v6 fun i8 =>
 (nilK l7
 (cond (i8 != 0)
 (cond (i8 != 0)
 (some (.tup [.agg [.int .i64 0, .int .i64 0, .int .i64 0], .int .i64 i8]))
 (some (.tup [.agg [.int .i64 0, .int .i64 0, .int .i64 0], .int .i64 0])))
 ((cp F_period_in [.int .i64 1, .int .i64 a0_1]).bind fun r9 =>
 (AV.tupK r9 fun l10 =>
 (consK l10 fun v11 l12 =>
 (AV.intK .i64 v11 fun i13 =>
 (consK l12 fun v14 l15 =>
 (AV.intK .i64 v14 fun i16 =>
 (nilK l15
 (cond (i16 != 0)
 (cond (i16 != 0)
 (some (.tup [.agg [.int .i64 0, .int .i64 0, .int .i64 0], .int .i64 i16]))
 (some (.tup [.agg [.int .i64 0, .int .i64 0, .int .i64 0], .int .i64 0])))
 ((cp F_period_in [.int .i64 2, .int .i64 a0_2]).bind fun r17 =>
 (AV.tupK r17 fun l18 =>
 (consK l18 fun v19 l20 =>
 (AV.intK .i64 v19 fun i21 =>
 (consK l20 fun v22 l23 =>
 (AV.intK .i64 v22 fun i24 =>
 (nilK l23
 (cond (i24 != 0)
 (cond (i24 != 0)
 (some (.tup [.agg [.int .i64 0, .int .i64 0, .int .i64 0], .int .i64 i24]))
 (some (.tup [.agg [.int .i64 0, .int .i64 0, .int .i64 0], .int .i64 0])))
 (some (.tup [.agg [.int .i64 i5, .int .i64 i13, .int .i64 i21], .int .i64 0]))))))))))))))))))))))))))
 (cond (a1 != 0)
 (some (.tup [.agg [.int .i64 0, .int .i64 0, .int .i64 0], .int .i64 a1]))
 (some (.tup [.agg [.int .i64 a0_0, .int .i64 a0_1, .int .i64 a0_2], .int .i64 0]))))
theorem eq_period_whole (n : Nat) (a0_0 : Int) (a0_1 : Int) (a0_2 : Int) (a1 : Int) : CP C (n + 1) F_period_whole [.agg [.int .i64 a0_0, .int .i64 a0_1, .int .i64 a0_2], .int .i64 a1] = R_period_whole (CP C n) n a0_0 a0_1 a0_2 a1 := by kernel_rfl
-- math_bits_Mul64
def R_math_bits_Mul64 (cp : FuncId → List AV → Option AV) (_n : Nat) (a0 : Int) (a1 : Int) : Option AV :=
 (bnd (IntKind.u64.wrap ((BitVec.ofInt 64 a0 &&& BitVec.ofInt 64 4294967295).toNat : Int)) fun y1 =>
 (bnd (IntKind.u64.wrap ((BitVec.ofInt 64 a1 &&& BitVec.ofInt 64 4294967295).toNat : Int)) fun y2 =>
 (bnd (IntKind.u64.wrap ((IntKind.u64.wrap ((Int.fdiv a0 4294967296) * y2)) + (Int.fdiv (IntKind.u64.wrap (y1 * y2)) 4294967296))) fun y3 =>
 (bnd (IntKind.u64.wrap ((BitVec.ofInt 64 y3 &&& BitVec.ofInt 64 4294967295).toNat : Int)) fun y4 =>
 (bnd (IntKind.u64.wrap (y4 + (IntKind.u64.wrap (y1 * (Int.fdiv a1 4294967296))))) fun y5 =>
 (bnd (IntKind.u64.wrap ((Int.fdiv a0 4294967296) * (Int.fdiv a1 4294967296))) fun y6 =>
 (bnd (IntKind.u64.wrap ((IntKind.u64.wrap (y6 + (Int.fdiv y3 4294967296))) + (Int.fdiv y5 4294967296))) fun y7 =>
 (some (.tup [.int .u64 y7, .int .u64 (IntKind.u64.wrap (a0 * a1))])))))))))
theorem eq_math_bits_Mul64 (n : Nat) (a0 : Int) (a1 : Int) : CP C (n + 1) F_math_bits_Mul64 [.int .u64 a0, .int .u64 a1] = R_math_bits_Mul64 (CP C n) n a0 a1 := by kernel_rfl
-- wide_Mul
def R_wide_Mul (cp : FuncId → List AV → Option AV) (_n : Nat) (a0 : Int) (a1 : Int) : Option AV :=
 ((cp F_math_bits_Mul64 [.int .u64 a0, .int .u64 a1]).bind fun r1 =>
 (AV.tupK r1 fun l2 =>
 (consK l2 fun v3 l4 =>
 (AV.intK .u64 v3 fun i5 =>
 (consK l4 fun v6 l7 =>
 (AV.intK .u64 v6 fun i8 =>
 (nilK l7
 (some (.agg [.int .u64 i5, .int .u64 i8])))))))))
theorem eq_wide_Mul (n : Nat) (a0 : Int) (a1 : Int) : CP C (n + 1) F_wide_Mul [.int .u64 a0, .int .u64 a1] = R_wide_Mul (CP C n) n a0 a1 := by kernel_rfl
-- checked_amount
def R_checked_amount (cp : FuncId → List AV → Option AV) (_n : Nat) (a0 : Int) : Option AV :=
 (cond (decide (a0 < 0))
 (some (.int .u64 (IntKind.u64.wrap (0 - (IntKind.u64.wrap a0)))))
 (some (.int .u64 (IntKind.u64.wrap a0))))
theorem eq_checked_amount (n : Nat) (a0 : Int) : CP C (n + 1) F_checked_amount [.int .i64 a0] = R_checked_amount (CP C n) n a0 := by kernel_rfl
-- wide_Sub
def R_wide_Sub (cp : FuncId → List AV → Option AV) (_n : Nat) (a0_0 : Int) (a0_1 : Int) (a1_0 : Int) (a1_1 : Int) : Option AV :=
 (bnd (((((Int.toNat a0_1) + 18446744073709551616 - (Int.toNat a1_1) - 0) % 18446744073709551616 : Nat)) : Int) fun y1 =>
 (bnd ((if (Int.toNat a0_1) < (Int.toNat a1_1) + 0 then 1 else 0 : Nat) : Int) fun y2 =>
 (cond (decide ((Int.toNat y2) ≤ 1))
 (bnd (((((Int.toNat a0_0) + 18446744073709551616 - (Int.toNat a1_0) - (Int.toNat y2)) % 18446744073709551616 : Nat)) : Int) fun y3 =>
 (bnd ((if (Int.toNat a0_0) < (Int.toNat a1_0) + (Int.toNat y2) then 1 else 0 : Nat) : Int) fun y4 =>
 (some (.tup [.agg [.int .u64 y3, .int .u64 y1], .bool (y4 == 1)]))))
 none)))
theorem eq_wide_Sub (n : Nat) (a0_0 : Int) (a0_1 : Int) (a1_0 : Int) (a1_1 : Int) : CP C (n + 1) F_wide_Sub [.agg [.int .u64 a0_0, .int .u64 a0_1], .agg [.int .u64 a1_0, .int .u64 a1_1]] = R_wide_Sub (CP C n) n a0_0 a0_1 a1_0 a1_1 := by kernel_rfl
-- wide_Neg
def R_wide_Neg (cp : FuncId → List AV → Option AV) (_n : Nat) (a0_0 : Int) (a0_1 : Int) : Option AV :=
 ((cp F_wide_Sub [.agg [.int .u64 0, .int .u64 0], .agg [.int .u64 a0_0, .int .u64 a0_1]]).bind fun r1 =>
 (AV.tupK r1 fun l2 =>
 (consK l2 fun v3 l4 =>
 (AV.aggK v3 fun l5 =>
 (consK l5 fun v6 l7 =>
 (AV.intK .u64 v6 fun i8 =>
 (consK l7 fun v9 l10 =>
 (AV.intK .u64 v9 fun i11 =>
 (nilK l10
 (consK l4 fun v12 l13 =>
 (AV.boolK v12 fun b14 =>
 (nilK l13
 (some (.agg [.int .u64 i8, .int .u64 i11]))))))))))))))
theorem eq_wide_Neg (n : Nat) (a0_0 : Int) (a0_1 : Int) : CP C (n + 1) F_wide_Neg [.agg [.int .u64 a0_0, .int .u64 a0_1]] = R_wide_Neg (CP C n) n a0_0 a0_1 := by kernel_rfl
-- wide_Of
def R_wide_Of (cp : FuncId → List AV → Option AV) (_n : Nat) (a0 : Int) : Option AV :=
 (some (.agg [.int .u64 (IntKind.u64.wrap (Int.fdiv a0 9223372036854775808)), .int .u64 (IntKind.u64.wrap a0)]))
theorem eq_wide_Of (n : Nat) (a0 : Int) : CP C (n + 1) F_wide_Of [.int .i64 a0] = R_wide_Of (CP C n) n a0 := by kernel_rfl
-- wide_Int
def R_wide_Int (cp : FuncId → List AV → Option AV) (_n : Nat) (a0_0 : Int) (a0_1 : Int) : Option AV :=
 ((cp F_wide_Of [.int .i64 (IntKind.i64.wrap a0_1)]).bind fun r1 =>
 (AV.aggK r1 fun l2 =>
 (consK l2 fun v3 l4 =>
 (AV.intK .u64 v3 fun i5 =>
 (consK l4 fun v6 l7 =>
 (AV.intK .u64 v6 fun i8 =>
 (nilK l7
 (cond (!((i5 == a0_0) && ((i8 == a0_1) && true)))
 (some (.tup [.int .i64 0, .int .i64 8]))
 (some (.tup [.int .i64 (IntKind.i64.wrap a0_1), .int .i64 0]))))))))))
theorem eq_wide_Int (n : Nat) (a0_0 : Int) (a0_1 : Int) : CP C (n + 1) F_wide_Int [.agg [.int .u64 a0_0, .int .u64 a0_1]] = R_wide_Int (CP C n) n a0_0 a0_1 := by kernel_rfl
-- checked_Mul
def R_checked_Mul (cp : FuncId → List AV → Option AV) (_n : Nat) (a0 : Int) (a1 : Int) : Option AV :=
 ((cp F_checked_amount [.int .i64 a0]).bind fun r1 =>
 (AV.intK .u64 r1 fun i2 =>
 ((cp F_checked_amount [.int .i64 a1]).bind fun r3 =>
 (AV.intK .u64 r3 fun i4 =>
 ((cp F_wide_Mul [.int .u64 i2, .int .u64 i4]).bind fun r5 =>
 (AV.aggK r5 fun l6 =>
 (consK l6 fun v7 l8 =>
 (AV.intK .u64 v7 fun i9 =>
 (consK l8 fun v10 l11 =>
 (AV.intK .u64 v10 fun i12 =>
 (nilK l11
 (cond (decide (a0 < 0))
 (cond (decide (a1 < 0))
 (cond (decide (i9 ≥ 9223372036854775808))
 (some (.tup [.int .i64 0, .int .i64 8]))
 ((cp F_wide_Int [.agg [.int .u64 i9, .int .u64 i12]]).bind fun r13 =>
 (AV.tupK r13 fun l14 =>
 (consK l14 fun v15 l16 =>
 (AV.intK .i64 v15 fun i17 =>
 (consK l16 fun v18 l19 =>
 (AV.intK .i64 v18 fun i20 =>
 (nilK l19
 (some (.tup [.int .i64 i17, .int .i64 i20]))))))))))
 ((cp F_wide_Neg [.agg [.int .u64 i9, .int .u64 i12]]).bind fun r21 =>
 (AV.aggK r21 fun l22 =>
 (consK l22 fun v23 l24 =>
 (AV.intK .u64 v23 fun i25 =>
 (consK l24 fun v26 l27 =>
 (AV.intK .u64 v26 fun i28 =>
 (nilK l27
 ((cp F_wide_Int [.agg [.int .u64 i25, .int .u64 i28]]).bind fun r29 =>
 (AV.tupK r29 fun l30 =>
 (consK l30 fun v31 l32 =>
 (AV.intK .i64 v31 fun i33 =>
 (consK l32 fun v34 l35 =>
 (AV.intK .i64 v34 fun i36 =>
 (nilK l35
 (some (.tup [.int .i64 i33, .int .i64 i36])))))))))))))))))
 (cond (decide (a1 < 0))
 ((cp F_wide_Neg [.agg [.int .u64 i9, .int .u64 i12]]).bind fun r37 =>
 (AV.aggK r37 fun l38 =>
 (consK l38 fun v39 l40 =>
 (AV.intK .u64 v39 fun i41 =>
 (consK l40 fun v42 l43 =>
 (AV.intK .u64 v42 fun i44 =>
 (nilK l43
 ((cp F_wide_Int [.agg [.int .u64 i41, .int .u64 i44]]).bind fun r45 =>
 (AV.tupK r45 fun l46 =>
 (consK l46 fun v47 l48 =>
 (AV.intK .i64 v47 fun i49 =>
 (consK l48 fun v50 l51 =>
 (AV.intK .i64 v50 fun i52 =>
 (nilK l51
 (some (.tup [.int .i64 i49, .int .i64 i52]))))))))))))))))
 (cond (decide (i9 ≥ 9223372036854775808))
 (some (.tup [.int .i64 0, .int .i64 8]))
 ((cp F_wide_Int [.agg [.int .u64 i9, .int .u64 i12]]).bind fun r53 =>
 (AV.tupK r53 fun l54 =>
 (consK l54 fun v55 l56 =>
 (AV.intK .i64 v55 fun i57 =>
 (consK l56 fun v58 l59 =>
 (AV.intK .i64 v58 fun i60 =>
 (nilK l59
 (some (.tup [.int .i64 i57, .int .i64 i60])))))))))))))))))))))))
theorem eq_checked_Mul (n : Nat) (a0 : Int) (a1 : Int) : CP C (n + 1) F_checked_Mul [.int .i64 a0, .int .i64 a1] = R_checked_Mul (CP C n) n a0 a1 := by kernel_rfl
-- period_Mul
def S_period_Mul_15 (x0 : Int) (x1 : Int) (x2 : Int) (x3 : Int) : St := ⟨[.junk, .junk, .junk, .junk, .ptr (some (2, 0)), .int .i64 x0, .junk, .junk, .junk, .junk, .junk, .junk, .junk, .junk, .junk, .junk, .junk, .junk, .junk, .junk, .junk, .junk], [.dead, .dead, .cells 23 [.int .i64 x1, .int .i64 x2, .int .i64 x3], .dead, .dead, .dead]⟩
def T_period_Mul_15 (cp : FuncId → List AV → Option AV) (x0 : Int) (x1 : Int) (x2 : Int) (x3 : Int) : Option AV :=
 (some (.tup [.agg [.int .i64 x1, .int .i64 x2, .int .i64 x3], .int .i64 x0]))
theorem K_period_Mul_15 (j : Jump) (n : Nat) (x0 : Int) (x1 : Int) (x2 : Int) (x3 : Int) : enter (topEnv C (CP C n) n F_period_Mul) (some j) (bodyOf C.P F_period_Mul) (endOf C.P F_period_Mul) [true, true, true] [] (S_period_Mul_15 x0 x1 x2 x3) = T_period_Mul_15 (CP C n) x0 x1 x2 x3 := by kernel_rfl
def J_period_Mul_15 (cp : FuncId → List AV → Option AV) (n : Nat) (x0 : Int) (x1 : Int) (x2 : Int) (x3 : Int) : Option AV := T_period_Mul_15 cp x0 x1 x2 x3
theorem JE_period_Mul_15 (n : Nat) (x0 : Int) (x1 : Int) (x2 : Int) (x3 : Int) : jT (topEnv C (CP C n) n F_period_Mul) (bodyOf C.P F_period_Mul) (endOf C.P F_period_Mul) [true, true, true] [] (S_period_Mul_15 x0 x1 x2 x3) = J_period_Mul_15 (CP C n) n x0 x1 x2 x3 :=
  (jT_eq _ _ _ _ _ _).trans ((K_period_Mul_15 _ n x0 x1 x2 x3).trans (rfl))
def T_period_Mul_1 (cp : FuncId → List AV → Option AV) (a0_0 : Int) (a0_1 : Int) (a0_2 : Int) (a1 : Int) (j15 : Int → Int → Int → Int → Option AV) : Option AV :=
 ((cp F_period_Check [.agg [.int .i64 a0_0, .int .i64 a0_1, .int .i64 a0_2]]).bind fun r1 =>
 (AV.intK .i64 r1 fun i2 =>
 (cond (i2 != 0)
 (some (.tup [.agg [.int .i64 0, .int .i64 0, .int .i64 0], .int .i64 i2]))
 ((cp F_period_apart [.agg [.int .i64 a0_0, .int .i64 a0_1, .int .i64 a0_2]]).bind fun r3 =>
 (AV.aggK r3 fun l4 =>
 (consK l4 fun v5 l6 =>
 (AV.intK .i64 v5 fun i7 =>
 (consK l6 fun v8 l9 =>
 (AV.intK .i64 v8 fun i10 =>
 (consK l9 fun v11 l12 =>
 (AV.intK .i64 v11 fun i13 =>
 (nilK l12
 ((cp F_checked_Mul [.int .i64 i7, .int .i64 a1]).bind fun r14 =>
 (AV.tupK r14 fun l15 =>
 (consK l15 fun v16 l17 =>
 (AV.intK .i64 v16 fun i18 =>
 (consK l17 fun v19 l20 =>
 (AV.intK .i64 v19 fun i21 =>
 (nilK l20
 (cond (i21 != 0)
 ((cp F_period_whole [.agg [.int .i64 0, .int .i64 0, .int .i64 0], .int .i64 i21]).bind fun r22 =>
 (AV.tupK r22 fun l23 =>
 (consK l23 fun v24 l25 =>
 (AV.aggK v24 fun l26 =>
 (consK l26 fun v27 l28 =>
 (AV.intK .i64 v27 fun i29 =>
 (consK l28 fun v30 l31 =>
 (AV.intK .i64 v30 fun i32 =>
 (consK l31 fun v33 l34 =>
 (AV.intK .i64 v33 fun i35 =>
 (nilK l34
 (consK l25 fun v36 l37 =>
 (AV.intK .i64 v36 fun i38 =>
 (nilK l37
 (j15 i38 i29 i32 i35)))))))))))))))
 ((cp F_checked_Mul [.int .i64 i10, .int .i64 a1]).bind fun r39 =>
 (AV.tupK r39 fun l40 =>
 (consK l40 fun v41 l42 =>
 (AV.intK .i64 v41 fun i43 =>
 (consK l42 fun v44 l45 =>
 (AV.intK .i64 v44 fun i46 =>
 (nilK l45
 (cond (i46 != 0)
 ((cp F_period_whole [.agg [.int .i64 0, .int .i64 0, .int .i64 0], .int .i64 i46]).bind fun r47 =>
 (AV.tupK r47 fun l48 =>
 (consK l48 fun v49 l50 =>
 (AV.aggK v49 fun l51 =>
 (consK l51 fun v52 l53 =>
 (AV.intK .i64 v52 fun i54 =>
 (consK l53 fun v55 l56 =>
 (AV.intK .i64 v55 fun i57 =>
 (consK l56 fun v58 l59 =>
 (AV.intK .i64 v58 fun i60 =>
 (nilK l59
 (consK l50 fun v61 l62 =>
 (AV.intK .i64 v61 fun i63 =>
 (nilK l62
 (j15 i63 i54 i57 i60)))))))))))))))
 ((cp F_checked_Mul [.int .i64 i13, .int .i64 a1]).bind fun r64 =>
 (AV.tupK r64 fun l65 =>
 (consK l65 fun v66 l67 =>
 (AV.intK .i64 v66 fun i68 =>
 (consK l67 fun v69 l70 =>
 (AV.intK .i64 v69 fun i71 =>
 (nilK l70
 (cond (i71 != 0)
 ((cp F_period_whole [.agg [.int .i64 0, .int .i64 0, .int .i64 0], .int .i64 i71]).bind fun r72 =>
 (AV.tupK r72 fun l73 =>
 (consK l73 fun v74 l75 =>
 (AV.aggK v74 fun l76 =>
 (consK l76 fun v77 l78 =>
 (AV.intK .i64 v77 fun i79 =>
 (consK l78 fun v80 l81 =>
 (AV.intK .i64 v80 fun i82 =>
 (consK l81 fun v83 l84 =>
 (AV.intK .i64 v83 fun i85 =>
 (nilK l84
 (consK l75 fun v86 l87 =>
 (AV.intK .i64 v86 fun i88 =>
 (nilK l87
 (j15 i88 i79 i82 i85)))))))))))))))
 ((cp F_period_whole [.agg [.int .i64 i18, .int .i64 i43, .int .i64 i68], .int .i64 0]).bind fun r89 =>
 (AV.tupK r89 fun l90 =>
 (consK l90 fun v91 l92 =>
 (AV.aggK v91 fun l93 =>
 (consK l93 fun v94 l95 =>
 (AV.intK .i64 v94 fun i96 =>
 (consK l95 fun v97 l98 =>
 (AV.intK .i64 v97 fun i99 =>
 (consK l98 fun v100 l101 =>
 (AV.intK .i64 v100 fun i102 =>
 (nilK l101
 (consK l92 fun v103 l104 =>
 (AV.intK .i64 v103 fun i105 =>
 (nilK l104
 (j15 i105 i96 i99 i102)))))))))))))))))))))))))))))))))))))))))))))))))))
theorem K_period_Mul_1 (j : Jump) (n : Nat) (a0_0 : Int) (a0_1 : Int) (a0_2 : Int) (a1 : Int) : ex (topEnv C (CP C n) n F_period_Mul) (some j) (bodyOf C.P F_period_Mul) 1 [] [] (endOf C.P F_period_Mul) (startOf C.P F_period_Mul [.agg [.int .i64 a0_0, .int .i64 a0_1, .int .i64 a0_2], .int .i64 a1]) = T_period_Mul_1 (CP C n) a0_0 a0_1 a0_2 a1 (fun x0 x1 x2 x3 => j [true, true, true] [] (S_period_Mul_15 x0 x1 x2 x3)) := by kernel_rfl
def R_period_Mul (cp : FuncId → List AV → Option AV) (n : Nat) (a0_0 : Int) (a0_1 : Int) (a0_2 : Int) (a1 : Int) : Option AV := T_period_Mul_1 cp a0_0 a0_1 a0_2 a1 (J_period_Mul_15 cp n)
theorem eq_period_Mul (n : Nat) (a0_0 : Int) (a0_1 : Int) (a0_2 : Int) (a1 : Int) : CP C (n + 1) F_period_Mul [.agg [.int .i64 a0_0, .int .i64 a0_1, .int .i64 a0_2], .int .i64 a1] = R_period_Mul (CP C n) n a0_0 a0_1 a0_2 a1 :=
  (CP_pure C n F_period_Mul _ (by kernel_rfl) (by kernel_rfl)).trans ((K_period_Mul_1 _ n a0_0 a0_1 a0_2 a1).trans (congrArg (T_period_Mul_1 (CP C n) a0_0 a0_1 a0_2 a1) (funext fun x0 => (funext fun x1 => (funext fun x2 => (funext fun x3 => (JE_period_Mul_15 n) x0 x1 x2 x3))))))
-- ref10_in
def R_ref10_in (cp : FuncId → List AV → Option AV) (_n : Nat) (a0 : Int) : Option AV :=
 (cond (decide (a0 ≥ (-1000000)))
 (some (.bool (decide (a0 ≤ 1000000))))
 (some (.bool false)))
theorem eq_ref10_in (n : Nat) (a0 : Int) : CP C (n + 1) F_ref10_in [.int .i64 a0] = R_ref10_in (CP C n) n a0 := by kernel_rfl
-- ref10_Check
def R_ref10_Check (cp : FuncId → List AV → Option AV) (_n : Nat) (a0_0 : Int) (a0_1 : Int) (a0_2 : Int) : Option AV :=
 ((cp F_ref10_in [.int .i64 a0_0]).bind fun r1 =>
 (AV.boolK r1 fun b2 =>
 (cond (!b2)
 (some (.int .i64 8))
 ((cp F_ref10_in [.int .i64 a0_1]).bind fun r3 =>
 (AV.boolK r3 fun b4 =>
 (cond (!b4)
 (some (.int .i64 8))
 ((cp F_ref10_in [.int .i64 a0_2]).bind fun r5 =>
 (AV.boolK r5 fun b6 =>
 (cond (!b6)
 (some (.int .i64 8))
 (some (.int .i64 0)))))))))))
theorem eq_ref10_Check (n : Nat) (a0_0 : Int) (a0_1 : Int) (a0_2 : Int) : CP C (n + 1) F_ref10_Check [.agg [.int .i64 a0_0, .int .i64 a0_1, .int .i64 a0_2]] = R_ref10_Check (CP C n) n a0_0 a0_1 a0_2 := by kernel_rfl
-- ref01_Of
def R_ref01_Of (cp : FuncId → List AV → Option AV) (_n : Nat) (a0 : Int) : Option AV :=
 (cond (decide (a0 < 0))
 (some (.agg [.int .u64 18446744073709551615, .int .u64 (IntKind.u64.wrap a0)]))
 (some (.agg [.int .u64 0, .int .u64 (IntKind.u64.wrap a0)])))
theorem eq_ref01_Of (n : Nat) (a0 : Int) : CP C (n + 1) F_ref01_Of [.int .i64 a0] = R_ref01_Of (CP C n) n a0 := by kernel_rfl
-- ref01_Int
def R_ref01_Int (cp : FuncId → List AV → Option AV) (_n : Nat) (a0_0 : Int) (a0_1 : Int) : Option AV :=
 ((cp F_ref01_Of [.int .i64 (IntKind.i64.wrap a0_1)]).bind fun r1 =>
 (AV.aggK r1 fun l2 =>
 (consK l2 fun v3 l4 =>
 (AV.intK .u64 v3 fun i5 =>
 (consK l4 fun v6 l7 =>
 (AV.intK .u64 v6 fun i8 =>
 (nilK l7
 (cond (!((i5 == a0_0) && ((i8 == a0_1) && true)))
 (some (.tup [.int .i64 0, .int .i64 8]))
 (some (.tup [.int .i64 (IntKind.i64.wrap a0_1), .int .i64 0]))))))))))
theorem eq_ref01_Int (n : Nat) (a0_0 : Int) (a0_1 : Int) : CP C (n + 1) F_ref01_Int [.agg [.int .u64 a0_0, .int .u64 a0_1]] = R_ref01_Int (CP C n) n a0_0 a0_1 := by kernel_rfl
-- ref01_sum
def S_ref01_sum_116 (b0 : Bool) (x1 : Int) (l2 : List AV) (l3 : List AV) (l4 : List AV) : St := ⟨[.junk, .junk, .bool b0, .ptr (some (0, 0)), .ptr (some (1, 0)), .junk, .ptr (some (2, 0)), .junk, .ptr (some (3, 0)), .int .i64 x1, .junk, .junk, .junk, .junk, .junk, .junk, .junk, .junk, .junk, .junk, .junk, .junk, .junk, .junk, .junk, .junk, .junk, .junk, .junk, .junk, .junk, .junk, .junk, .junk, .junk, .junk, .junk], [.cells 70 l2, .cells 70 l3, .cells 70 [.bool false, .bool false, .bool false, .bool false, .bool false, .bool false, .bool false, .bool false, .bool false, .bool false, .bool false, .bool false, .bool false, .bool false, .bool false, .bool false, .bool false, .bool false, .bool false, .bool false, .bool false, .bool false, .bool false, .bool false, .bool false, .bool false, .bool false, .bool false, .bool false, .bool false, .bool false, .bool false, .bool false, .bool false, .bool false, .bool false, .bool false, .bool false, .bool false, .bool false, .bool false, .bool false, .bool false, .bool false, .bool false, .bool false, .bool false, .bool false, .bool false, .bool false, .bool false, .bool false, .bool false, .bool false, .bool false, .bool false, .bool false, .bool false, .bool false, .bool false, .bool false, .bool false, .bool false, .bool false, .bool false, .bool false, .bool false, .bool false, .bool false, .bool false, .bool false, .bool false, .bool false, .bool false, .bool false, .bool false, .bool false, .bool false, .bool false, .bool false, .bool false, .bool false, .bool false, .bool false, .bool false, .bool false, .bool false, .bool false, .bool false, .bool false, .bool false, .bool false, .bool false, .bool false, .bool false, .bool false, .bool false, .bool false, .bool false, .bool false, .bool false, .bool false, .bool false, .bool false, .bool false, .bool false, .bool false, .bool false, .bool false, .bool false, .bool false, .bool false, .bool false, .bool false, .bool false, .bool false, .bool false, .bool false, .bool false, .bool false, .bool false, .bool false, .bool false, .bool false, .bool false, .bool false, .bool false, .bool false], .cells 70 l4]⟩
def S_ref01_sum_3731 (b0 : Bool) (x1 : Int) (x2 : Int) (l3 : List AV) (l4 : List AV) (l5 : List AV) : St := ⟨[.junk, .junk, .bool b0, .ptr (some (0, 0)), .ptr (some (1, 0)), .junk, .ptr (some (2, 0)), .junk, .ptr (some (3, 0)), .int .i64 x1, .int .i64 x2, .junk, .junk, .junk, .junk, .junk, .junk, .junk, .junk, .junk, .junk, .junk, .junk, .junk, .junk, .junk, .junk, .junk, .junk, .junk, .junk, .junk, .junk, .junk, .junk, .junk, .junk], [.cells 70 l3, .cells 70 l4, .cells 70 [.bool false, .bool false, .bool false, .bool false, .bool false, .bool false, .bool false, .bool false, .bool false, .bool false, .bool false, .bool false, .bool false, .bool false, .bool false, .bool false, .bool false, .bool false, .bool false, .bool false, .bool false, .bool false, .bool false, .bool false, .bool false, .bool false, .bool false, .bool false, .bool false, .bool false, .bool false, .bool false, .bool false, .bool false, .bool false, .bool false, .bool false, .bool false, .bool false, .bool false, .bool false, .bool false, .bool false, .bool false, .bool false, .bool false, .bool false, .bool false, .bool false, .bool false, .bool false, .bool false, .bool false, .bool false, .bool false, .bool false, .bool false, .bool false, .bool false, .bool false, .bool false, .bool false, .bool false, .bool false, .bool false, .bool false, .bool false, .bool false, .bool false, .bool false, .bool false, .bool false, .bool false, .bool false, .bool false, .bool false, .bool false, .bool false, .bool false, .bool false, .bool false, .bool false, .bool false, .bool false, .bool false, .bool false, .bool false, .bool false, .bool false, .bool false, .bool false, .bool false, .bool false, .bool false, .bool false, .bool false, .bool false, .bool false, .bool false, .bool false, .bool false, .bool false, .bool false, .bool false, .bool false, .bool false, .bool false, .bool false, .bool false, .bool false, .bool false, .bool false, .bool false, .bool false, .bool false, .bool false, .bool false, .bool false, .bool false, .bool false, .bool false, .bool false, .bool false, .bool false, .bool false, .bool false, .bool false, .bool false], .cells 70 l5]⟩
def S_ref01_sum_7463 (b0 : Bool) (x1 : Int) (x2 : Int) (l3 : List AV) (l4 : List AV) (l5 : List AV) : St := ⟨[.junk, .junk, .bool b0, .ptr (some (0, 0)), .ptr (some (1, 0)), .junk, .ptr (some (2, 0)), .junk, .ptr (some (3, 0)), .int .i64 x1, .int .i64 x2, .junk, .junk, .junk, .junk, .junk, .junk, .junk, .junk, .junk, .junk, .junk, .junk, .junk, .junk, .junk, .junk, .junk, .junk, .junk, .junk, .junk, .junk, .junk, .junk, .junk, .junk], [.cells 70 l3, .cells 70 l4, .cells 70 [.bool false, .bool false, .bool false, .bool false, .bool false, .bool false, .bool false, .bool false, .bool false, .bool false, .bool false, .bool false, .bool false, .bool false, .bool false, .bool false, .bool false, .bool false, .bool false, .bool false, .bool false, .bool false, .bool false, .bool false, .bool false, .bool false, .bool false, .bool false, .bool false, .bool false, .bool false, .bool false, .bool false, .bool false, .bool false, .bool false, .bool false, .bool false, .bool false, .bool false, .bool false, .bool false, .bool false, .bool false, .bool false, .bool false, .bool false, .bool false, .bool false, .bool false, .bool false, .bool false, .bool false, .bool false, .bool false, .bool false, .bool false, .bool false, .bool false, .bool false, .bool false, .bool false, .bool false, .bool false, .bool false, .bool false, .bool false, .bool false, .bool false, .bool false, .bool false, .bool false, .bool false, .bool false, .bool false, .bool false, .bool false, .bool false, .bool false, .bool false, .bool false, .bool false, .bool false, .bool false, .bool false, .bool false, .bool false, .bool false, .bool false, .bool false, .bool false, .bool false, .bool false, .bool false, .bool false, .bool false, .bool false, .bool false, .bool false, .bool false, .bool false, .bool false, .bool false, .bool false, .bool false, .bool false, .bool false, .bool false, .bool false, .bool false, .bool false, .bool false, .bool false, .bool false, .bool false, .bool false, .bool false, .bool false, .bool false, .bool false, .bool false, .bool false, .bool false, .bool false, .bool false, .bool false, .bool false, .bool false], .cells 70 l5]⟩
def S_ref01_sum_14927 (x0 : Int) (x1 : Int) (l2 : List AV) (l3 : List AV) (l4 : List AV) : St := ⟨[.junk, .junk, .junk, .ptr (some (0, 0)), .ptr (some (1, 0)), .junk, .ptr (some (2, 0)), .junk, .ptr (some (3, 0)), .int .i64 x0, .int .i64 x1, .junk, .junk, .junk, .junk, .junk, .junk, .junk, .junk, .junk, .junk, .junk, .junk, .junk, .junk, .junk, .junk, .junk, .junk, .junk, .junk, .junk, .junk, .junk, .junk, .junk, .junk], [.cells 70 l2, .cells 70 l3, .cells 70 [.bool false, .bool false, .bool false, .bool false, .bool false, .bool false, .bool false, .bool false, .bool false, .bool false, .bool false, .bool false, .bool false, .bool false, .bool false, .bool false, .bool false, .bool false, .bool false, .bool false, .bool false, .bool false, .bool false, .bool false, .bool false, .bool false, .bool false, .bool false, .bool false, .bool false, .bool false, .bool false, .bool false, .bool false, .bool false, .bool false, .bool false, .bool false, .bool false, .bool false, .bool false, .bool false, .bool false, .bool false, .bool false, .bool false, .bool false, .bool false, .bool false, .bool false, .bool false, .bool false, .bool false, .bool false, .bool false, .bool false, .bool false, .bool false, .bool false, .bool false, .bool false, .bool false, .bool false, .bool false, .bool false, .bool false, .bool false, .bool false, .bool false, .bool false, .bool false, .bool false, .bool false, .bool false, .bool false, .bool false, .bool false, .bool false, .bool false, .bool false, .bool false, .bool false, .bool false, .bool false, .bool false, .bool false, .bool false, .bool false, .bool false, .bool false, .bool false, .bool false, .bool false, .bool false, .bool false, .bool false, .bool false, .bool false, .bool false, .bool false, .bool false, .bool false, .bool false, .bool false, .bool false, .bool false, .bool false, .bool false, .bool false, .bool false, .bool false, .bool false, .bool false, .bool false, .bool false, .bool false, .bool false, .bool false, .bool false, .bool false, .bool false, .bool false, .bool false, .bool false, .bool false, .bool false, .bool false, .bool false], .cells 70 l4]⟩
def S_ref01_sum_467 (b0 : Bool) (x1 : Int) (l2 : List AV) (l3 : List AV) (l4 : List AV) : St := ⟨[.junk, .junk, .bool b0, .ptr (some (0, 0)), .ptr (some (1, 0)), .junk, .ptr (some (2, 0)), .junk, .ptr (some (3, 0)), .int .i64 x1, .junk, .junk, .junk, .junk, .junk, .junk, .junk, .junk, .junk, .junk, .junk, .junk, .junk, .junk, .junk, .junk, .junk, .junk, .junk, .junk, .junk, .junk, .junk, .junk, .junk, .junk, .junk], [.cells 70 l2, .cells 70 l3, .cells 70 [.bool false, .bool false, .bool false, .bool false, .bool false, .bool false, .bool false, .bool false, .bool false, .bool false, .bool false, .bool false, .bool false, .bool false, .bool false, .bool false, .bool false, .bool false, .bool false, .bool false, .bool false, .bool false, .bool false, .bool false, .bool false, .bool false, .bool false, .bool false, .bool false, .bool false, .bool false, .bool false, .bool false, .bool false, .bool false, .bool false, .bool false, .bool false, .bool false, .bool false, .bool false, .bool false, .bool false, .bool false, .bool false, .bool false, .bool false, .bool false, .bool false, .bool false, .bool false, .bool false, .bool false, .bool false, .bool false, .bool false, .bool false, .bool false, .bool false, .bool false, .bool false, .bool false, .bool false, .bool false, .bool false, .bool false, .bool false, .bool false, .bool false, .bool false, .bool false, .bool false, .bool false, .bool false, .bool false, .bool false, .bool false, .bool false, .bool false, .bool false, .bool false, .bool false, .bool false, .bool false, .bool false, .bool false, .bool false, .bool false, .bool false, .bool false, .bool false, .bool false, .bool false, .bool false, .bool false, .bool false, .bool false, .bool false, .bool false, .bool false, .bool false, .bool false, .bool false, .bool false, .bool false, .bool false, .bool false, .bool false, .bool false, .bool false, .bool false, .bool false, .bool false, .bool false, .bool false, .bool false, .bool false, .bool false, .bool false, .bool false, .bool false, .bool false, .bool false, .bool false, .bool false, .bool false, .bool false, .bool false], .cells 70 l4]⟩
def T_ref01_sum_467 (cp : FuncId → List AV → Option AV) (b0 : Bool) (x1 : Int) (l2 : List AV) (l3 : List AV) (l4 : List AV) (r116 : Bool → Int → List AV → List AV → List AV → Option AV) : Option AV :=
 (r116 b0 (IntKind.i64.wrap (x1 + 1)) l2 l3 l4)
theorem K_ref01_sum_467 (j : Jump) (n : Nat) (m116 : Nat) (b0 : Bool) (x1 : Int) (l2 : List AV) (l3 : List AV) (l4 : List AV) : enter (topEnv C (CP C n) n F_ref01_sum) (some j) (bodyOf C.P F_ref01_sum) (endOf C.P F_ref01_sum) [true, true, false, false, true, false, true, true] [m116] (S_ref01_sum_467 b0 x1 l2 l3 l4) = T_ref01_sum_467 (CP C n) b0 x1 l2 l3 l4 (fun b0 x1 l2 l3 l4 => j [false, false, true, false, true, true] [m116] (S_ref01_sum_116 b0 x1 l2 l3 l4)) := by kernel_rfl
def J_ref01_sum_467 (cp : FuncId → List AV → Option AV) (n : Nat) (r116 : Bool → Int → List AV → List AV → List AV → Option AV) (b0 : Bool) (x1 : Int) (l2 : List AV) (l3 : List AV) (l4 : List AV) : Option AV := T_ref01_sum_467 cp b0 x1 l2 l3 l4 r116
theorem JE_ref01_sum_467 (n : Nat) (m116 : Nat) (r116 : Bool → Int → List AV → List AV → List AV → Option AV) (h116 : ∀ (b0 : Bool) (x1 : Int) (l2 : List AV) (l3 : List AV) (l4 : List AV), jT (topEnv C (CP C n) n F_ref01_sum) (bodyOf C.P F_ref01_sum) (endOf C.P F_ref01_sum) [false, false, true, false, true, true] [m116] (S_ref01_sum_116 b0 x1 l2 l3 l4) = r116 b0 x1 l2 l3 l4) (b0 : Bool) (x1 : Int) (l2 : List AV) (l3 : List AV) (l4 : List AV) : jT (topEnv C (CP C n) n F_ref01_sum) (bodyOf C.P F_ref01_sum) (endOf C.P F_ref01_sum) [true, true, false, false, true, false, true, true] [m116] (S_ref01_sum_467 b0 x1 l2 l3 l4) = J_ref01_sum_467 (CP C n) n r116 b0 x1 l2 l3 l4 :=
  (jT_eq _ _ _ _ _ _).trans ((K_ref01_sum_467 _ n m116 b0 x1 l2 l3 l4).trans (congrArg (T_ref01_sum_467 (CP C n) b0 x1 l2 l3 l4) (funext fun b0 => (funext fun x1 => (funext fun l2 => (funext fun l3 => (funext fun l4 => h116 b0 x1 l2 l3 l4)))))))
def T_ref01_sum_14927 (cp : FuncId → List AV → Option AV) (x0 : Int) (x1 : Int) (l2 : List AV) (l3 : List AV) (l4 : List AV) (j467 : Bool → Int → List AV → List AV → List AV → Option AV) : Option AV :=
 (bnd (IntKind.i64.wrap ((BitVec.ofInt 64 x1 &&& BitVec.ofInt 64 1).toNat : Int)) fun y1 =>
 (cond ((decide (0 ≤ x0)) && (decide (x0 < 128)))
 (cond (fits (0 + ((Int.toNat x0) * 1)) 1 l4)
 (j467 (decide (x1 ≥ 2)) x0 l2 l3 (splice l4 (0 + ((Int.toNat x0) * 1)) [.bool (y1 == 1)]))
 none)
 none))
theorem K_ref01_sum_14927 (j : Jump) (n : Nat) (m116 : Nat) (x0 : Int) (x1 : Int) (l2 : List AV) (l3 : List AV) (l4 : List AV) : enter (topEnv C (CP C n) n F_ref01_sum) (some j) (bodyOf C.P F_ref01_sum) (endOf C.P F_ref01_sum) [true, true, true, true, false, false, true, false, false, true, false, true, true] [m116] (S_ref01_sum_14927 x0 x1 l2 l3 l4) = T_ref01_sum_14927 (CP C n) x0 x1 l2 l3 l4 (fun b0 x1 l2 l3 l4 => j [true, true, false, false, true, false, true, true] [m116] (S_ref01_sum_467 b0 x1 l2 l3 l4)) := by kernel_rfl
def J_ref01_sum_14927 (cp : FuncId → List AV → Option AV) (n : Nat) (r116 : Bool → Int → List AV → List AV → List AV → Option AV) (x0 : Int) (x1 : Int) (l2 : List AV) (l3 : List AV) (l4 : List AV) : Option AV := T_ref01_sum_14927 cp x0 x1 l2 l3 l4 (J_ref01_sum_467 cp n r116)
theorem JE_ref01_sum_14927 (n : Nat) (m116 : Nat) (r116 : Bool → Int → List AV → List AV → List AV → Option AV) (h116 : ∀ (b0 : Bool) (x1 : Int) (l2 : List AV) (l3 : List AV) (l4 : List AV), jT (topEnv C (CP C n) n F_ref01_sum) (bodyOf C.P F_ref01_sum) (endOf C.P F_ref01_sum) [false, false, true, false, true, true] [m116] (S_ref01_sum_116 b0 x1 l2 l3 l4) = r116 b0 x1 l2 l3 l4) (x0 : Int) (x1 : Int) (l2 : List AV) (l3 : List AV) (l4 : List AV) : jT (topEnv C (CP C n) n F_ref01_sum) (bodyOf C.P F_ref01_sum) (endOf C.P F_ref01_sum) [true, true, true, true, false, false, true, false, false, true, false, true, true] [m116] (S_ref01_sum_14927 x0 x1 l2 l3 l4) = J_ref01_sum_14927 (CP C n) n r116 x0 x1 l2 l3 l4 :=
  (jT_eq _ _ _ _ _ _).trans ((K_ref01_sum_14927 _ n m116 x0 x1 l2 l3 l4).trans (congrArg (T_ref01_sum_14927 (CP C n) x0 x1 l2 l3 l4) (funext fun b0 => (funext fun x1 => (funext fun l2 => (funext fun l3 => (funext fun l4 => (JE_ref01_sum_467 n m116 r116 h116) b0 x1 l2 l3 l4)))))))
def T_ref01_sum_7463 (cp : FuncId → List AV → Option AV) (b0 : Bool) (x1 : Int) (x2 : Int) (l3 : List AV) (l4 : List AV) (l5 : List AV) (j14927 : Int → Int → List AV → List AV → List AV → Option AV) : Option AV :=
 (cond b0
 (j14927 x1 (IntKind.i64.wrap (x2 + 1)) l3 l4 l5)
 (j14927 x1 x2 l3 l4 l5))
theorem K_ref01_sum_7463 (j : Jump) (n : Nat) (m116 : Nat) (b0 : Bool) (x1 : Int) (x2 : Int) (l3 : List AV) (l4 : List AV) (l5 : List AV) : enter (topEnv C (CP C n) n F_ref01_sum) (some j) (bodyOf C.P F_ref01_sum) (endOf C.P F_ref01_sum) [true, true, true, false, false, true, false, false, true, false, true, true] [m116] (S_ref01_sum_7463 b0 x1 x2 l3 l4 l5) = T_ref01_sum_7463 (CP C n) b0 x1 x2 l3 l4 l5 (fun x0 x1 l2 l3 l4 => j [true, true, true, true, false, false, true, false, false, true, false, true, true] [m116] (S_ref01_sum_14927 x0 x1 l2 l3 l4)) := by kernel_rfl
def J_ref01_sum_7463 (cp : FuncId → List AV → Option AV) (n : Nat) (r116 : Bool → Int → List AV → List AV → List AV → Option AV) (b0 : Bool) (x1 : Int) (x2 : Int) (l3 : List AV) (l4 : List AV) (l5 : List AV) : Option AV := T_ref01_sum_7463 cp b0 x1 x2 l3 l4 l5 (J_ref01_sum_14927 cp n r116)
theorem JE_ref01_sum_7463 (n : Nat) (m116 : Nat) (r116 : Bool → Int → List AV → List AV → List AV → Option AV) (h116 : ∀ (b0 : Bool) (x1 : Int) (l2 : List AV) (l3 : List AV) (l4 : List AV), jT (topEnv C (CP C n) n F_ref01_sum) (bodyOf C.P F_ref01_sum) (endOf C.P F_ref01_sum) [false, false, true, false, true, true] [m116] (S_ref01_sum_116 b0 x1 l2 l3 l4) = r116 b0 x1 l2 l3 l4) (b0 : Bool) (x1 : Int) (x2 : Int) (l3 : List AV) (l4 : List AV) (l5 : List AV) : jT (topEnv C (CP C n) n F_ref01_sum) (bodyOf C.P F_ref01_sum) (endOf C.P F_ref01_sum) [true, true, true, false, false, true, false, false, true, false, true, true] [m116] (S_ref01_sum_7463 b0 x1 x2 l3 l4 l5) = J_ref01_sum_7463 (CP C n) n r116 b0 x1 x2 l3 l4 l5 :=
  (jT_eq _ _ _ _ _ _).trans ((K_ref01_sum_7463 _ n m116 b0 x1 x2 l3 l4 l5).trans (congrArg (T_ref01_sum_7463 (CP C n) b0 x1 x2 l3 l4 l5) (funext fun x0 => (funext fun x1 => (funext fun l2 => (funext fun l3 => (funext fun l4 => (JE_ref01_sum_14927 n m116 r116 h116) x0 x1 l2 l3 l4)))))))
def T_ref01_sum_3731 (cp : FuncId → List AV → Option AV) (b0 : Bool) (x1 : Int) (x2 : Int) (l3 : List AV) (l4 : List AV) (l5 : List AV) (j7463 : Bool → Int → Int → List AV → List AV → List AV → Option AV) : Option AV :=
 (cond ((decide (0 ≤ x1)) && (decide (x1 < 128)))
 (cond (fits (0 + ((Int.toNat x1) * 1)) 1 l4)
 (AV.boolK (nth l4 (0 + ((Int.toNat x1) * 1))) fun b1 =>
 (cond b1
 (j7463 b0 x1 (IntKind.i64.wrap (x2 + 1)) l3 l4 l5)
 (j7463 b0 x1 x2 l3 l4 l5)))
 none)
 none)
theorem K_ref01_sum_3731 (j : Jump) (n : Nat) (m116 : Nat) (b0 : Bool) (x1 : Int) (x2 : Int) (l3 : List AV) (l4 : List AV) (l5 : List AV) : enter (topEnv C (CP C n) n F_ref01_sum) (some j) (bodyOf C.P F_ref01_sum) (endOf C.P F_ref01_sum) [true, true, false, false, true, false, false, true, false, true, true] [m116] (S_ref01_sum_3731 b0 x1 x2 l3 l4 l5) = T_ref01_sum_3731 (CP C n) b0 x1 x2 l3 l4 l5 (fun b0 x1 x2 l3 l4 l5 => j [true, true, true, false, false, true, false, false, true, false, true, true] [m116] (S_ref01_sum_7463 b0 x1 x2 l3 l4 l5)) := by kernel_rfl
def J_ref01_sum_3731 (cp : FuncId → List AV → Option AV) (n : Nat) (r116 : Bool → Int → List AV → List AV → List AV → Option AV) (b0 : Bool) (x1 : Int) (x2 : Int) (l3 : List AV) (l4 : List AV) (l5 : List AV) : Option AV := T_ref01_sum_3731 cp b0 x1 x2 l3 l4 l5 (J_ref01_sum_7463 cp n r116)
theorem JE_ref01_sum_3731 (n : Nat) (m116 : Nat) (r116 : Bool → Int → List AV → List AV → List AV → Option AV) (h116 : ∀ (b0 : Bool) (x1 : Int) (l2 : List AV) (l3 : List AV) (l4 : List AV), jT (topEnv C (CP C n) n F_ref01_sum) (bodyOf C.P F_ref01_sum) (endOf C.P F_ref01_sum) [false, false, true, false, true, true] [m116] (S_ref01_sum_116 b0 x1 l2 l3 l4) = r116 b0 x1 l2 l3 l4) (b0 : Bool) (x1 : Int) (x2 : Int) (l3 : List AV) (l4 : List AV) (l5 : List AV) : jT (topEnv C (CP C n) n F_ref01_sum) (bodyOf C.P F_ref01_sum) (endOf C.P F_ref01_sum) [true, true, false, false, true, false, false, true, false, true, true] [m116] (S_ref01_sum_3731 b0 x1 x2 l3 l4 l5) = J_ref01_sum_3731 (CP C n) n r116 b0 x1 x2 l3 l4 l5 :=
  (jT_eq _ _ _ _ _ _).trans ((K_ref01_sum_3731 _ n m116 b0 x1 x2 l3 l4 l5).trans (congrArg (T_ref01_sum_3731 (CP C n) b0 x1 x2 l3 l4 l5) (funext fun b0 => (funext fun x1 => (funext fun x2 => (funext fun l3 => (funext fun l4 => (funext fun l5 => (JE_ref01_sum_7463 n m116 r116 h116) b0 x1 x2 l3 l4 l5))))))))
def T_ref01_sum_116 (cp : FuncId → List AV → Option AV) (b0 : Bool) (x1 : Int) (l2 : List AV) (l3 : List AV) (l4 : List AV) (j3731 : Bool → Int → Int → List AV → List AV → List AV → Option AV) : Option AV :=
 (cond (decide (x1 < 128))
 (cond ((decide (0 ≤ x1)) && (decide (x1 < 128)))
 (cond (fits (0 + ((Int.toNat x1) * 1)) 1 l2)
 (AV.boolK (nth l2 (0 + ((Int.toNat x1) * 1))) fun b1 =>
 (cond b1
 (j3731 b0 x1 1 l2 l3 l4)
 (j3731 b0 x1 0 l2 l3 l4)))
 none)
 none)
 (cond (fits 0 128 l4)
 (cond (lenIs (List.take 128 (List.drop 0 l4)) 128)
 (cond (cellsOk (List.take 128 (List.drop 0 l4)))
 (cond (fits 0 128 (splice [.bool false, .bool false, .bool false, .bool false, .bool false, .bool false, .bool false, .bool false, .bool false, .bool false, .bool false, .bool false, .bool false, .bool false, .bool false, .bool false, .bool false, .bool false, .bool false, .bool false, .bool false, .bool false, .bool false, .bool false, .bool false, .bool false, .bool false, .bool false, .bool false, .bool false, .bool false, .bool false, .bool false, .bool false, .bool false, .bool false, .bool false, .bool false, .bool false, .bool false, .bool false, .bool false, .bool false, .bool false, .bool false, .bool false, .bool false, .bool false, .bool false, .bool false, .bool false, .bool false, .bool false, .bool false, .bool false, .bool false, .bool false, .bool false, .bool false, .bool false, .bool false, .bool false, .bool false, .bool false, .bool false, .bool false, .bool false, .bool false, .bool false, .bool false, .bool false, .bool false, .bool false, .bool false, .bool false, .bool false, .bool false, .bool false, .bool false, .bool false, .bool false, .bool false, .bool false, .bool false, .bool false, .bool false, .bool false, .bool false, .bool false, .bool false, .bool false, .bool false, .bool false, .bool false, .bool false, .bool false, .bool false, .bool false, .bool false, .bool false, .bool false, .bool false, .bool false, .bool false, .bool false, .bool false, .bool false, .bool false, .bool false, .bool false, .bool false, .bool false, .bool false, .bool false, .bool false, .bool false, .bool false, .bool false, .bool false, .bool false, .bool false, .bool false, .bool false, .bool false, .bool false, .bool false, .bool false, .bool false] 0 (List.take 128 (List.drop 0 l4))))
 (cond ((AV.pureL (List.take 128 (List.drop 0 (splice [.bool false, .bool false, .bool false, .bool false, .bool false, .bool false, .bool false, .bool false, .bool false, .bool false, .bool false, .bool false, .bool false, .bool false, .bool false, .bool false, .bool false, .bool false, .bool false, .bool false, .bool false, .bool false, .bool false, .bool false, .bool false, .bool false, .bool false, .bool false, .bool false, .bool false, .bool false, .bool false, .bool false, .bool false, .bool false, .bool false, .bool false, .bool false, .bool false, .bool false, .bool false, .bool false, .bool false, .bool false, .bool false, .bool false, .bool false, .bool false, .bool false, .bool false, .bool false, .bool false, .bool false, .bool false, .bool false, .bool false, .bool false, .bool false, .bool false, .bool false, .bool false, .bool false, .bool false, .bool false, .bool false, .bool false, .bool false, .bool false, .bool false, .bool false, .bool false, .bool false, .bool false, .bool false, .bool false, .bool false, .bool false, .bool false, .bool false, .bool false, .bool false, .bool false, .bool false, .bool false, .bool false, .bool false, .bool false, .bool false, .bool false, .bool false, .bool false, .bool false, .bool false, .bool false, .bool false, .bool false, .bool false, .bool false, .bool false, .bool false, .bool false, .bool false, .bool false, .bool false, .bool false, .bool false, .bool false, .bool false, .bool false, .bool false, .bool false, .bool false, .bool false, .bool false, .bool false, .bool false, .bool false, .bool false, .bool false, .bool false, .bool false, .bool false, .bool false, .bool false, .bool false, .bool false, .bool false, .bool false] 0 (List.take 128 (List.drop 0 l4)))))) && true)
 (some (.tup [.agg (List.take 128 (List.drop 0 (splice [.bool false, .bool false, .bool false, .bool false, .bool false, .bool false, .bool false, .bool false, .bool false, .bool false, .bool false, .bool false, .bool false, .bool false, .bool false, .bool false, .bool false, .bool false, .bool false, .bool false, .bool false, .bool false, .bool false, .bool false, .bool false, .bool false, .bool false, .bool false, .bool false, .bool false, .bool false, .bool false, .bool false, .bool false, .bool false, .bool false, .bool false, .bool false, .bool false, .bool false, .bool false, .bool false, .bool false, .bool false, .bool false, .bool false, .bool false, .bool false, .bool false, .bool false, .bool false, .bool false, .bool false, .bool false, .bool false, .bool false, .bool false, .bool false, .bool false, .bool false, .bool false, .bool false, .bool false, .bool false, .bool false, .bool false, .bool false, .bool false, .bool false, .bool false, .bool false, .bool false, .bool false, .bool false, .bool false, .bool false, .bool false, .bool false, .bool false, .bool false, .bool false, .bool false, .bool false, .bool false, .bool false, .bool false, .bool false, .bool false, .bool false, .bool false, .bool false, .bool false, .bool false, .bool false, .bool false, .bool false, .bool false, .bool false, .bool false, .bool false, .bool false, .bool false, .bool false, .bool false, .bool false, .bool false, .bool false, .bool false, .bool false, .bool false, .bool false, .bool false, .bool false, .bool false, .bool false, .bool false, .bool false, .bool false, .bool false, .bool false, .bool false, .bool false, .bool false, .bool false, .bool false, .bool false, .bool false, .bool false] 0 (List.take 128 (List.drop 0 l4))))), .bool b0]))
 none)
 none)
 none)
 none)
 none))
theorem K_ref01_sum_116 (j : Jump) (n : Nat) (m116 : Nat) (b0 : Bool) (x1 : Int) (l2 : List AV) (l3 : List AV) (l4 : List AV) : enter (topEnv C (CP C n) n F_ref01_sum) (some j) (bodyOf C.P F_ref01_sum) (endOf C.P F_ref01_sum) [false, false, true, false, true, true] [(m116 + 1)] (S_ref01_sum_116 b0 x1 l2 l3 l4) = T_ref01_sum_116 (CP C n) b0 x1 l2 l3 l4 (fun b0 x1 x2 l3 l4 l5 => j [true, true, false, false, true, false, false, true, false, true, true] [m116] (S_ref01_sum_3731 b0 x1 x2 l3 l4 l5)) := by kernel_rfl
def J_ref01_sum_116 (cp : FuncId → List AV → Option AV) (n : Nat) : Nat → Bool → Int → List AV → List AV → List AV → Option AV
  | 0 => (fun b0 x1 l2 l3 l4 => none)
  | m + 1 => (fun b0 x1 l2 l3 l4 => T_ref01_sum_116 cp b0 x1 l2 l3 l4 (J_ref01_sum_3731 cp n (J_ref01_sum_116 cp n m)))
theorem Js_ref01_sum_116 (cp : FuncId → List AV → Option AV) (n : Nat) (m : Nat) (b0 : Bool) (x1 : Int) (l2 : List AV) (l3 : List AV) (l4 : List AV) : J_ref01_sum_116 cp n (m + 1) b0 x1 l2 l3 l4 = T_ref01_sum_116 cp b0 x1 l2 l3 l4 (J_ref01_sum_3731 cp n (J_ref01_sum_116 cp n m)) := of_eq_true (eq_self _)
theorem JE_ref01_sum_116 (n : Nat) : ∀ (m : Nat) (b0 : Bool) (x1 : Int) (l2 : List AV) (l3 : List AV) (l4 : List AV), jT (topEnv C (CP C n) n F_ref01_sum) (bodyOf C.P F_ref01_sum) (endOf C.P F_ref01_sum) [false, false, true, false, true, true] [m] (S_ref01_sum_116 b0 x1 l2 l3 l4) = J_ref01_sum_116 (CP C n) n m b0 x1 l2 l3 l4
  | 0, b0, x1, l2, l3, l4 => (jT_eq _ _ _ _ _ _).trans (by kernel_rfl)
  | m + 1, b0, x1, l2, l3, l4 => (jT_eq _ _ _ _ _ _).trans ((K_ref01_sum_116 _ n m b0 x1 l2 l3 l4).trans (congrArg (T_ref01_sum_116 (CP C n) b0 x1 l2 l3 l4) (funext fun b0 => (funext fun x1 => (funext fun x2 => (funext fun l3 => (funext fun l4 => (funext fun l5 => (JE_ref01_sum_3731 n m (J_ref01_sum_116 (CP C n) n m) (JE_ref01_sum_116 n m)) b0 x1 x2 l3 l4 l5))))))))
def T_ref01_sum_1 (cp : FuncId → List AV → Option AV) (a0 : List AV) (a1 : List AV) (a2 : Bool) (j116 : Bool → Int → List AV → List AV → List AV → Option AV) : Option AV :=
 (j116 a2 0 a0 a1 [.bool false, .bool false, .bool false, .bool false, .bool false, .bool false, .bool false, .bool false, .bool false, .bool false, .bool false, .bool false, .bool false, .bool false, .bool false, .bool false, .bool false, .bool false, .bool false, .bool false, .bool false, .bool false, .bool false, .bool false, .bool false, .bool false, .bool false, .bool false, .bool false, .bool false, .bool false, .bool false, .bool false, .bool false, .bool false, .bool false, .bool false, .bool false, .bool false, .bool false, .bool false, .bool false, .bool false, .bool false, .bool false, .bool false, .bool false, .bool false, .bool false, .bool false, .bool false, .bool false, .bool false, .bool false, .bool false, .bool false, .bool false, .bool false, .bool false, .bool false, .bool false, .bool false, .bool false, .bool false, .bool false, .bool false, .bool false, .bool false, .bool false, .bool false, .bool false, .bool false, .bool false, .bool false, .bool false, .bool false, .bool false, .bool false, .bool false, .bool false, .bool false, .bool false, .bool false, .bool false, .bool false, .bool false, .bool false, .bool false, .bool false, .bool false, .bool false, .bool false, .bool false, .bool false, .bool false, .bool false, .bool false, .bool false, .bool false, .bool false, .bool false, .bool false, .bool false, .bool false, .bool false, .bool false, .bool false, .bool false, .bool false, .bool false, .bool false, .bool false, .bool false, .bool false, .bool false, .bool false, .bool false, .bool false, .bool false, .bool false, .bool false, .bool false, .bool false, .bool false, .bool false, .bool false, .bool false, .bool false])
theorem K_ref01_sum_1 (j : Jump) (n : Nat) (a0 : List AV) (a1 : List AV) (a2 : Bool) : ex (topEnv C (CP C n) n F_ref01_sum) (some j) (bodyOf C.P F_ref01_sum) 1 [] [] (endOf C.P F_ref01_sum) (startOf C.P F_ref01_sum [.agg a0, .agg a1, .bool a2]) = T_ref01_sum_1 (CP C n) a0 a1 a2 (fun b0 x1 l2 l3 l4 => j [false, false, true, false, true, true] [(n + 300)] (S_ref01_sum_116 b0 x1 l2 l3 l4)) := by kernel_rfl
def R_ref01_sum (cp : FuncId → List AV → Option AV) (n : Nat) (a0 : List AV) (a1 : List AV) (a2 : Bool) : Option AV := T_ref01_sum_1 cp a0 a1 a2 (J_ref01_sum_116 cp n (n + 300))
theorem eq_ref01_sum (n : Nat) (a0 : List AV) (a1 : List AV) (a2 : Bool) : CP C (n + 1) F_ref01_sum [.agg a0, .agg a1, .bool a2] = cond (AV.pureL [.agg a0, .agg a1, .bool a2]) (R_ref01_sum (CP C n) n a0 a1 a2) none :=
  (CP_run C n F_ref01_sum _ (by kernel_rfl)).trans (congrArg (fun x => cond (AV.pureL [.agg a0, .agg a1, .bool a2]) x none) ((K_ref01_sum_1 _ n a0 a1 a2).trans (congrArg (T_ref01_sum_1 (CP C n) a0 a1 a2) (funext fun b0 => (funext fun x1 => (funext fun l2 => (funext fun l3 => (funext fun l4 => (JE_ref01_sum_116 n (n + 300)) b0 x1 l2 l3 l4))))))))
-- ref01_wide
def S_ref01_wide_116 (x0 : Int) (l1 : List AV) (x2 : Int) (x3 : Int) : St := ⟨[.junk, .ptr (some (0, 0)), .ptr (some (1, 0)), .ptr (some (2, 0)), .int .i64 x0, .junk, .junk, .junk, .junk, .junk, .junk, .junk, .junk, .junk, .junk, .junk, .junk, .junk, .junk, .junk, .junk, .junk, .junk, .junk, .junk, .junk, .junk, .junk, .junk, .junk, .junk], [.cells 70 l1, .cells 53 [.int .u64 0, .int .u64 0], .cells 53 [.int .u64 x2, .int .u64 x3]]⟩
def T_ref01_wide_116 (cp : FuncId → List AV → Option AV) (x0 : Int) (l1 : List AV) (x2 : Int) (x3 : Int) (r116 : Int → List AV → Int → Int → Option AV) : Option AV :=
 (cond (decide (x0 < 64))
 (cond ((decide (0 ≤ x0)) && (decide (x0 < 128)))
 (cond (fits (0 + ((Int.toNat x0) * 1)) 1 l1)
 (AV.boolK (nth l1 (0 + ((Int.toNat x0) * 1))) fun b1 =>
 (cond b1
 (cond (decide ((IntKind.u64.wrap x0) < 0))
 none
 (bnd (IntKind.u64.wrap (1 * (2 ^ (min (Int.toNat (IntKind.u64.wrap x0)) 64)))) fun y2 =>
 (bnd (IntKind.u64.wrap ((BitVec.ofInt 64 x3 ||| BitVec.ofInt 64 y2).toNat : Int)) fun y3 =>
 (cond ((decide (0 ≤ (IntKind.i64.wrap (64 + x0)))) && (decide ((IntKind.i64.wrap (64 + x0)) < 128)))
 (cond (fits (0 + ((Int.toNat (IntKind.i64.wrap (64 + x0))) * 1)) 1 l1)
 (AV.boolK (nth l1 (0 + ((Int.toNat (IntKind.i64.wrap (64 + x0))) * 1))) fun b4 =>
 (cond b4
 (cond (decide ((IntKind.u64.wrap x0) < 0))
 none
 (bnd (IntKind.u64.wrap (1 * (2 ^ (min (Int.toNat (IntKind.u64.wrap x0)) 64)))) fun y5 =>
 (bnd (IntKind.u64.wrap ((BitVec.ofInt 64 x2 ||| BitVec.ofInt 64 y5).toNat : Int)) fun y6 =>
 (r116 (IntKind.i64.wrap (x0 + 1)) l1 y6 y3))))
 (r116 (IntKind.i64.wrap (x0 + 1)) l1 x2 y3)))
 none)
 none))))
 (cond ((decide (0 ≤ (IntKind.i64.wrap (64 + x0)))) && (decide ((IntKind.i64.wrap (64 + x0)) < 128)))
 (cond (fits (0 + ((Int.toNat (IntKind.i64.wrap (64 + x0))) * 1)) 1 l1)
 (AV.boolK (nth l1 (0 + ((Int.toNat (IntKind.i64.wrap (64 + x0))) * 1))) fun b7 =>
 (cond b7
 (cond (decide ((IntKind.u64.wrap x0) < 0))
 none
 (bnd (IntKind.u64.wrap (1 * (2 ^ (min (Int.toNat (IntKind.u64.wrap x0)) 64)))) fun y8 =>
 (bnd (IntKind.u64.wrap ((BitVec.ofInt 64 x2 ||| BitVec.ofInt 64 y8).toNat : Int)) fun y9 =>
 (r116 (IntKind.i64.wrap (x0 + 1)) l1 y9 x3))))
 (r116 (IntKind.i64.wrap (x0 + 1)) l1 x2 x3)))
 none)
 none)))
 none)
 none)
 (some (.agg [.int .u64 x2, .int .u64 x3])))
theorem K_ref01_wide_116 (j : Jump) (n : Nat) (m116 : Nat) (x0 : Int) (l1 : List AV) (x2 : Int) (x3 : Int) : enter (topEnv C (CP C n) n F_ref01_wide) (some j) (bodyOf C.P F_ref01_wide) (endOf C.P F_ref01_wide) [false, false, true, false, true, true] [(m116 + 1)] (S_ref01_wide_116 x0 l1 x2 x3) = T_ref01_wide_116 (CP C n) x0 l1 x2 x3 (fun x0 l1 x2 x3 => j [false, false, true, false, true, true] [m116] (S_ref01_wide_116 x0 l1 x2 x3)) := by kernel_rfl
def J_ref01_wide_116 (cp : FuncId → List AV → Option AV) (n : Nat) : Nat → Int → List AV → Int → Int → Option AV
  | 0 => (fun x0 l1 x2 x3 => none)
  | m + 1 => (fun x0 l1 x2 x3 => T_ref01_wide_116 cp x0 l1 x2 x3 (J_ref01_wide_116 cp n m))
theorem Js_ref01_wide_116 (cp : FuncId → List AV → Option AV) (n : Nat) (m : Nat) (x0 : Int) (l1 : List AV) (x2 : Int) (x3 : Int) : J_ref01_wide_116 cp n (m + 1) x0 l1 x2 x3 = T_ref01_wide_116 cp x0 l1 x2 x3 (J_ref01_wide_116 cp n m) := of_eq_true (eq_self _)
theorem JE_ref01_wide_116 (n : Nat) : ∀ (m : Nat) (x0 : Int) (l1 : List AV) (x2 : Int) (x3 : Int), jT (topEnv C (CP C n) n F_ref01_wide) (bodyOf C.P F_ref01_wide) (endOf C.P F_ref01_wide) [false, false, true, false, true, true] [m] (S_ref01_wide_116 x0 l1 x2 x3) = J_ref01_wide_116 (CP C n) n m x0 l1 x2 x3
  | 0, x0, l1, x2, x3 => (jT_eq _ _ _ _ _ _).trans (by kernel_rfl)
  | m + 1, x0, l1, x2, x3 => (jT_eq _ _ _ _ _ _).trans ((K_ref01_wide_116 _ n m x0 l1 x2 x3).trans (congrArg (T_ref01_wide_116 (CP C n) x0 l1 x2 x3) (funext fun x0 => (funext fun l1 => (funext fun x2 => (funext fun x3 => (JE_ref01_wide_116 n m) x0 l1 x2 x3))))))
def T_ref01_wide_1 (cp : FuncId → List AV → Option AV) (a0 : List AV) (j116 : Int → List AV → Int → Int → Option AV) : Option AV :=
 (j116 0 a0 0 0)
theorem K_ref01_wide_1 (j : Jump) (n : Nat) (a0 : List AV) : ex (topEnv C (CP C n) n F_ref01_wide) (some j) (bodyOf C.P F_ref01_wide) 1 [] [] (endOf C.P F_ref01_wide) (startOf C.P F_ref01_wide [.agg a0]) = T_ref01_wide_1 (CP C n) a0 (fun x0 l1 x2 x3 => j [false, false, true, false, true, true] [(n + 300)] (S_ref01_wide_116 x0 l1 x2 x3)) := by kernel_rfl
def R_ref01_wide (cp : FuncId → List AV → Option AV) (n : Nat) (a0 : List AV) : Option AV := T_ref01_wide_1 cp a0 (J_ref01_wide_116 cp n (n + 300))
theorem eq_ref01_wide (n : Nat) (a0 : List AV) : CP C (n + 1) F_ref01_wide [.agg a0] = cond (AV.pureL [.agg a0]) (R_ref01_wide (CP C n) n a0) none :=
  (CP_run C n F_ref01_wide _ (by kernel_rfl)).trans (congrArg (fun x => cond (AV.pureL [.agg a0]) x none) ((K_ref01_wide_1 _ n a0).trans (congrArg (T_ref01_wide_1 (CP C n) a0) (funext fun x0 => (funext fun l1 => (funext fun x2 => (funext fun x3 => (JE_ref01_wide_116 n (n + 300)) x0 l1 x2 x3)))))))
-- ref01_Mul
def S_ref01_Mul_116 (x0 : Int) (x1 : Int) (x2 : Int) (l3 : List AV) : St := ⟨[.int .u64 x0, .int .u64 x1, .junk, .junk, .ptr (some (0, 0)), .ptr (some (1, 0)), .ptr (some (2, 0)), .int .i64 x2, .junk, .junk, .junk, .junk, .junk, .junk, .junk, .junk, .junk, .junk, .junk, .junk, .junk, .junk, .junk, .junk, .junk, .junk, .junk, .junk, .junk, .junk, .junk, .junk, .junk, .junk, .junk, .junk, .junk, .junk, .junk, .junk, .junk, .junk, .junk, .junk, .junk, .junk, .junk, .junk, .junk, .junk, .junk], [.cells 53 [.int .u64 0, .int .u64 0], .cells 70 [.bool false, .bool false, .bool false, .bool false, .bool false, .bool false, .bool false, .bool false, .bool false, .bool false, .bool false, .bool false, .bool false, .bool false, .bool false, .bool false, .bool false, .bool false, .bool false, .bool false, .bool false, .bool false, .bool false, .bool false, .bool false, .bool false, .bool false, .bool false, .bool false, .bool false, .bool false, .bool false, .bool false, .bool false, .bool false, .bool false, .bool false, .bool false, .bool false, .bool false, .bool false, .bool false, .bool false, .bool false, .bool false, .bool false, .bool false, .bool false, .bool false, .bool false, .bool false, .bool false, .bool false, .bool false, .bool false, .bool false, .bool false, .bool false, .bool false, .bool false, .bool false, .bool false, .bool false, .bool false, .bool false, .bool false, .bool false, .bool false, .bool false, .bool false, .bool false, .bool false, .bool false, .bool false, .bool false, .bool false, .bool false, .bool false, .bool false, .bool false, .bool false, .bool false, .bool false, .bool false, .bool false, .bool false, .bool false, .bool false, .bool false, .bool false, .bool false, .bool false, .bool false, .bool false, .bool false, .bool false, .bool false, .bool false, .bool false, .bool false, .bool false, .bool false, .bool false, .bool false, .bool false, .bool false, .bool false, .bool false, .bool false, .bool false, .bool false, .bool false, .bool false, .bool false, .bool false, .bool false, .bool false, .bool false, .bool false, .bool false, .bool false, .bool false, .bool false, .bool false, .bool false, .bool false, .bool false, .bool false], .cells 70 l3]⟩
def S_ref01_Mul_244 (x0 : Int) (x1 : Int) (l2 : List AV) (l3 : List AV) : St := ⟨[.junk, .int .u64 x0, .junk, .junk, .ptr (some (0, 0)), .ptr (some (1, 0)), .ptr (some (2, 0)), .junk, .int .i64 x1, .junk, .junk, .junk, .junk, .junk, .junk, .junk, .junk, .junk, .junk, .junk, .junk, .junk, .junk, .junk, .junk, .junk, .junk, .junk, .junk, .junk, .junk, .junk, .junk, .junk, .junk, .junk, .junk, .junk, .junk, .junk, .junk, .junk, .junk, .junk, .junk, .junk, .junk, .junk, .junk, .junk, .junk], [.cells 53 [.int .u64 0, .int .u64 0], .cells 70 l2, .cells 70 l3]⟩
def S_ref01_Mul_62612 (x0 : Int) (x1 : Int) (x2 : Int) (l3 : List AV) (l4 : List AV) : St := ⟨[.junk, .int .u64 x0, .junk, .junk, .ptr (some (0, 0)), .ptr (some (1, 0)), .ptr (some (2, 0)), .junk, .int .i64 x1, .int .i64 x2, .junk, .junk, .junk, .junk, .junk, .junk, .junk, .junk, .junk, .junk, .junk, .junk, .junk, .junk, .junk, .junk, .junk, .junk, .junk, .junk, .junk, .junk, .junk, .junk, .junk, .junk, .junk, .junk, .junk, .junk, .junk, .junk, .junk, .junk, .junk, .junk, .junk, .junk, .junk, .junk, .junk], [.cells 53 [.int .u64 0, .int .u64 0], .cells 70 l3, .cells 70 l4]⟩
def T_ref01_Mul_62612 (cp : FuncId → List AV → Option AV) (x0 : Int) (x1 : Int) (x2 : Int) (l3 : List AV) (l4 : List AV) (r62612 : Int → Int → Int → List AV → List AV → Option AV) (r244 : Int → Int → List AV → List AV → Option AV) : Option AV :=
 (cond (decide (x2 > 0))
 (cond ((decide (0 ≤ (IntKind.i64.wrap (x2 - 1)))) && (decide ((IntKind.i64.wrap (x2 - 1)) < 128)))
 (cond (fits (0 + ((Int.toNat (IntKind.i64.wrap (x2 - 1))) * 1)) 1 l4)
 (cond ((decide (0 ≤ x2)) && (decide (x2 < 128)))
 (cond (lenIs (cellsOf (nth l4 (0 + ((Int.toNat (IntKind.i64.wrap (x2 - 1))) * 1)))) 1)
 (cond (cellsOk (cellsOf (nth l4 (0 + ((Int.toNat (IntKind.i64.wrap (x2 - 1))) * 1)))))
 (cond (fits (0 + ((Int.toNat x2) * 1)) 1 l4)
 (r62612 x0 x1 (IntKind.i64.wrap (x2 - 1)) l3 (splice l4 (0 + ((Int.toNat x2) * 1)) (cellsOf (nth l4 (0 + ((Int.toNat (IntKind.i64.wrap (x2 - 1))) * 1))))))
 none)
 none)
 none)
 none)
 none)
 none)
 (cond (fits 0 1 l4)
 (r244 x0 (IntKind.i64.wrap (x1 + 1)) l3 (splice l4 0 [.bool false]))
 none))
theorem K_ref01_Mul_62612 (j : Jump) (n : Nat) (m62612 : Nat) (m244 : Nat) (x0 : Int) (x1 : Int) (x2 : Int) (l3 : List AV) (l4 : List AV) : enter (topEnv C (CP C n) n F_ref01_Mul) (some j) (bodyOf C.P F_ref01_Mul) (endOf C.P F_ref01_Mul) [false, false, true, false, true, false, false, true, false, false, true, false, true, true, true] [(m62612 + 1), m244] (S_ref01_Mul_62612 x0 x1 x2 l3 l4) = T_ref01_Mul_62612 (CP C n) x0 x1 x2 l3 l4 (fun x0 x1 x2 l3 l4 => j [false, false, true, false, true, false, false, true, false, false, true, false, true, true, true] [m62612, m244] (S_ref01_Mul_62612 x0 x1 x2 l3 l4)) (fun x0 x1 l2 l3 => j [false, false, true, false, true, true, true] [m244] (S_ref01_Mul_244 x0 x1 l2 l3)) := by kernel_rfl
def J_ref01_Mul_62612 (cp : FuncId → List AV → Option AV) (n : Nat) (r244 : Int → Int → List AV → List AV → Option AV) : Nat → Int → Int → Int → List AV → List AV → Option AV
  | 0 => (fun x0 x1 x2 l3 l4 => none)
  | m + 1 => (fun x0 x1 x2 l3 l4 => T_ref01_Mul_62612 cp x0 x1 x2 l3 l4 (J_ref01_Mul_62612 cp n r244 m) r244)
theorem Js_ref01_Mul_62612 (cp : FuncId → List AV → Option AV) (n : Nat) (r244 : Int → Int → List AV → List AV → Option AV) (m : Nat) (x0 : Int) (x1 : Int) (x2 : Int) (l3 : List AV) (l4 : List AV) : J_ref01_Mul_62612 cp n r244 (m + 1) x0 x1 x2 l3 l4 = T_ref01_Mul_62612 cp x0 x1 x2 l3 l4 (J_ref01_Mul_62612 cp n r244 m) r244 := of_eq_true (eq_self _)
theorem JE_ref01_Mul_62612 (n : Nat) (m244 : Nat) (r244 : Int → Int → List AV → List AV → Option AV) (h244 : ∀ (x0 : Int) (x1 : Int) (l2 : List AV) (l3 : List AV), jT (topEnv C (CP C n) n F_ref01_Mul) (bodyOf C.P F_ref01_Mul) (endOf C.P F_ref01_Mul) [false, false, true, false, true, true, true] [m244] (S_ref01_Mul_244 x0 x1 l2 l3) = r244 x0 x1 l2 l3) : ∀ (m : Nat) (x0 : Int) (x1 : Int) (x2 : Int) (l3 : List AV) (l4 : List AV), jT (topEnv C (CP C n) n F_ref01_Mul) (bodyOf C.P F_ref01_Mul) (endOf C.P F_ref01_Mul) [false, false, true, false, true, false, false, true, false, false, true, false, true, true, true] [m, m244] (S_ref01_Mul_62612 x0 x1 x2 l3 l4) = J_ref01_Mul_62612 (CP C n) n r244 m x0 x1 x2 l3 l4
  | 0, x0, x1, x2, l3, l4 => (jT_eq _ _ _ _ _ _).trans (by kernel_rfl)
  | m + 1, x0, x1, x2, l3, l4 => (jT_eq _ _ _ _ _ _).trans ((K_ref01_Mul_62612 _ n m m244 x0 x1 x2 l3 l4).trans (congr (congrArg (T_ref01_Mul_62612 (CP C n) x0 x1 x2 l3 l4) (funext fun x0 => (funext fun x1 => (funext fun x2 => (funext fun l3 => (funext fun l4 => (JE_ref01_Mul_62612 n m244 r244 h244 m) x0 x1 x2 l3 l4)))))) (funext fun x0 => (funext fun x1 => (funext fun l2 => (funext fun l3 => h244 x0 x1 l2 l3))))))
def T_ref01_Mul_244 (cp : FuncId → List AV → Option AV) (x0 : Int) (x1 : Int) (l2 : List AV) (l3 : List AV) (j62612 : Int → Int → Int → List AV → List AV → Option AV) : Option AV :=
 (cond (decide (x1 < 64))
 (cond (decide ((IntKind.u64.wrap x1) < 0))
 none
 (bnd (Int.fdiv x0 (2 ^ (min (Int.toNat (IntKind.u64.wrap x1)) 64))) fun y1 =>
 (bnd (IntKind.u64.wrap ((BitVec.ofInt 64 y1 &&& BitVec.ofInt 64 1).toNat : Int)) fun y2 =>
 (cond (y2 == 1)
 (cond (fits 0 128 l2)
 (cond (fits 0 128 l3)
 (cond ((AV.pureL (List.take 128 (List.drop 0 l2))) && ((AV.pureL (List.take 128 (List.drop 0 l3))) && true))
 ((cp F_ref01_sum [.agg (List.take 128 (List.drop 0 l2)), .agg (List.take 128 (List.drop 0 l3)), .bool false]).bind fun r3 =>
 (AV.tupK r3 fun l4 =>
 (consK l4 fun v5 l6 =>
 (AV.aggK v5 fun l7 =>
 (consK l6 fun v8 l9 =>
 (AV.boolK v8 fun b10 =>
 (nilK l9
 (cond (lenIs l7 128)
 (cond (cellsOk l7)
 (cond (fits 0 128 l2)
 (j62612 x0 x1 127 (splice l2 0 l7) l3)
 none)
 none)
 none))))))))
 none)
 none)
 none)
 (j62612 x0 x1 127 l2 l3)))))
 (cond (fits 0 128 l2)
 (cond ((AV.pureL (List.take 128 (List.drop 0 l2))) && true)
 ((cp F_ref01_wide [.agg (List.take 128 (List.drop 0 l2))]).bind fun r11 =>
 (AV.aggK r11 fun l12 =>
 (consK l12 fun v13 l14 =>
 (AV.intK .u64 v13 fun i15 =>
 (consK l14 fun v16 l17 =>
 (AV.intK .u64 v16 fun i18 =>
 (nilK l17
 (some (.agg [.int .u64 i15, .int .u64 i18])))))))))
 none)
 none))
theorem K_ref01_Mul_244 (j : Jump) (n : Nat) (m244 : Nat) (x0 : Int) (x1 : Int) (l2 : List AV) (l3 : List AV) : enter (topEnv C (CP C n) n F_ref01_Mul) (some j) (bodyOf C.P F_ref01_Mul) (endOf C.P F_ref01_Mul) [false, false, true, false, true, true, true] [(m244 + 1)] (S_ref01_Mul_244 x0 x1 l2 l3) = T_ref01_Mul_244 (CP C n) x0 x1 l2 l3 (fun x0 x1 x2 l3 l4 => j [false, false, true, false, true, false, false, true, false, false, true, false, true, true, true] [(n + 300), m244] (S_ref01_Mul_62612 x0 x1 x2 l3 l4)) := by kernel_rfl
def J_ref01_Mul_244 (cp : FuncId → List AV → Option AV) (n : Nat) : Nat → Int → Int → List AV → List AV → Option AV
  | 0 => (fun x0 x1 l2 l3 => none)
  | m + 1 => (fun x0 x1 l2 l3 => T_ref01_Mul_244 cp x0 x1 l2 l3 (J_ref01_Mul_62612 cp n (J_ref01_Mul_244 cp n m) (n + 300)))
theorem Js_ref01_Mul_244 (cp : FuncId → List AV → Option AV) (n : Nat) (m : Nat) (x0 : Int) (x1 : Int) (l2 : List AV) (l3 : List AV) : J_ref01_Mul_244 cp n (m + 1) x0 x1 l2 l3 = T_ref01_Mul_244 cp x0 x1 l2 l3 (J_ref01_Mul_62612 cp n (J_ref01_Mul_244 cp n m) (n + 300)) := of_eq_true (eq_self _)
theorem JE_ref01_Mul_244 (n : Nat) : ∀ (m : Nat) (x0 : Int) (x1 : Int) (l2 : List AV) (l3 : List AV), jT (topEnv C (CP C n) n F_ref01_Mul) (bodyOf C.P F_ref01_Mul) (endOf C.P F_ref01_Mul) [false, false, true, false, true, true, true] [m] (S_ref01_Mul_244 x0 x1 l2 l3) = J_ref01_Mul_244 (CP C n) n m x0 x1 l2 l3
  | 0, x0, x1, l2, l3 => (jT_eq _ _ _ _ _ _).trans (by kernel_rfl)
  | m + 1, x0, x1, l2, l3 => (jT_eq _ _ _ _ _ _).trans ((K_ref01_Mul_244 _ n m x0 x1 l2 l3).trans (congrArg (T_ref01_Mul_244 (CP C n) x0 x1 l2 l3) (funext fun x0 => (funext fun x1 => (funext fun x2 => (funext fun l3 => (funext fun l4 => (JE_ref01_Mul_62612 n m (J_ref01_Mul_244 (CP C n) n m) (JE_ref01_Mul_244 n m) (n + 300)) x0 x1 x2 l3 l4)))))))
def T_ref01_Mul_116 (cp : FuncId → List AV → Option AV) (x0 : Int) (x1 : Int) (x2 : Int) (l3 : List AV) (r116 : Int → Int → Int → List AV → Option AV) (j244 : Int → Int → List AV → List AV → Option AV) : Option AV :=
 (cond (decide (x2 < 64))
 (cond (decide ((IntKind.u64.wrap x2) < 0))
 none
 (bnd (Int.fdiv x0 (2 ^ (min (Int.toNat (IntKind.u64.wrap x2)) 64))) fun y1 =>
 (bnd (IntKind.u64.wrap ((BitVec.ofInt 64 y1 &&& BitVec.ofInt 64 1).toNat : Int)) fun y2 =>
 (cond ((decide (0 ≤ x2)) && (decide (x2 < 128)))
 (cond (fits (0 + ((Int.toNat x2) * 1)) 1 l3)
 (r116 x0 x1 (IntKind.i64.wrap (x2 + 1)) (splice l3 (0 + ((Int.toNat x2) * 1)) [.bool (y2 == 1)]))
 none)
 none))))
 (j244 x1 0 [.bool false, .bool false, .bool false, .bool false, .bool false, .bool false, .bool false, .bool false, .bool false, .bool false, .bool false, .bool false, .bool false, .bool false, .bool false, .bool false, .bool false, .bool false, .bool false, .bool false, .bool false, .bool false, .bool false, .bool false, .bool false, .bool false, .bool false, .bool false, .bool false, .bool false, .bool false, .bool false, .bool false, .bool false, .bool false, .bool false, .bool false, .bool false, .bool false, .bool false, .bool false, .bool false, .bool false, .bool false, .bool false, .bool false, .bool false, .bool false, .bool false, .bool false, .bool false, .bool false, .bool false, .bool false, .bool false, .bool false, .bool false, .bool false, .bool false, .bool false, .bool false, .bool false, .bool false, .bool false, .bool false, .bool false, .bool false, .bool false, .bool false, .bool false, .bool false, .bool false, .bool false, .bool false, .bool false, .bool false, .bool false, .bool false, .bool false, .bool false, .bool false, .bool false, .bool false, .bool false, .bool false, .bool false, .bool false, .bool false, .bool false, .bool false, .bool false, .bool false, .bool false, .bool false, .bool false, .bool false, .bool false, .bool false, .bool false, .bool false, .bool false, .bool false, .bool false, .bool false, .bool false, .bool false, .bool false, .bool false, .bool false, .bool false, .bool false, .bool false, .bool false, .bool false, .bool false, .bool false, .bool false, .bool false, .bool false, .bool false, .bool false, .bool false, .bool false, .bool false, .bool false, .bool false, .bool false, .bool false] l3))
theorem K_ref01_Mul_116 (j : Jump) (n : Nat) (m116 : Nat) (x0 : Int) (x1 : Int) (x2 : Int) (l3 : List AV) : enter (topEnv C (CP C n) n F_ref01_Mul) (some j) (bodyOf C.P F_ref01_Mul) (endOf C.P F_ref01_Mul) [false, false, true, false, true, true] [(m116 + 1)] (S_ref01_Mul_116 x0 x1 x2 l3) = T_ref01_Mul_116 (CP C n) x0 x1 x2 l3 (fun x0 x1 x2 l3 => j [false, false, true, false, true, true] [m116] (S_ref01_Mul_116 x0 x1 x2 l3)) (fun x0 x1 l2 l3 => j [false, false, true, false, true, true, true] [(n + 300)] (S_ref01_Mul_244 x0 x1 l2 l3)) := by kernel_rfl
def J_ref01_Mul_116 (cp : FuncId → List AV → Option AV) (n : Nat) : Nat → Int → Int → Int → List AV → Option AV
  | 0 => (fun x0 x1 x2 l3 => none)
  | m + 1 => (fun x0 x1 x2 l3 => T_ref01_Mul_116 cp x0 x1 x2 l3 (J_ref01_Mul_116 cp n m) (J_ref01_Mul_244 cp n (n + 300)))
theorem Js_ref01_Mul_116 (cp : FuncId → List AV → Option AV) (n : Nat) (m : Nat) (x0 : Int) (x1 : Int) (x2 : Int) (l3 : List AV) : J_ref01_Mul_116 cp n (m + 1) x0 x1 x2 l3 = T_ref01_Mul_116 cp x0 x1 x2 l3 (J_ref01_Mul_116 cp n m) (J_ref01_Mul_244 cp n (n + 300)) := of_eq_true (eq_self _)
theorem JE_ref01_Mul_116 (n : Nat) : ∀ (m : Nat) (x0 : Int) (x1 : Int) (x2 : Int) (l3 : List AV), jT (topEnv C (CP C n) n F_ref01_Mul) (bodyOf C.P F_ref01_Mul) (endOf C.P F_ref01_Mul) [false, false, true, false, true, true] [m] (S_ref01_Mul_116 x0 x1 x2 l3) = J_ref01_Mul_116 (CP C n) n m x0 x1 x2 l3
  | 0, x0, x1, x2, l3 => (jT_eq _ _ _ _ _ _).trans (by kernel_rfl)
  | m + 1, x0, x1, x2, l3 => (jT_eq _ _ _ _ _ _).trans ((K_ref01_Mul_116 _ n m x0 x1 x2 l3).trans (congr (congrArg (T_ref01_Mul_116 (CP C n) x0 x1 x2 l3) (funext fun x0 => (funext fun x1 => (funext fun x2 => (funext fun l3 => (JE_ref01_Mul_116 n m) x0 x1 x2 l3))))) (funext fun x0 => (funext fun x1 => (funext fun l2 => (funext fun l3 => (JE_ref01_Mul_244 n (n + 300)) x0 x1 l2 l3))))))
def T_ref01_Mul_1 (cp : FuncId → List AV → Option AV) (a0 : Int) (a1 : Int) (j116 : Int → Int → Int → List AV → Option AV) : Option AV :=
 (j116 a0 a1 0 [.bool false, .bool false, .bool false, .bool false, .bool false, .bool false, .bool false, .bool false, .bool false, .bool false, .bool false, .bool false, .bool false, .bool false, .bool false, .bool false, .bool false, .bool false, .bool false, .bool false, .bool false, .bool false, .bool false, .bool false, .bool false, .bool false, .bool false, .bool false, .bool false, .bool false, .bool false, .bool false, .bool false, .bool false, .bool false, .bool false, .bool false, .bool false, .bool false, .bool false, .bool false, .bool false, .bool false, .bool false, .bool false, .bool false, .bool false, .bool false, .bool false, .bool false, .bool false, .bool false, .bool false, .bool false, .bool false, .bool false, .bool false, .bool false, .bool false, .bool false, .bool false, .bool false, .bool false, .bool false, .bool false, .bool false, .bool false, .bool false, .bool false, .bool false, .bool false, .bool false, .bool false, .bool false, .bool false, .bool false, .bool false, .bool false, .bool false, .bool false, .bool false, .bool false, .bool false, .bool false, .bool false, .bool false, .bool false, .bool false, .bool false, .bool false, .bool false, .bool false, .bool false, .bool false, .bool false, .bool false, .bool false, .bool false, .bool false, .bool false, .bool false, .bool false, .bool false, .bool false, .bool false, .bool false, .bool false, .bool false, .bool false, .bool false, .bool false, .bool false, .bool false, .bool false, .bool false, .bool false, .bool false, .bool false, .bool false, .bool false, .bool false, .bool false, .bool false, .bool false, .bool false, .bool false, .bool false, .bool false])
theorem K_ref01_Mul_1 (j : Jump) (n : Nat) (a0 : Int) (a1 : Int) : ex (topEnv C (CP C n) n F_ref01_Mul) (some j) (bodyOf C.P F_ref01_Mul) 1 [] [] (endOf C.P F_ref01_Mul) (startOf C.P F_ref01_Mul [.int .u64 a0, .int .u64 a1]) = T_ref01_Mul_1 (CP C n) a0 a1 (fun x0 x1 x2 l3 => j [false, false, true, false, true, true] [(n + 300)] (S_ref01_Mul_116 x0 x1 x2 l3)) := by kernel_rfl
def R_ref01_Mul (cp : FuncId → List AV → Option AV) (n : Nat) (a0 : Int) (a1 : Int) : Option AV := T_ref01_Mul_1 cp a0 a1 (J_ref01_Mul_116 cp n (n + 300))
theorem eq_ref01_Mul (n : Nat) (a0 : Int) (a1 : Int) : CP C (n + 1) F_ref01_Mul [.int .u64 a0, .int .u64 a1] = R_ref01_Mul (CP C n) n a0 a1 :=
  (CP_pure C n F_ref01_Mul _ (by kernel_rfl) (by kernel_rfl)).trans ((K_ref01_Mul_1 _ n a0 a1).trans (congrArg (T_ref01_Mul_1 (CP C n) a0 a1) (funext fun x0 => (funext fun x1 => (funext fun x2 => (funext fun l3 => (JE_ref01_Mul_116 n (n + 300)) x0 x1 x2 l3))))))
-- ref02_Amount
def R_ref02_Amount (cp : FuncId → List AV → Option AV) (_n : Nat) (a0 : Int) : Option AV :=
 (cond (decide (a0 < 0))
 (some (.int .u64 (IntKind.u64.wrap (0 - (IntKind.u64.wrap a0)))))
 (some (.int .u64 (IntKind.u64.wrap a0))))
theorem eq_ref02_Amount (n : Nat) (a0 : Int) : CP C (n + 1) F_ref02_Amount [.int .i64 a0] = R_ref02_Amount (CP C n) n a0 := by kernel_rfl
-- ref01_bits
def S_ref01_bits_116 (x0 : Int) (x1 : Int) (x2 : Int) (l3 : List AV) : St := ⟨[.junk, .ptr (some (0, 0)), .ptr (some (1, 0)), .ptr (some (2, 0)), .int .i64 x0, .junk, .junk, .junk, .junk, .junk, .junk, .junk, .junk, .junk, .junk, .junk, .junk, .junk, .junk, .junk, .junk, .junk, .junk, .junk, .junk, .junk, .junk, .junk, .junk], [.cells 53 [.int .u64 x1, .int .u64 x2], .cells 70 [.bool false, .bool false, .bool false, .bool false, .bool false, .bool false, .bool false, .bool false, .bool false, .bool false, .bool false, .bool false, .bool false, .bool false, .bool false, .bool false, .bool false, .bool false, .bool false, .bool false, .bool false, .bool false, .bool false, .bool false, .bool false, .bool false, .bool false, .bool false, .bool false, .bool false, .bool false, .bool false, .bool false, .bool false, .bool false, .bool false, .bool false, .bool false, .bool false, .bool false, .bool false, .bool false, .bool false, .bool false, .bool false, .bool false, .bool false, .bool false, .bool false, .bool false, .bool false, .bool false, .bool false, .bool false, .bool false, .bool false, .bool false, .bool false, .bool false, .bool false, .bool false, .bool false, .bool false, .bool false, .bool false, .bool false, .bool false, .bool false, .bool false, .bool false, .bool false, .bool false, .bool false, .bool false, .bool false, .bool false, .bool false, .bool false, .bool false, .bool false, .bool false, .bool false, .bool false, .bool false, .bool false, .bool false, .bool false, .bool false, .bool false, .bool false, .bool false, .bool false, .bool false, .bool false, .bool false, .bool false, .bool false, .bool false, .bool false, .bool false, .bool false, .bool false, .bool false, .bool false, .bool false, .bool false, .bool false, .bool false, .bool false, .bool false, .bool false, .bool false, .bool false, .bool false, .bool false, .bool false, .bool false, .bool false, .bool false, .bool false, .bool false, .bool false, .bool false, .bool false, .bool false, .bool false, .bool false, .bool false], .cells 70 l3]⟩
def T_ref01_bits_116 (cp : FuncId → List AV → Option AV) (x0 : Int) (x1 : Int) (x2 : Int) (l3 : List AV) (r116 : Int → Int → Int → List AV → Option AV) : Option AV :=
 (cond (decide (x0 < 64))
 (cond (decide ((IntKind.u64.wrap x0) < 0))
 none
 (bnd (Int.fdiv x2 (2 ^ (min (Int.toNat (IntKind.u64.wrap x0)) 64))) fun y1 =>
 (bnd (IntKind.u64.wrap ((BitVec.ofInt 64 y1 &&& BitVec.ofInt 64 1).toNat : Int)) fun y2 =>
 (cond ((decide (0 ≤ x0)) && (decide (x0 < 128)))
 (cond (fits (0 + ((Int.toNat x0) * 1)) 1 l3)
 (cond (decide ((IntKind.u64.wrap x0) < 0))
 none
 (bnd (Int.fdiv x1 (2 ^ (min (Int.toNat (IntKind.u64.wrap x0)) 64))) fun y3 =>
 (bnd (IntKind.u64.wrap ((BitVec.ofInt 64 y3 &&& BitVec.ofInt 64 1).toNat : Int)) fun y4 =>
 (cond ((decide (0 ≤ (IntKind.i64.wrap (64 + x0)))) && (decide ((IntKind.i64.wrap (64 + x0)) < 128)))
 (cond (fits (0 + ((Int.toNat (IntKind.i64.wrap (64 + x0))) * 1)) 1 (splice l3 (0 + ((Int.toNat x0) * 1)) [.bool (y2 == 1)]))
 (r116 (IntKind.i64.wrap (x0 + 1)) x1 x2 (splice (splice l3 (0 + ((Int.toNat x0) * 1)) [.bool (y2 == 1)]) (0 + ((Int.toNat (IntKind.i64.wrap (64 + x0))) * 1)) [.bool (y4 == 1)]))
 none)
 none))))
 none)
 none))))
 (cond (fits 0 128 l3)
 (cond (lenIs (List.take 128 (List.drop 0 l3)) 128)
 (cond (cellsOk (List.take 128 (List.drop 0 l3)))
 (cond (fits 0 128 (splice [.bool false, .bool false, .bool false, .bool false, .bool false, .bool false, .bool false, .bool false, .bool false, .bool false, .bool false, .bool false, .bool false, .bool false, .bool false, .bool false, .bool false, .bool false, .bool false, .bool false, .bool false, .bool false, .bool false, .bool false, .bool false, .bool false, .bool false, .bool false, .bool false, .bool false, .bool false, .bool false, .bool false, .bool false, .bool false, .bool false, .bool false, .bool false, .bool false, .bool false, .bool false, .bool false, .bool false, .bool false, .bool false, .bool false, .bool false, .bool false, .bool false, .bool false, .bool false, .bool false, .bool false, .bool false, .bool false, .bool false, .bool false, .bool false, .bool false, .bool false, .bool false, .bool false, .bool false, .bool false, .bool false, .bool false, .bool false, .bool false, .bool false, .bool false, .bool false, .bool false, .bool false, .bool false, .bool false, .bool false, .bool false, .bool false, .bool false, .bool false, .bool false, .bool false, .bool false, .bool false, .bool false, .bool false, .bool false, .bool false, .bool false, .bool false, .bool false, .bool false, .bool false, .bool false, .bool false, .bool false, .bool false, .bool false, .bool false, .bool false, .bool false, .bool false, .bool false, .bool false, .bool false, .bool false, .bool false, .bool false, .bool false, .bool false, .bool false, .bool false, .bool false, .bool false, .bool false, .bool false, .bool false, .bool false, .bool false, .bool false, .bool false, .bool false, .bool false, .bool false, .bool false, .bool false, .bool false, .bool false] 0 (List.take 128 (List.drop 0 l3))))
 (cond (AV.pureL (List.take 128 (List.drop 0 (splice [.bool false, .bool false, .bool false, .bool false, .bool false, .bool false, .bool false, .bool false, .bool false, .bool false, .bool false, .bool false, .bool false, .bool false, .bool false, .bool false, .bool false, .bool false, .bool false, .bool false, .bool false, .bool false, .bool false, .bool false, .bool false, .bool false, .bool false, .bool false, .bool false, .bool false, .bool false, .bool false, .bool false, .bool false, .bool false, .bool false, .bool false, .bool false, .bool false, .bool false, .bool false, .bool false, .bool false, .bool false, .bool false, .bool false, .bool false, .bool false, .bool false, .bool false, .bool false, .bool false, .bool false, .bool false, .bool false, .bool false, .bool false, .bool false, .bool false, .bool false, .bool false, .bool false, .bool false, .bool false, .bool false, .bool false, .bool false, .bool false, .bool false, .bool false, .bool false, .bool false, .bool false, .bool false, .bool false, .bool false, .bool false, .bool false, .bool false, .bool false, .bool false, .bool false, .bool false, .bool false, .bool false, .bool false, .bool false, .bool false, .bool false, .bool false, .bool false, .bool false, .bool false, .bool false, .bool false, .bool false, .bool false, .bool false, .bool false, .bool false, .bool false, .bool false, .bool false, .bool false, .bool false, .bool false, .bool false, .bool false, .bool false, .bool false, .bool false, .bool false, .bool false, .bool false, .bool false, .bool false, .bool false, .bool false, .bool false, .bool false, .bool false, .bool false, .bool false, .bool false, .bool false, .bool false, .bool false, .bool false] 0 (List.take 128 (List.drop 0 l3))))))
 (some (.agg (List.take 128 (List.drop 0 (splice [.bool false, .bool false, .bool false, .bool false, .bool false, .bool false, .bool false, .bool false, .bool false, .bool false, .bool false, .bool false, .bool false, .bool false, .bool false, .bool false, .bool false, .bool false, .bool false, .bool false, .bool false, .bool false, .bool false, .bool false, .bool false, .bool false, .bool false, .bool false, .bool false, .bool false, .bool false, .bool false, .bool false, .bool false, .bool false, .bool false, .bool false, .bool false, .bool false, .bool false, .bool false, .bool false, .bool false, .bool false, .bool false, .bool false, .bool false, .bool false, .bool false, .bool false, .bool false, .bool false, .bool false, .bool false, .bool false, .bool false, .bool false, .bool false, .bool false, .bool false, .bool false, .bool false, .bool false, .bool false, .bool false, .bool false, .bool false, .bool false, .bool false, .bool false, .bool false, .bool false, .bool false, .bool false, .bool false, .bool false, .bool false, .bool false, .bool false, .bool false, .bool false, .bool false, .bool false, .bool false, .bool false, .bool false, .bool false, .bool false, .bool false, .bool false, .bool false, .bool false, .bool false, .bool false, .bool false, .bool false, .bool false, .bool false, .bool false, .bool false, .bool false, .bool false, .bool false, .bool false, .bool false, .bool false, .bool false, .bool false, .bool false, .bool false, .bool false, .bool false, .bool false, .bool false, .bool false, .bool false, .bool false, .bool false, .bool false, .bool false, .bool false, .bool false, .bool false, .bool false, .bool false, .bool false, .bool false, .bool false] 0 (List.take 128 (List.drop 0 l3)))))))
 none)
 none)
 none)
 none)
 none))
theorem K_ref01_bits_116 (j : Jump) (n : Nat) (m116 : Nat) (x0 : Int) (x1 : Int) (x2 : Int) (l3 : List AV) : enter (topEnv C (CP C n) n F_ref01_bits) (some j) (bodyOf C.P F_ref01_bits) (endOf C.P F_ref01_bits) [false, false, true, false, true, true] [(m116 + 1)] (S_ref01_bits_116 x0 x1 x2 l3) = T_ref01_bits_116 (CP C n) x0 x1 x2 l3 (fun x0 x1 x2 l3 => j [false, false, true, false, true, true] [m116] (S_ref01_bits_116 x0 x1 x2 l3)) := by kernel_rfl
def J_ref01_bits_116 (cp : FuncId → List AV → Option AV) (n : Nat) : Nat → Int → Int → Int → List AV → Option AV
  | 0 => (fun x0 x1 x2 l3 => none)
  | m + 1 => (fun x0 x1 x2 l3 => T_ref01_bits_116 cp x0 x1 x2 l3 (J_ref01_bits_116 cp n m))
theorem Js_ref01_bits_116 (cp : FuncId → List AV → Option AV) (n : Nat) (m : Nat) (x0 : Int) (x1 : Int) (x2 : Int) (l3 : List AV) : J_ref01_bits_116 cp n (m + 1) x0 x1 x2 l3 = T_ref01_bits_116 cp x0 x1 x2 l3 (J_ref01_bits_116 cp n m) := of_eq_true (eq_self _)
theorem JE_ref01_bits_116 (n : Nat) : ∀ (m : Nat) (x0 : Int) (x1 : Int) (x2 : Int) (l3 : List AV), jT (topEnv C (CP C n) n F_ref01_bits) (bodyOf C.P F_ref01_bits) (endOf C.P F_ref01_bits) [false, false, true, false, true, true] [m] (S_ref01_bits_116 x0 x1 x2 l3) = J_ref01_bits_116 (CP C n) n m x0 x1 x2 l3
  | 0, x0, x1, x2, l3 => (jT_eq _ _ _ _ _ _).trans (by kernel_rfl)
  | m + 1, x0, x1, x2, l3 => (jT_eq _ _ _ _ _ _).trans ((K_ref01_bits_116 _ n m x0 x1 x2 l3).trans (congrArg (T_ref01_bits_116 (CP C n) x0 x1 x2 l3) (funext fun x0 => (funext fun x1 => (funext fun x2 => (funext fun l3 => (JE_ref01_bits_116 n m) x0 x1 x2 l3))))))
def T_ref01_bits_1 (cp : FuncId → List AV → Option AV) (a0_0 : Int) (a0_1 : Int) (j116 : Int → Int → Int → List AV → Option AV) : Option AV :=
 (j116 0 a0_0 a0_1 [.bool false, .bool false, .bool false, .bool false, .bool false, .bool false, .bool false, .bool false, .bool false, .bool false, .bool false, .bool false, .bool false, .bool false, .bool false, .bool false, .bool false, .bool false, .bool false, .bool false, .bool false, .bool false, .bool false, .bool false, .bool false, .bool false, .bool false, .bool false, .bool false, .bool false, .bool false, .bool false, .bool false, .bool false, .bool false, .bool false, .bool false, .bool false, .bool false, .bool false, .bool false, .bool false, .bool false, .bool false, .bool false, .bool false, .bool false, .bool false, .bool false, .bool false, .bool false, .bool false, .bool false, .bool false, .bool false, .bool false, .bool false, .bool false, .bool false, .bool false, .bool false, .bool false, .bool false, .bool false, .bool false, .bool false, .bool false, .bool false, .bool false, .bool false, .bool false, .bool false, .bool false, .bool false, .bool false, .bool false, .bool false, .bool false, .bool false, .bool false, .bool false, .bool false, .bool false, .bool false, .bool false, .bool false, .bool false, .bool false, .bool false, .bool false, .bool false, .bool false, .bool false, .bool false, .bool false, .bool false, .bool false, .bool false, .bool false, .bool false, .bool false, .bool false, .bool false, .bool false, .bool false, .bool false, .bool false, .bool false, .bool false, .bool false, .bool false, .bool false, .bool false, .bool false, .bool false, .bool false, .bool false, .bool false, .bool false, .bool false, .bool false, .bool false, .bool false, .bool false, .bool false, .bool false, .bool false, .bool false])
theorem K_ref01_bits_1 (j : Jump) (n : Nat) (a0_0 : Int) (a0_1 : Int) : ex (topEnv C (CP C n) n F_ref01_bits) (some j) (bodyOf C.P F_ref01_bits) 1 [] [] (endOf C.P F_ref01_bits) (startOf C.P F_ref01_bits [.agg [.int .u64 a0_0, .int .u64 a0_1]]) = T_ref01_bits_1 (CP C n) a0_0 a0_1 (fun x0 x1 x2 l3 => j [false, false, true, false, true, true] [(n + 300)] (S_ref01_bits_116 x0 x1 x2 l3)) := by kernel_rfl
def R_ref01_bits (cp : FuncId → List AV → Option AV) (n : Nat) (a0_0 : Int) (a0_1 : Int) : Option AV := T_ref01_bits_1 cp a0_0 a0_1 (J_ref01_bits_116 cp n (n + 300))
theorem eq_ref01_bits (n : Nat) (a0_0 : Int) (a0_1 : Int) : CP C (n + 1) F_ref01_bits [.agg [.int .u64 a0_0, .int .u64 a0_1]] = R_ref01_bits (CP C n) n a0_0 a0_1 :=
  (CP_pure C n F_ref01_bits _ (by kernel_rfl) (by kernel_rfl)).trans ((K_ref01_bits_1 _ n a0_0 a0_1).trans (congrArg (T_ref01_bits_1 (CP C n) a0_0 a0_1) (funext fun x0 => (funext fun x1 => (funext fun x2 => (funext fun l3 => (JE_ref01_bits_116 n (n + 300)) x0 x1 x2 l3))))))
-- ref01_turned
def S_ref01_turned_52 (x0 : Int) (l1 : List AV) : St := ⟨[.junk, .ptr (some (0, 0)), .ptr (some (1, 0)), .int .i64 x0, .junk, .junk, .junk, .junk, .junk, .junk, .junk, .junk, .junk, .junk, .junk], [.cells 70 l1, .cells 70 [.bool false, .bool false, .bool false, .bool false, .bool false, .bool false, .bool false, .bool false, .bool false, .bool false, .bool false, .bool false, .bool false, .bool false, .bool false, .bool false, .bool false, .bool false, .bool false, .bool false, .bool false, .bool false, .bool false, .bool false, .bool false, .bool false, .bool false, .bool false, .bool false, .bool false, .bool false, .bool false, .bool false, .bool false, .bool false, .bool false, .bool false, .bool false, .bool false, .bool false, .bool false, .bool false, .bool false, .bool false, .bool false, .bool false, .bool false, .bool false, .bool false, .bool false, .bool false, .bool false, .bool false, .bool false, .bool false, .bool false, .bool false, .bool false, .bool false, .bool false, .bool false, .bool false, .bool false, .bool false, .bool false, .bool false, .bool false, .bool false, .bool false, .bool false, .bool false, .bool false, .bool false, .bool false, .bool false, .bool false, .bool false, .bool false, .bool false, .bool false, .bool false, .bool false, .bool false, .bool false, .bool false, .bool false, .bool false, .bool false, .bool false, .bool false, .bool false, .bool false, .bool false, .bool false, .bool false, .bool false, .bool false, .bool false, .bool false, .bool false, .bool false, .bool false, .bool false, .bool false, .bool false, .bool false, .bool false, .bool false, .bool false, .bool false, .bool false, .bool false, .bool false, .bool false, .bool false, .bool false, .bool false, .bool false, .bool false, .bool false, .bool false, .bool false, .bool false, .bool false, .bool false, .bool false, .bool false, .bool false]]⟩
def T_ref01_turned_52 (cp : FuncId → List AV → Option AV) (x0 : Int) (l1 : List AV) (r52 : Int → List AV → Option AV) : Option AV :=
 (cond (decide (x0 < 128))
 (cond ((decide (0 ≤ x0)) && (decide (x0 < 128)))
 (cond (fits (0 + ((Int.toNat x0) * 1)) 1 l1)
 (unK .not (nth l1 (0 + ((Int.toNat x0) * 1))) fun v1 =>
 (cond ((decide (0 ≤ x0)) && (decide (x0 < 128)))
 (cond (lenIs (cellsOf v1) 1)
 (cond (cellsOk (cellsOf v1))
 (cond (fits (0 + ((Int.toNat x0) * 1)) 1 l1)
 (r52 (IntKind.i64.wrap (x0 + 1)) (splice l1 (0 + ((Int.toNat x0) * 1)) (cellsOf v1)))
 none)
 none)
 none)
 none))
 none)
 none)
 (cond (fits 0 128 l1)
 (cond (lenIs (List.take 128 (List.drop 0 l1)) 128)
 (cond (cellsOk (List.take 128 (List.drop 0 l1)))
 (cond (fits 0 128 (splice [.bool false, .bool false, .bool false, .bool false, .bool false, .bool false, .bool false, .bool false, .bool false, .bool false, .bool false, .bool false, .bool false, .bool false, .bool false, .bool false, .bool false, .bool false, .bool false, .bool false, .bool false, .bool false, .bool false, .bool false, .bool false, .bool false, .bool false, .bool false, .bool false, .bool false, .bool false, .bool false, .bool false, .bool false, .bool false, .bool false, .bool false, .bool false, .bool false, .bool false, .bool false, .bool false, .bool false, .bool false, .bool false, .bool false, .bool false, .bool false, .bool false, .bool false, .bool false, .bool false, .bool false, .bool false, .bool false, .bool false, .bool false, .bool false, .bool false, .bool false, .bool false, .bool false, .bool false, .bool false, .bool false, .bool false, .bool false, .bool false, .bool false, .bool false, .bool false, .bool false, .bool false, .bool false, .bool false, .bool false, .bool false, .bool false, .bool false, .bool false, .bool false, .bool false, .bool false, .bool false, .bool false, .bool false, .bool false, .bool false, .bool false, .bool false, .bool false, .bool false, .bool false, .bool false, .bool false, .bool false, .bool false, .bool false, .bool false, .bool false, .bool false, .bool false, .bool false, .bool false, .bool false, .bool false, .bool false, .bool false, .bool false, .bool false, .bool false, .bool false, .bool false, .bool false, .bool false, .bool false, .bool false, .bool false, .bool false, .bool false, .bool false, .bool false, .bool false, .bool false, .bool false, .bool false, .bool false, .bool false] 0 (List.take 128 (List.drop 0 l1))))
 (cond (AV.pureL (List.take 128 (List.drop 0 (splice [.bool false, .bool false, .bool false, .bool false, .bool false, .bool false, .bool false, .bool false, .bool false, .bool false, .bool false, .bool false, .bool false, .bool false, .bool false, .bool false, .bool false, .bool false, .bool false, .bool false, .bool false, .bool false, .bool false, .bool false, .bool false, .bool false, .bool false, .bool false, .bool false, .bool false, .bool false, .bool false, .bool false, .bool false, .bool false, .bool false, .bool false, .bool false, .bool false, .bool false, .bool false, .bool false, .bool false, .bool false, .bool false, .bool false, .bool false, .bool false, .bool false, .bool false, .bool false, .bool false, .bool false, .bool false, .bool false, .bool false, .bool false, .bool false, .bool false, .bool false, .bool false, .bool false, .bool false, .bool false, .bool false, .bool false, .bool false, .bool false, .bool false, .bool false, .bool false, .bool false, .bool false, .bool false, .bool false, .bool false, .bool false, .bool false, .bool false, .bool false, .bool false, .bool false, .bool false, .bool false, .bool false, .bool false, .bool false, .bool false, .bool false, .bool false, .bool false, .bool false, .bool false, .bool false, .bool false, .bool false, .bool false, .bool false, .bool false, .bool false, .bool false, .bool false, .bool false, .bool false, .bool false, .bool false, .bool false, .bool false, .bool false, .bool false, .bool false, .bool false, .bool false, .bool false, .bool false, .bool false, .bool false, .bool false, .bool false, .bool false, .bool false, .bool false, .bool false, .bool false, .bool false, .bool false, .bool false, .bool false] 0 (List.take 128 (List.drop 0 l1))))))
 (some (.agg (List.take 128 (List.drop 0 (splice [.bool false, .bool false, .bool false, .bool false, .bool false, .bool false, .bool false, .bool false, .bool false, .bool false, .bool false, .bool false, .bool false, .bool false, .bool false, .bool false, .bool false, .bool false, .bool false, .bool false, .bool false, .bool false, .bool false, .bool false, .bool false, .bool false, .bool false, .bool false, .bool false, .bool false, .bool false, .bool false, .bool false, .bool false, .bool false, .bool false, .bool false, .bool false, .bool false, .bool false, .bool false, .bool false, .bool false, .bool false, .bool false, .bool false, .bool false, .bool false, .bool false, .bool false, .bool false, .bool false, .bool false, .bool false, .bool false, .bool false, .bool false, .bool false, .bool false, .bool false, .bool false, .bool false, .bool false, .bool false, .bool false, .bool false, .bool false, .bool false, .bool false, .bool false, .bool false, .bool false, .bool false, .bool false, .bool false, .bool false, .bool false, .bool false, .bool false, .bool false, .bool false, .bool false, .bool false, .bool false, .bool false, .bool false, .bool false, .bool false, .bool false, .bool false, .bool false, .bool false, .bool false, .bool false, .bool false, .bool false, .bool false, .bool false, .bool false, .bool false, .bool false, .bool false, .bool false, .bool false, .bool false, .bool false, .bool false, .bool false, .bool false, .bool false, .bool false, .bool false, .bool false, .bool false, .bool false, .bool false, .bool false, .bool false, .bool false, .bool false, .bool false, .bool false, .bool false, .bool false, .bool false, .bool false, .bool false, .bool false] 0 (List.take 128 (List.drop 0 l1)))))))
 none)
 none)
 none)
 none)
 none))
theorem K_ref01_turned_52 (j : Jump) (n : Nat) (m52 : Nat) (x0 : Int) (l1 : List AV) : enter (topEnv C (CP C n) n F_ref01_turned) (some j) (bodyOf C.P F_ref01_turned) (endOf C.P F_ref01_turned) [false, false, true, false, true] [(m52 + 1)] (S_ref01_turned_52 x0 l1) = T_ref01_turned_52 (CP C n) x0 l1 (fun x0 l1 => j [false, false, true, false, true] [m52] (S_ref01_turned_52 x0 l1)) := by kernel_rfl
def J_ref01_turned_52 (cp : FuncId → List AV → Option AV) (n : Nat) : Nat → Int → List AV → Option AV
  | 0 => (fun x0 l1 => none)
  | m + 1 => (fun x0 l1 => T_ref01_turned_52 cp x0 l1 (J_ref01_turned_52 cp n m))
theorem Js_ref01_turned_52 (cp : FuncId → List AV → Option AV) (n : Nat) (m : Nat) (x0 : Int) (l1 : List AV) : J_ref01_turned_52 cp n (m + 1) x0 l1 = T_ref01_turned_52 cp x0 l1 (J_ref01_turned_52 cp n m) := of_eq_true (eq_self _)
theorem JE_ref01_turned_52 (n : Nat) : ∀ (m : Nat) (x0 : Int) (l1 : List AV), jT (topEnv C (CP C n) n F_ref01_turned) (bodyOf C.P F_ref01_turned) (endOf C.P F_ref01_turned) [false, false, true, false, true] [m] (S_ref01_turned_52 x0 l1) = J_ref01_turned_52 (CP C n) n m x0 l1
  | 0, x0, l1 => (jT_eq _ _ _ _ _ _).trans (by kernel_rfl)
  | m + 1, x0, l1 => (jT_eq _ _ _ _ _ _).trans ((K_ref01_turned_52 _ n m x0 l1).trans (congrArg (T_ref01_turned_52 (CP C n) x0 l1) (funext fun x0 => (funext fun l1 => (JE_ref01_turned_52 n m) x0 l1))))
def T_ref01_turned_1 (cp : FuncId → List AV → Option AV) (a0 : List AV) (j52 : Int → List AV → Option AV) : Option AV :=
 (j52 0 a0)
theorem K_ref01_turned_1 (j : Jump) (n : Nat) (a0 : List AV) : ex (topEnv C (CP C n) n F_ref01_turned) (some j) (bodyOf C.P F_ref01_turned) 1 [] [] (endOf C.P F_ref01_turned) (startOf C.P F_ref01_turned [.agg a0]) = T_ref01_turned_1 (CP C n) a0 (fun x0 l1 => j [false, false, true, false, true] [(n + 300)] (S_ref01_turned_52 x0 l1)) := by kernel_rfl
def R_ref01_turned (cp : FuncId → List AV → Option AV) (n : Nat) (a0 : List AV) : Option AV := T_ref01_turned_1 cp a0 (J_ref01_turned_52 cp n (n + 300))
theorem eq_ref01_turned (n : Nat) (a0 : List AV) : CP C (n + 1) F_ref01_turned [.agg a0] = cond (AV.pureL [.agg a0]) (R_ref01_turned (CP C n) n a0) none :=
  (CP_run C n F_ref01_turned _ (by kernel_rfl)).trans (congrArg (fun x => cond (AV.pureL [.agg a0]) x none) ((K_ref01_turned_1 _ n a0).trans (congrArg (T_ref01_turned_1 (CP C n) a0) (funext fun x0 => (funext fun l1 => (JE_ref01_turned_52 n (n + 300)) x0 l1)))))
-- ref01_Sub
def R_ref01_Sub (cp : FuncId → List AV → Option AV) (_n : Nat) (a0_0 : Int) (a0_1 : Int) (a1_0 : Int) (a1_1 : Int) : Option AV :=
 ((cp F_ref01_bits [.agg [.int .u64 a0_0, .int .u64 a0_1]]).bind fun r1 =>
 (AV.aggK r1 fun l2 =>
 ((cp F_ref01_bits [.agg [.int .u64 a1_0, .int .u64 a1_1]]).bind fun r3 =>
 (AV.aggK r3 fun l4 =>
 (cond ((AV.pureL l4) && true)
 ((cp F_ref01_turned [.agg l4]).bind fun r5 =>
 (AV.aggK r5 fun l6 =>
 (cond ((AV.pureL l2) && ((AV.pureL l6) && true))
 ((cp F_ref01_sum [.agg l2, .agg l6, .bool true]).bind fun r7 =>
 (AV.tupK r7 fun l8 =>
 (consK l8 fun v9 l10 =>
 (AV.aggK v9 fun l11 =>
 (consK l10 fun v12 l13 =>
 (AV.boolK v12 fun b14 =>
 (nilK l13
 (cond (lenIs l11 128)
 (cond (cellsOk l11)
 (cond (fits 0 128 (splice [.bool false, .bool false, .bool false, .bool false, .bool false, .bool false, .bool false, .bool false, .bool false, .bool false, .bool false, .bool false, .bool false, .bool false, .bool false, .bool false, .bool false, .bool false, .bool false, .bool false, .bool false, .bool false, .bool false, .bool false, .bool false, .bool false, .bool false, .bool false, .bool false, .bool false, .bool false, .bool false, .bool false, .bool false, .bool false, .bool false, .bool false, .bool false, .bool false, .bool false, .bool false, .bool false, .bool false, .bool false, .bool false, .bool false, .bool false, .bool false, .bool false, .bool false, .bool false, .bool false, .bool false, .bool false, .bool false, .bool false, .bool false, .bool false, .bool false, .bool false, .bool false, .bool false, .bool false, .bool false, .bool false, .bool false, .bool false, .bool false, .bool false, .bool false, .bool false, .bool false, .bool false, .bool false, .bool false, .bool false, .bool false, .bool false, .bool false, .bool false, .bool false, .bool false, .bool false, .bool false, .bool false, .bool false, .bool false, .bool false, .bool false, .bool false, .bool false, .bool false, .bool false, .bool false, .bool false, .bool false, .bool false, .bool false, .bool false, .bool false, .bool false, .bool false, .bool false, .bool false, .bool false, .bool false, .bool false, .bool false, .bool false, .bool false, .bool false, .bool false, .bool false, .bool false, .bool false, .bool false, .bool false, .bool false, .bool false, .bool false, .bool false, .bool false, .bool false, .bool false, .bool false, .bool false, .bool false, .bool false] 0 l11))
 (cond ((AV.pureL (List.take 128 (List.drop 0 (splice [.bool false, .bool false, .bool false, .bool false, .bool false, .bool false, .bool false, .bool false, .bool false, .bool false, .bool false, .bool false, .bool false, .bool false, .bool false, .bool false, .bool false, .bool false, .bool false, .bool false, .bool false, .bool false, .bool false, .bool false, .bool false, .bool false, .bool false, .bool false, .bool false, .bool false, .bool false, .bool false, .bool false, .bool false, .bool false, .bool false, .bool false, .bool false, .bool false, .bool false, .bool false, .bool false, .bool false, .bool false, .bool false, .bool false, .bool false, .bool false, .bool false, .bool false, .bool false, .bool false, .bool false, .bool false, .bool false, .bool false, .bool false, .bool false, .bool false, .bool false, .bool false, .bool false, .bool false, .bool false, .bool false, .bool false, .bool false, .bool false, .bool false, .bool false, .bool false, .bool false, .bool false, .bool false, .bool false, .bool false, .bool false, .bool false, .bool false, .bool false, .bool false, .bool false, .bool false, .bool false, .bool false, .bool false, .bool false, .bool false, .bool false, .bool false, .bool false, .bool false, .bool false, .bool false, .bool false, .bool false, .bool false, .bool false, .bool false, .bool false, .bool false, .bool false, .bool false, .bool false, .bool false, .bool false, .bool false, .bool false, .bool false, .bool false, .bool false, .bool false, .bool false, .bool false, .bool false, .bool false, .bool false, .bool false, .bool false, .bool false, .bool false, .bool false, .bool false, .bool false, .bool false, .bool false, .bool false, .bool false] 0 l11)))) && true)
 ((cp F_ref01_wide [.agg (List.take 128 (List.drop 0 (splice [.bool false, .bool false, .bool false, .bool false, .bool false, .bool false, .bool false, .bool false, .bool false, .bool false, .bool false, .bool false, .bool false, .bool false, .bool false, .bool false, .bool false, .bool false, .bool false, .bool false, .bool false, .bool false, .bool false, .bool false, .bool false, .bool false, .bool false, .bool false, .bool false, .bool false, .bool false, .bool false, .bool false, .bool false, .bool false, .bool false, .bool false, .bool false, .bool false, .bool false, .bool false, .bool false, .bool false, .bool false, .bool false, .bool false, .bool false, .bool false, .bool false, .bool false, .bool false, .bool false, .bool false, .bool false, .bool false, .bool false, .bool false, .bool false, .bool false, .bool false, .bool false, .bool false, .bool false, .bool false, .bool false, .bool false, .bool false, .bool false, .bool false, .bool false, .bool false, .bool false, .bool false, .bool false, .bool false, .bool false, .bool false, .bool false, .bool false, .bool false, .bool false, .bool false, .bool false, .bool false, .bool false, .bool false, .bool false, .bool false, .bool false, .bool false, .bool false, .bool false, .bool false, .bool false, .bool false, .bool false, .bool false, .bool false, .bool false, .bool false, .bool false, .bool false, .bool false, .bool false, .bool false, .bool false, .bool false, .bool false, .bool false, .bool false, .bool false, .bool false, .bool false, .bool false, .bool false, .bool false, .bool false, .bool false, .bool false, .bool false, .bool false, .bool false, .bool false, .bool false, .bool false, .bool false, .bool false, .bool false] 0 l11)))]).bind fun r15 =>
 (AV.aggK r15 fun l16 =>
 (consK l16 fun v17 l18 =>
 (AV.intK .u64 v17 fun i19 =>
 (consK l18 fun v20 l21 =>
 (AV.intK .u64 v20 fun i22 =>
 (nilK l21
 (some (.tup [.agg [.int .u64 i19, .int .u64 i22], .bool (!b14)])))))))))
 none)
 none)
 none)
 none))))))))
 none)))
 none)))))
theorem eq_ref01_Sub (n : Nat) (a0_0 : Int) (a0_1 : Int) (a1_0 : Int) (a1_1 : Int) : CP C (n + 1) F_ref01_Sub [.agg [.int .u64 a0_0, .int .u64 a0_1], .agg [.int .u64 a1_0, .int .u64 a1_1]] = R_ref01_Sub (CP C n) n a0_0 a0_1 a1_0 a1_1 := by kernel_rfl
-- ref01_Neg
def R_ref01_Neg (cp : FuncId → List AV → Option AV) (_n : Nat) (a0_0 : Int) (a0_1 : Int) : Option AV :=
 ((cp F_ref01_Sub [.agg [.int .u64 0, .int .u64 0], .agg [.int .u64 a0_0, .int .u64 a0_1]]).bind fun r1 =>
 (AV.tupK r1 fun l2 =>
 (consK l2 fun v3 l4 =>
 (AV.aggK v3 fun l5 =>
 (consK l5 fun v6 l7 =>
 (AV.intK .u64 v6 fun i8 =>
 (consK l7 fun v9 l10 =>
 (AV.intK .u64 v9 fun i11 =>
 (nilK l10
 (consK l4 fun v12 l13 =>
 (AV.boolK v12 fun b14 =>
 (nilK l13
 (some (.agg [.int .u64 i8, .int .u64 i11]))))))))))))))
theorem eq_ref01_Neg (n : Nat) (a0_0 : Int) (a0_1 : Int) : CP C (n + 1) F_ref01_Neg [.agg [.int .u64 a0_0, .int .u64 a0_1]] = R_ref01_Neg (CP C n) n a0_0 a0_1 := by kernel_rfl
-- ref02_times
def R_ref02_times (cp : FuncId → List AV → Option AV) (_n : Nat) (a0 : Int) (a1 : Int) : Option AV :=
 ((cp F_ref02_Amount [.int .i64 a0]).bind fun r1 =>
 (AV.intK .u64 r1 fun i2 =>
 ((cp F_ref02_Amount [.int .i64 a1]).bind fun r3 =>
 (AV.intK .u64 r3 fun i4 =>
 ((cp F_ref01_Mul [.int .u64 i2, .int .u64 i4]).bind fun r5 =>
 (AV.aggK r5 fun l6 =>
 (consK l6 fun v7 l8 =>
 (AV.intK .u64 v7 fun i9 =>
 (consK l8 fun v10 l11 =>
 (AV.intK .u64 v10 fun i12 =>
 (nilK l11
 (cond (!((decide (a0 < 0)) == (decide (a1 < 0))))
 ((cp F_ref01_Neg [.agg [.int .u64 i9, .int .u64 i12]]).bind fun r13 =>
 (AV.aggK r13 fun l14 =>
 (consK l14 fun v15 l16 =>
 (AV.intK .u64 v15 fun i17 =>
 (consK l16 fun v18 l19 =>
 (AV.intK .u64 v18 fun i20 =>
 (nilK l19
 (some (.agg [.int .u64 i17, .int .u64 i20])))))))))
 (some (.agg [.int .u64 i9, .int .u64 i12]))))))))))))))
theorem eq_ref02_times (n : Nat) (a0 : Int) (a1 : Int) : CP C (n + 1) F_ref02_times [.int .i64 a0, .int .i64 a1] = R_ref02_times (CP C n) n a0 a1 := by kernel_rfl
-- ref02_Mul
def R_ref02_Mul (cp : FuncId → List AV → Option AV) (_n : Nat) (a0 : Int) (a1 : Int) : Option AV :=
 ((cp F_ref02_times [.int .i64 a0, .int .i64 a1]).bind fun r1 =>
 (AV.aggK r1 fun l2 =>
 (consK l2 fun v3 l4 =>
 (AV.intK .u64 v3 fun i5 =>
 (consK l4 fun v6 l7 =>
 (AV.intK .u64 v6 fun i8 =>
 (nilK l7
 ((cp F_ref01_Int [.agg [.int .u64 i5, .int .u64 i8]]).bind fun r9 =>
 (AV.tupK r9 fun l10 =>
 (consK l10 fun v11 l12 =>
 (AV.intK .i64 v11 fun i13 =>
 (consK l12 fun v14 l15 =>
 (AV.intK .i64 v14 fun i16 =>
 (nilK l15
 (some (.tup [.int .i64 i13, .int .i64 i16]))))))))))))))))
theorem eq_ref02_Mul (n : Nat) (a0 : Int) (a1 : Int) : CP C (n + 1) F_ref02_Mul [.int .i64 a0, .int .i64 a1] = R_ref02_Mul (CP C n) n a0 a1 := by kernel_rfl
-- ref10_may
def R_ref10_may (cp : FuncId → List AV → Option AV) (_n : Nat) (a0_0 : Int) (a0_1 : Int) (a0_2 : Int) : Option AV :=
 ((cp F_ref10_Check [.agg [.int .i64 a0_0, .int .i64 a0_1, .int .i64 a0_2]]).bind fun r1 =>
 (AV.intK .i64 r1 fun i2 =>
 (cond (i2 != 0)
 (some (.tup [.agg [.int .i64 0, .int .i64 0, .int .i64 0], .int .i64 8]))
 (some (.tup [.agg [.int .i64 a0_0, .int .i64 a0_1, .int .i64 a0_2], .int .i64 0])))))
theorem eq_ref10_may (n : Nat) (a0_0 : Int) (a0_1 : Int) (a0_2 : Int) : CP C (n + 1) F_ref10_may [.agg [.int .i64 a0_0, .int .i64 a0_1, .int .i64 a0_2]] = R_ref10_may (CP C n) n a0_0 a0_1 a0_2 := by kernel_rfl
-- ref10_Mul
def R_ref10_Mul (cp : FuncId → List AV → Option AV) (_n : Nat) (a0_0 : Int) (a0_1 : Int) (a0_2 : Int) (a1 : Int) : Option AV :=
 ((cp F_ref10_Check [.agg [.int .i64 a0_0, .int .i64 a0_1, .int .i64 a0_2]]).bind fun r1 =>
 (AV.intK .i64 r1 fun i2 =>
 (cond (i2 != 0)
 (some (.tup [.agg [.int .i64 0, .int .i64 0, .int .i64 0], .int .i64 8]))
 ((cp F_ref02_Mul [.int .i64 a0_0, .int .i64 a1]).bind fun r3 =>
 (AV.tupK r3 fun l4 =>
 (consK l4 fun v5 l6 =>
 (AV.intK .i64 v5 fun i7 =>
 (consK l6 fun v8 l9 =>
 (AV.intK .i64 v8 fun i10 =>
 (nilK l9
 ((cp F_ref02_Mul [.int .i64 a0_1, .int .i64 a1]).bind fun r11 =>
 (AV.tupK r11 fun l12 =>
 (consK l12 fun v13 l14 =>
 (AV.intK .i64 v13 fun i15 =>
 (consK l14 fun v16 l17 =>
 (AV.intK .i64 v16 fun i18 =>
 (nilK l17
 ((cp F_ref02_Mul [.int .i64 a0_2, .int .i64 a1]).bind fun r19 =>
 (AV.tupK r19 fun l20 =>
 (consK l20 fun v21 l22 =>
 (AV.intK .i64 v21 fun i23 =>
 (consK l22 fun v24 l25 =>
 (AV.intK .i64 v24 fun i26 =>
 (nilK l25
 (cond (i10 != 0)
 (some (.tup [.agg [.int .i64 0, .int .i64 0, .int .i64 0], .int .i64 8]))
 (cond (i18 != 0)
 (some (.tup [.agg [.int .i64 0, .int .i64 0, .int .i64 0], .int .i64 8]))
 (cond (i26 != 0)
 (some (.tup [.agg [.int .i64 0, .int .i64 0, .int .i64 0], .int .i64 8]))
 ((cp F_ref10_may [.agg [.int .i64 i7, .int .i64 i15, .int .i64 i23]]).bind fun r27 =>
 (AV.tupK r27 fun l28 =>
 (consK l28 fun v29 l30 =>
 (AV.aggK v29 fun l31 =>
 (consK l31 fun v32 l33 =>
 (AV.intK .i64 v32 fun i34 =>
 (consK l33 fun v35 l36 =>
 (AV.intK .i64 v35 fun i37 =>
 (consK l36 fun v38 l39 =>
 (AV.intK .i64 v38 fun i40 =>
 (nilK l39
 (consK l30 fun v41 l42 =>
 (AV.intK .i64 v41 fun i43 =>
 (nilK l42
 (some (.tup [.agg [.int .i64 i34, .int .i64 i37, .int .i64 i40], .int .i64 i43])))))))))))))))))))))))))))))))))))))))))))
theorem eq_ref10_Mul (n : Nat) (a0_0 : Int) (a0_1 : Int) (a0_2 : Int) (a1 : Int) : CP C (n + 1) F_ref10_Mul [.agg [.int .i64 a0_0, .int .i64 a0_1, .int .i64 a0_2], .int .i64 a1] = R_ref10_Mul (CP C n) n a0_0 a0_1 a0_2 a1 := by kernel_rfl
-- period_Months
def R_period_Months (cp : FuncId → List AV → Option AV) (_n : Nat) (a0_0 : Int) (a0_1 : Int) (a0_2 : Int) : Option AV :=
 ((cp F_period_Check [.agg [.int .i64 a0_0, .int .i64 a0_1, .int .i64 a0_2]]).bind fun r1 =>
 (AV.intK .i64 r1 fun i2 =>
 (cond (i2 != 0)
 (some (.int .i64 0))
 (some (.int .i64 (IntKind.i64.wrap ((IntKind.i64.wrap (a0_0 * 12)) + a0_1)))))))
theorem eq_period_Months (n : Nat) (a0_0 : Int) (a0_1 : Int) (a0_2 : Int) : CP C (n + 1) F_period_Months [.agg [.int .i64 a0_0, .int .i64 a0_1, .int .i64 a0_2]] = R_period_Months (CP C n) n a0_0 a0_1 a0_2 := by kernel_rfl
-- period_Balance
def R_period_Balance (cp : FuncId → List AV → Option AV) (_n : Nat) (a0_0 : Int) (a0_1 : Int) (a0_2 : Int) : Option AV :=
 ((cp F_period_Check [.agg [.int .i64 a0_0, .int .i64 a0_1, .int .i64 a0_2]]).bind fun r1 =>
 (AV.intK .i64 r1 fun i2 =>
 (cond (i2 != 0)
 (some (.tup [.agg [.int .i64 0, .int .i64 0, .int .i64 0], .int .i64 i2]))
 ((cp F_period_Months [.agg [.int .i64 a0_0, .int .i64 a0_1, .int .i64 a0_2]]).bind fun r3 =>
 (AV.intK .i64 r3 fun i4 =>
 ((cp F_period_whole [.agg [.int .i64 (IntKind.i64.wrap (Int.tdiv i4 12)), .int .i64 (Int.tmod i4 12), .int .i64 a0_2], .int .i64 0]).bind fun r5 =>
 (AV.tupK r5 fun l6 =>
 (consK l6 fun v7 l8 =>
 (AV.aggK v7 fun l9 =>
 (consK l9 fun v10 l11 =>
 (AV.intK .i64 v10 fun i12 =>
 (consK l11 fun v13 l14 =>
 (AV.intK .i64 v13 fun i15 =>
 (consK l14 fun v16 l17 =>
 (AV.intK .i64 v16 fun i18 =>
 (nilK l17
 (consK l8 fun v19 l20 =>
 (AV.intK .i64 v19 fun i21 =>
 (nilK l20
 (some (.tup [.agg [.int .i64 i12, .int .i64 i15, .int .i64 i18], .int .i64 i21])))))))))))))))))))))
theorem eq_period_Balance (n : Nat) (a0_0 : Int) (a0_1 : Int) (a0_2 : Int) : CP C (n + 1) F_period_Balance [.agg [.int .i64 a0_0, .int .i64 a0_1, .int .i64 a0_2]] = R_period_Balance (CP C n) n a0_0 a0_1 a0_2 := by kernel_rfl
-- ref10_Months
def R_ref10_Months (cp : FuncId → List AV → Option AV) (_n : Nat) (a0_0 : Int) (a0_1 : Int) (a0_2 : Int) : Option AV :=
 ((cp F_ref10_Check [.agg [.int .i64 a0_0, .int .i64 a0_1, .int .i64 a0_2]]).bind fun r1 =>
 (AV.intK .i64 r1 fun i2 =>
 (cond (i2 != 0)
 (some (.int .i64 0))
 (some (.int .i64 (IntKind.i64.wrap ((IntKind.i64.wrap (12 * a0_0)) + a0_1)))))))
theorem eq_ref10_Months (n : Nat) (a0_0 : Int) (a0_1 : Int) (a0_2 : Int) : CP C (n + 1) F_ref10_Months [.agg [.int .i64 a0_0, .int .i64 a0_1, .int .i64 a0_2]] = R_ref10_Months (CP C n) n a0_0 a0_1 a0_2 := by kernel_rfl
-- ref10_Balance
def R_ref10_Balance (cp : FuncId → List AV → Option AV) (_n : Nat) (a0_0 : Int) (a0_1 : Int) (a0_2 : Int) : Option AV :=
 ((cp F_ref10_Check [.agg [.int .i64 a0_0, .int .i64 a0_1, .int .i64 a0_2]]).bind fun r1 =>
 (AV.intK .i64 r1 fun i2 =>
 (cond (i2 != 0)
 (some (.tup [.agg [.int .i64 0, .int .i64 0, .int .i64 0], .int .i64 8]))
 ((cp F_ref10_Months [.agg [.int .i64 a0_0, .int .i64 a0_1, .int .i64 a0_2]]).bind fun r3 =>
 (AV.intK .i64 r3 fun i4 =>
 ((cp F_ref10_may [.agg [.int .i64 (IntKind.i64.wrap (Int.tdiv i4 12)), .int .i64 (Int.tmod i4 12), .int .i64 a0_2]]).bind fun r5 =>
 (AV.tupK r5 fun l6 =>
 (consK l6 fun v7 l8 =>
 (AV.aggK v7 fun l9 =>
 (consK l9 fun v10 l11 =>
 (AV.intK .i64 v10 fun i12 =>
 (consK l11 fun v13 l14 =>
 (AV.intK .i64 v13 fun i15 =>
 (consK l14 fun v16 l17 =>
 (AV.intK .i64 v16 fun i18 =>
 (nilK l17
 (consK l8 fun v19 l20 =>
 (AV.intK .i64 v19 fun i21 =>
 (nilK l20
 (some (.tup [.agg [.int .i64 i12, .int .i64 i15, .int .i64 i18], .int .i64 i21])))))))))))))))))))))
theorem eq_ref10_Balance (n : Nat) (a0_0 : Int) (a0_1 : Int) (a0_2 : Int) : CP C (n + 1) F_ref10_Balance [.agg [.int .i64 a0_0, .int .i64 a0_1, .int .i64 a0_2]] = R_ref10_Balance (CP C n) n a0_0 a0_1 a0_2 := by kernel_rfl
-- law10_awake
def R_law10_awake (cp : FuncId → List AV → Option AV) (_n : Nat) : Option AV :=
 ((cp F_period_Balance [.agg [.int .i64 1, .int .i64 (-13), .int .i64 5]]).bind fun r1 =>
 (AV.tupK r1 fun l2 =>
 (consK l2 fun v3 l4 =>
 (AV.aggK v3 fun l5 =>
 (consK l5 fun v6 l7 =>
 (AV.intK .i64 v6 fun i8 =>
 (consK l7 fun v9 l10 =>
 (AV.intK .i64 v9 fun i11 =>
 (consK l10 fun v12 l13 =>
 (AV.intK .i64 v12 fun i14 =>
 (nilK l13
 (consK l4 fun v15 l16 =>
 (AV.intK .i64 v15 fun i17 =>
 (nilK l16
 ((cp F_period_Mul [.agg [.int .i64 0, .int .i64 0, .int .i64 500001], .int .i64 2]).bind fun r18 =>
 (AV.tupK r18 fun l19 =>
 (consK l19 fun v20 l21 =>
 (AV.aggK v20 fun l22 =>
 (consK l22 fun v23 l24 =>
 (AV.intK .i64 v23 fun i25 =>
 (consK l24 fun v26 l27 =>
 (AV.intK .i64 v26 fun i28 =>
 (consK l27 fun v29 l30 =>
 (AV.intK .i64 v29 fun i31 =>
 (nilK l30
 (consK l21 fun v32 l33 =>
 (AV.intK .i64 v32 fun i34 =>
 (nilK l33
 (cond ((i8 == 0) && ((i11 == (-1)) && ((i14 == 5) && true)))
 (cond (i17 == 0)
 (some (.bool (i34 == 8)))
 (some (.bool false)))
 (some (.bool false)))))))))))))))))))))))))))))))
theorem eq_law10_awake (n : Nat) : CP C (n + 1) F_law10_awake [] = R_law10_awake (CP C n) n := by kernel_rfl
-- law10_PeriodTimes
def R_law10_PeriodTimes (cp : FuncId → List AV → Option AV) (_n : Nat) (a0_0 : Int) (a0_1 : Int) (a0_2 : Int) (a1 : Int) : Option AV :=
 ((cp F_period_Mul [.agg [.int .i64 a0_0, .int .i64 a0_1, .int .i64 a0_2], .int .i64 a1]).bind fun r1 =>
 (AV.tupK r1 fun l2 =>
 (consK l2 fun v3 l4 =>
 (AV.aggK v3 fun l5 =>
 (consK l5 fun v6 l7 =>
 (AV.intK .i64 v6 fun i8 =>
 (consK l7 fun v9 l10 =>
 (AV.intK .i64 v9 fun i11 =>
 (consK l10 fun v12 l13 =>
 (AV.intK .i64 v12 fun i14 =>
 (nilK l13
 (consK l4 fun v15 l16 =>
 (AV.intK .i64 v15 fun i17 =>
 (nilK l16
 ((cp F_ref10_Mul [.agg [.int .i64 a0_0, .int .i64 a0_1, .int .i64 a0_2], .int .i64 a1]).bind fun r18 =>
 (AV.tupK r18 fun l19 =>
 (consK l19 fun v20 l21 =>
 (AV.aggK v20 fun l22 =>
 (consK l22 fun v23 l24 =>
 (AV.intK .i64 v23 fun i25 =>
 (consK l24 fun v26 l27 =>
 (AV.intK .i64 v26 fun i28 =>
 (consK l27 fun v29 l30 =>
 (AV.intK .i64 v29 fun i31 =>
 (nilK l30
 (consK l21 fun v32 l33 =>
 (AV.intK .i64 v32 fun i34 =>
 (nilK l33
 ((cp F_period_Balance [.agg [.int .i64 a0_0, .int .i64 a0_1, .int .i64 a0_2]]).bind fun r35 =>
 (AV.tupK r35 fun l36 =>
 (consK l36 fun v37 l38 =>
 (AV.aggK v37 fun l39 =>
 (consK l39 fun v40 l41 =>
 (AV.intK .i64 v40 fun i42 =>
 (consK l41 fun v43 l44 =>
 (AV.intK .i64 v43 fun i45 =>
 (consK l44 fun v46 l47 =>
 (AV.intK .i64 v46 fun i48 =>
 (nilK l47
 (consK l38 fun v49 l50 =>
 (AV.intK .i64 v49 fun i51 =>
 (nilK l50
 ((cp F_ref10_Balance [.agg [.int .i64 a0_0, .int .i64 a0_1, .int .i64 a0_2]]).bind fun r52 =>
 (AV.tupK r52 fun l53 =>
 (consK l53 fun v54 l55 =>
 (AV.aggK v54 fun l56 =>
 (consK l56 fun v57 l58 =>
 (AV.intK .i64 v57 fun i59 =>
 (consK l58 fun v60 l61 =>
 (AV.intK .i64 v60 fun i62 =>
 (consK l61 fun v63 l64 =>
 (AV.intK .i64 v63 fun i65 =>
 (nilK l64
 (consK l55 fun v66 l67 =>
 (AV.intK .i64 v66 fun i68 =>
 (nilK l67
 (cond ((i8 == i25) && ((i11 == i28) && ((i14 == i31) && true)))
 (cond (i17 == i34)
 (cond ((i42 == i59) && ((i45 == i62) && ((i48 == i65) && true)))
 (cond (i51 == i68)
 ((cp F_period_Months [.agg [.int .i64 a0_0, .int .i64 a0_1, .int .i64 a0_2]]).bind fun r69 =>
 (AV.intK .i64 r69 fun i70 =>
 ((cp F_ref10_Months [.agg [.int .i64 a0_0, .int .i64 a0_1, .int .i64 a0_2]]).bind fun r71 =>
 (AV.intK .i64 r71 fun i72 =>
 (cond (i70 == i72)
 ((cp F_law10_awake []).bind fun r73 =>
 (AV.boolK r73 fun b74 =>
 (some (.bool b74))))
 (some (.bool false)))))))
 (some (.bool false)))
 (some (.bool false)))
 (some (.bool false)))
 (some (.bool false)))))))))))))))))))))))))))))))))))))))))))))))))))))))))))
theorem eq_law10_PeriodTimes (n : Nat) (a0_0 : Int) (a0_1 : Int) (a0_2 : Int) (a1 : Int) : CP C (n + 1) F_law10_PeriodTimes [.agg [.int .i64 a0_0, .int .i64 a0_1, .int .i64 a0_2], .int .i64 a1] = R_law10_PeriodTimes (CP C n) n a0_0 a0_1 a0_2 a1 := by kernel_rfl
-- law10_PeriodBalanced
def S_law10_PeriodBalanced_63 (x0 : Int) (b1 : Bool) (x2 : Int) (x3 : Int) (x4 : Int) (x5 : Int) (x6 : Int) (x7 : Int) (x8 : Int) (x9 : Int) (x10 : Int) : St := ⟨[.junk, .ptr (some (0, 0)), .junk, .ptr (some (1, 0)), .junk, .ptr (some (2, 0)), .int .i64 x0, .bool b1, .junk, .junk, .junk, .junk, .junk, .junk, .junk, .junk, .junk, .junk, .junk, .junk, .junk, .junk, .junk, .junk, .junk, .junk, .junk, .junk, .junk, .junk, .junk, .junk, .junk, .junk, .junk, .junk, .junk, .junk, .junk, .junk, .junk, .junk, .junk, .junk, .junk, .junk, .junk, .junk, .junk, .junk, .junk, .junk, .junk, .junk, .junk, .junk, .junk, .junk, .junk, .junk, .junk, .junk, .junk, .junk, .junk, .junk, .junk, .junk, .junk, .junk, .junk, .junk, .junk, .junk, .junk, .junk, .junk, .junk, .junk, .junk, .junk], [.cells 23 [.int .i64 x2, .int .i64 x3, .int .i64 x4], .cells 23 [.int .i64 x5, .int .i64 x6, .int .i64 x7], .cells 23 [.int .i64 x8, .int .i64 x9, .int .i64 x10]]⟩
def S_law10_PeriodBalanced_127 (b0 : Bool) : St := ⟨[.junk, .junk, .bool b0, .junk, .junk, .junk, .junk, .junk, .junk, .junk, .junk, .junk, .junk, .junk, .junk, .junk, .junk, .junk, .junk, .junk, .junk, .junk, .junk, .junk, .junk, .junk, .junk, .junk, .junk, .junk, .junk, .junk, .junk, .junk, .junk, .junk, .junk, .junk, .junk, .junk, .junk, .junk, .junk, .junk, .junk, .junk, .junk, .junk, .junk, .junk, .junk, .junk, .junk, .junk, .junk, .junk, .junk, .junk, .junk, .junk, .junk, .junk, .junk, .junk, .junk, .junk, .junk, .junk, .junk, .junk, .junk, .junk, .junk, .junk, .junk, .junk, .junk, .junk, .junk, .junk, .junk], [.dead, .dead, .dead]⟩
def T_law10_PeriodBalanced_127 (cp : FuncId → List AV → Option AV) (b0 : Bool) : Option AV :=
 (some (.bool b0))
theorem K_law10_PeriodBalanced_127 (j : Jump) (n : Nat) (b0 : Bool) : enter (topEnv C (CP C n) n F_law10_PeriodBalanced) (some j) (bodyOf C.P F_law10_PeriodBalanced) (endOf C.P F_law10_PeriodBalanced) [true, true, true, true, true, true] [] (S_law10_PeriodBalanced_127 b0) = T_law10_PeriodBalanced_127 (CP C n) b0 := by kernel_rfl
def J_law10_PeriodBalanced_127 (cp : FuncId → List AV → Option AV) (n : Nat) (b0 : Bool) : Option AV := T_law10_PeriodBalanced_127 cp b0
theorem JE_law10_PeriodBalanced_127 (n : Nat) (b0 : Bool) : jT (topEnv C (CP C n) n F_law10_PeriodBalanced) (bodyOf C.P F_law10_PeriodBalanced) (endOf C.P F_law10_PeriodBalanced) [true, true, true, true, true, true] [] (S_law10_PeriodBalanced_127 b0) = J_law10_PeriodBalanced_127 (CP C n) n b0 :=
  (jT_eq _ _ _ _ _ _).trans ((K_law10_PeriodBalanced_127 _ n b0).trans (rfl))
def T_law10_PeriodBalanced_63 (cp : FuncId → List AV → Option AV) (x0 : Int) (b1 : Bool) (x2 : Int) (x3 : Int) (x4 : Int) (x5 : Int) (x6 : Int) (x7 : Int) (x8 : Int) (x9 : Int) (x10 : Int) (j127 : Bool → Option AV) : Option AV :=
 (cond ((x8 == x5) && ((x9 == x6) && ((x10 == x7) && true)))
 (cond (x0 == 0)
 ((cp F_period_Months [.agg [.int .i64 x5, .int .i64 x6, .int .i64 x7]]).bind fun r1 =>
 (AV.intK .i64 r1 fun i2 =>
 ((cp F_period_Months [.agg [.int .i64 x2, .int .i64 x3, .int .i64 x4]]).bind fun r3 =>
 (AV.intK .i64 r3 fun i4 =>
 (cond (i2 == i4)
 (cond (x7 == x4)
 (cond b1
 (cond (decide (x6 > (-12)))
 (cond (decide (x6 < 12))
 ((cp F_law10_awake []).bind fun r5 =>
 (AV.boolK r5 fun b6 =>
 (j127 b6)))
 (j127 false))
 (j127 false))
 (j127 false))
 (j127 false))
 (j127 false))))))
 (j127 false))
 (j127 false))
theorem K_law10_PeriodBalanced_63 (j : Jump) (n : Nat) (x0 : Int) (b1 : Bool) (x2 : Int) (x3 : Int) (x4 : Int) (x5 : Int) (x6 : Int) (x7 : Int) (x8 : Int) (x9 : Int) (x10 : Int) : enter (topEnv C (CP C n) n F_law10_PeriodBalanced) (some j) (bodyOf C.P F_law10_PeriodBalanced) (endOf C.P F_law10_PeriodBalanced) [true, true, true, true, true] [] (S_law10_PeriodBalanced_63 x0 b1 x2 x3 x4 x5 x6 x7 x8 x9 x10) = T_law10_PeriodBalanced_63 (CP C n) x0 b1 x2 x3 x4 x5 x6 x7 x8 x9 x10 (fun b0 => j [true, true, true, true, true, true] [] (S_law10_PeriodBalanced_127 b0)) := by kernel_rfl
def J_law10_PeriodBalanced_63 (cp : FuncId → List AV → Option AV) (n : Nat) (x0 : Int) (b1 : Bool) (x2 : Int) (x3 : Int) (x4 : Int) (x5 : Int) (x6 : Int) (x7 : Int) (x8 : Int) (x9 : Int) (x10 : Int) : Option AV := T_law10_PeriodBalanced_63 cp x0 b1 x2 x3 x4 x5 x6 x7 x8 x9 x10 (J_law10_PeriodBalanced_127 cp n)
theorem JE_law10_PeriodBalanced_63 (n : Nat) (x0 : Int) (b1 : Bool) (x2 : Int) (x3 : Int) (x4 : Int) (x5 : Int) (x6 : Int) (x7 : Int) (x8 : Int) (x9 : Int) (x10 : Int) : jT (topEnv C (CP C n) n F_law10_PeriodBalanced) (bodyOf C.P F_law10_PeriodBalanced) (endOf C.P F_law10_PeriodBalanced) [true, true, true, true, true] [] (S_law10_PeriodBalanced_63 x0 b1 x2 x3 x4 x5 x6 x7 x8 x9 x10) = J_law10_PeriodBalanced_63 (CP C n) n x0 b1 x2 x3 x4 x5 x6 x7 x8 x9 x10 :=
  (jT_eq _ _ _ _ _ _).trans ((K_law10_PeriodBalanced_63 _ n x0 b1 x2 x3 x4 x5 x6 x7 x8 x9 x10).trans (congrArg (T_law10_PeriodBalanced_63 (CP C n) x0 b1 x2 x3 x4 x5 x6 x7 x8 x9 x10) (funext fun b0 => (JE_law10_PeriodBalanced_127 n) b0)))
def T_law10_PeriodBalanced_1 (cp : FuncId → List AV → Option AV) (a0_0 : Int) (a0_1 : Int) (a0_2 : Int) (j63 : Int → Bool → Int → Int → Int → Int → Int → Int → Int → Int → Int → Option AV) : Option AV :=
 ((cp F_period_Balance [.agg [.int .i64 a0_0, .int .i64 a0_1, .int .i64 a0_2]]).bind fun r1 =>
 (AV.tupK r1 fun l2 =>
 (consK l2 fun v3 l4 =>
 (AV.aggK v3 fun l5 =>
 (consK l5 fun v6 l7 =>
 (AV.intK .i64 v6 fun i8 =>
 (consK l7 fun v9 l10 =>
 (AV.intK .i64 v9 fun i11 =>
 (consK l10 fun v12 l13 =>
 (AV.intK .i64 v12 fun i14 =>
 (nilK l13
 (consK l4 fun v15 l16 =>
 (AV.intK .i64 v15 fun i17 =>
 (nilK l16
 (cond (i17 != 0)
 (cond ((i8 == 0) && ((i11 == 0) && ((i14 == 0) && true)))
 ((cp F_law10_awake []).bind fun r18 =>
 (AV.boolK r18 fun b19 =>
 (some (.bool b19))))
 (some (.bool false)))
 ((cp F_period_Balance [.agg [.int .i64 i8, .int .i64 i11, .int .i64 i14]]).bind fun r20 =>
 (AV.tupK r20 fun l21 =>
 (consK l21 fun v22 l23 =>
 (AV.aggK v22 fun l24 =>
 (consK l24 fun v25 l26 =>
 (AV.intK .i64 v25 fun i27 =>
 (consK l26 fun v28 l29 =>
 (AV.intK .i64 v28 fun i30 =>
 (consK l29 fun v31 l32 =>
 (AV.intK .i64 v31 fun i33 =>
 (nilK l32
 (consK l23 fun v34 l35 =>
 (AV.intK .i64 v34 fun i36 =>
 (nilK l35
 (cond (decide (i8 ≥ 0))
 (cond (decide (i11 ≥ 0))
 (j63 i36 true a0_0 a0_1 a0_2 i8 i11 i14 i27 i30 i33)
 (cond (decide (i8 ≤ 0))
 (j63 i36 (decide (i11 ≤ 0)) a0_0 a0_1 a0_2 i8 i11 i14 i27 i30 i33)
 (j63 i36 false a0_0 a0_1 a0_2 i8 i11 i14 i27 i30 i33)))
 (cond (decide (i8 ≤ 0))
 (j63 i36 (decide (i11 ≤ 0)) a0_0 a0_1 a0_2 i8 i11 i14 i27 i30 i33)
 (j63 i36 false a0_0 a0_1 a0_2 i8 i11 i14 i27 i30 i33))))))))))))))))))))))))))))))))
theorem K_law10_PeriodBalanced_1 (j : Jump) (n : Nat) (a0_0 : Int) (a0_1 : Int) (a0_2 : Int) : ex (topEnv C (CP C n) n F_law10_PeriodBalanced) (some j) (bodyOf C.P F_law10_PeriodBalanced) 1 [] [] (endOf C.P F_law10_PeriodBalanced) (startOf C.P F_law10_PeriodBalanced [.agg [.int .i64 a0_0, .int .i64 a0_1, .int .i64 a0_2]]) = T_law10_PeriodBalanced_1 (CP C n) a0_0 a0_1 a0_2 (fun x0 b1 x2 x3 x4 x5 x6 x7 x8 x9 x10 => j [true, true, true, true, true] [] (S_law10_PeriodBalanced_63 x0 b1 x2 x3 x4 x5 x6 x7 x8 x9 x10)) := by kernel_rfl
def R_law10_PeriodBalanced (cp : FuncId → List AV → Option AV) (n : Nat) (a0_0 : Int) (a0_1 : Int) (a0_2 : Int) : Option AV := T_law10_PeriodBalanced_1 cp a0_0 a0_1 a0_2 (J_law10_PeriodBalanced_63 cp n)
theorem eq_law10_PeriodBalanced (n : Nat) (a0_0 : Int) (a0_1 : Int) (a0_2 : Int) : CP C (n + 1) F_law10_PeriodBalanced [.agg [.int .i64 a0_0, .int .i64 a0_1, .int .i64 a0_2]] = R_law10_PeriodBalanced (CP C n) n a0_0 a0_1 a0_2 :=
  (CP_pure C n F_law10_PeriodBalanced _ (by kernel_rfl) (by kernel_rfl)).trans ((K_law10_PeriodBalanced_1 _ n a0_0 a0_1 a0_2).trans (congrArg (T_law10_PeriodBalanced_1 (CP C n) a0_0 a0_1 a0_2) (funext fun x0 => (funext fun b1 => (funext fun x2 => (funext fun x3 => (funext fun x4 => (funext fun x5 => (funext fun x6 => (funext fun x7 => (funext fun x8 => (funext fun x9 => (funext fun x10 => (JE_law10_PeriodBalanced_63 n) x0 b1 x2 x3 x4 x5 x6 x7 x8 x9 x10)))))))))))))
-- law10_PeriodUnits
def R_law10_PeriodUnits (cp : FuncId → List AV → Option AV) (_n : Nat) (a0 : Int) (a1 : Int) : Option AV :=
 ((cp F_period_Balance [.agg [.int .i64 (Int.tmod a0 40000), .int .i64 (Int.tmod a1 400000), .int .i64 0]]).bind fun r1 =>
 (AV.tupK r1 fun l2 =>
 (consK l2 fun v3 l4 =>
 (AV.aggK v3 fun l5 =>
 (consK l5 fun v6 l7 =>
 (AV.intK .i64 v6 fun i8 =>
 (consK l7 fun v9 l10 =>
 (AV.intK .i64 v9 fun i11 =>
 (consK l10 fun v12 l13 =>
 (AV.intK .i64 v12 fun i14 =>
 (nilK l13
 (consK l4 fun v15 l16 =>
 (AV.intK .i64 v15 fun i17 =>
 (nilK l16
 ((cp F_period_Months [.agg [.int .i64 (Int.tmod a0 40000), .int .i64 (Int.tmod a1 400000), .int .i64 0]]).bind fun r18 =>
 (AV.intK .i64 r18 fun i19 =>
 ((cp F_period_Balance [.agg [.int .i64 0, .int .i64 i19, .int .i64 0]]).bind fun r20 =>
 (AV.tupK r20 fun l21 =>
 (consK l21 fun v22 l23 =>
 (AV.aggK v22 fun l24 =>
 (consK l24 fun v25 l26 =>
 (AV.intK .i64 v25 fun i27 =>
 (consK l26 fun v28 l29 =>
 (AV.intK .i64 v28 fun i30 =>
 (consK l29 fun v31 l32 =>
 (AV.intK .i64 v31 fun i33 =>
 (nilK l32
 (consK l23 fun v34 l35 =>
 (AV.intK .i64 v34 fun i36 =>
 (nilK l35
 (cond (i17 == 0)
 (cond (i36 == 0)
 (cond ((i8 == i27) && ((i11 == i30) && ((i14 == i33) && true)))
 ((cp F_period_Months [.agg [.int .i64 (Int.tmod a0 40000), .int .i64 (Int.tmod a1 400000), .int .i64 0]]).bind fun r37 =>
 (AV.intK .i64 r37 fun i38 =>
 (bnd (IntKind.i64.wrap ((IntKind.i64.wrap (12 * (Int.tmod a0 40000))) + (Int.tmod a1 400000))) fun y39 =>
 (cond (i38 == y39)
 ((cp F_law10_awake []).bind fun r40 =>
 (AV.boolK r40 fun b41 =>
 (some (.bool b41))))
 (some (.bool false))))))
 (some (.bool false)))
 (some (.bool false)))
 (some (.bool false)))))))))))))))))))))))))))))))))
theorem eq_law10_PeriodUnits (n : Nat) (a0 : Int) (a1 : Int) : CP C (n + 1) F_law10_PeriodUnits [.int .i64 a0, .int .i64 a1] = R_law10_PeriodUnits (CP C n) n a0 a1 := by kernel_rfl
-- period_Add
def R_period_Add (cp : FuncId → List AV → Option AV) (_n : Nat) (a0_0 : Int) (a0_1 : Int) (a0_2 : Int) (a1_0 : Int) (a1_1 : Int) (a1_2 : Int) : Option AV :=
 ((cp F_period_Check [.agg [.int .i64 a0_0, .int .i64 a0_1, .int .i64 a0_2]]).bind fun r1 =>
 (AV.intK .i64 r1 fun i2 =>
 (cond (i2 != 0)
 (some (.tup [.agg [.int .i64 0, .int .i64 0, .int .i64 0], .int .i64 8]))
 ((cp F_period_Check [.agg [.int .i64 a1_0, .int .i64 a1_1, .int .i64 a1_2]]).bind fun r3 =>
 (AV.intK .i64 r3 fun i4 =>
 (cond (i4 != 0)
 (some (.tup [.agg [.int .i64 0, .int .i64 0, .int .i64 0], .int .i64 8]))
 ((cp F_period_apart [.agg [.int .i64 a1_0, .int .i64 a1_1, .int .i64 a1_2]]).bind fun r5 =>
 (AV.aggK r5 fun l6 =>
 (consK l6 fun v7 l8 =>
 (AV.intK .i64 v7 fun i9 =>
 (consK l8 fun v10 l11 =>
 (AV.intK .i64 v10 fun i12 =>
 (consK l11 fun v13 l14 =>
 (AV.intK .i64 v13 fun i15 =>
 (nilK l14
 ((cp F_period_apart [.agg [.int .i64 a0_0, .int .i64 a0_1, .int .i64 a0_2]]).bind fun r16 =>
 (AV.aggK r16 fun l17 =>
 (consK l17 fun v18 l19 =>
 (AV.intK .i64 v18 fun i20 =>
 (consK l19 fun v21 l22 =>
 (AV.intK .i64 v21 fun i23 =>
 (consK l22 fun v24 l25 =>
 (AV.intK .i64 v24 fun i26 =>
 (nilK l25
 ((cp F_period_whole [.agg [.int .i64 (IntKind.i64.wrap (i20 + i9)), .int .i64 (IntKind.i64.wrap (i23 + i12)), .int .i64 (IntKind.i64.wrap (i26 + i15))], .int .i64 0]).bind fun r27 =>
 (AV.tupK r27 fun l28 =>
 (consK l28 fun v29 l30 =>
 (AV.aggK v29 fun l31 =>
 (consK l31 fun v32 l33 =>
 (AV.intK .i64 v32 fun i34 =>
 (consK l33 fun v35 l36 =>
 (AV.intK .i64 v35 fun i37 =>
 (consK l36 fun v38 l39 =>
 (AV.intK .i64 v38 fun i40 =>
 (nilK l39
 (consK l30 fun v41 l42 =>
 (AV.intK .i64 v41 fun i43 =>
 (nilK l42
 (some (.tup [.agg [.int .i64 i34, .int .i64 i37, .int .i64 i40], .int .i64 i43]))))))))))))))))))))))))))))))))))))))))
theorem eq_period_Add (n : Nat) (a0_0 : Int) (a0_1 : Int) (a0_2 : Int) (a1_0 : Int) (a1_1 : Int) (a1_2 : Int) : CP C (n + 1) F_period_Add [.agg [.int .i64 a0_0, .int .i64 a0_1, .int .i64 a0_2], .agg [.int .i64 a1_0, .int .i64 a1_1, .int .i64 a1_2]] = R_period_Add (CP C n) n a0_0 a0_1 a0_2 a1_0 a1_1 a1_2 := by kernel_rfl
-- ref10_Add
def R_ref10_Add (cp : FuncId → List AV → Option AV) (_n : Nat) (a0_0 : Int) (a0_1 : Int) (a0_2 : Int) (a1_0 : Int) (a1_1 : Int) (a1_2 : Int) : Option AV :=
 ((cp F_ref10_Check [.agg [.int .i64 a0_0, .int .i64 a0_1, .int .i64 a0_2]]).bind fun r1 =>
 (AV.intK .i64 r1 fun i2 =>
 (cond (i2 != 0)
 (some (.tup [.agg [.int .i64 0, .int .i64 0, .int .i64 0], .int .i64 8]))
 ((cp F_ref10_Check [.agg [.int .i64 a1_0, .int .i64 a1_1, .int .i64 a1_2]]).bind fun r3 =>
 (AV.intK .i64 r3 fun i4 =>
 (cond (i4 != 0)
 (some (.tup [.agg [.int .i64 0, .int .i64 0, .int .i64 0], .int .i64 8]))
 ((cp F_ref10_may [.agg [.int .i64 (IntKind.i64.wrap (a0_0 + a1_0)), .int .i64 (IntKind.i64.wrap (a0_1 + a1_1)), .int .i64 (IntKind.i64.wrap (a0_2 + a1_2))]]).bind fun r5 =>
 (AV.tupK r5 fun l6 =>
 (consK l6 fun v7 l8 =>
 (AV.aggK v7 fun l9 =>
 (consK l9 fun v10 l11 =>
 (AV.intK .i64 v10 fun i12 =>
 (consK l11 fun v13 l14 =>
 (AV.intK .i64 v13 fun i15 =>
 (consK l14 fun v16 l17 =>
 (AV.intK .i64 v16 fun i18 =>
 (nilK l17
 (consK l8 fun v19 l20 =>
 (AV.intK .i64 v19 fun i21 =>
 (nilK l20
 (some (.tup [.agg [.int .i64 i12, .int .i64 i15, .int .i64 i18], .int .i64 i21]))))))))))))))))))))))
theorem eq_ref10_Add (n : Nat) (a0_0 : Int) (a0_1 : Int) (a0_2 : Int) (a1_0 : Int) (a1_1 : Int) (a1_2 : Int) : CP C (n + 1) F_ref10_Add [.agg [.int .i64 a0_0, .int .i64 a0_1, .int .i64 a0_2], .agg [.int .i64 a1_0, .int .i64 a1_1, .int .i64 a1_2]] = R_ref10_Add (CP C n) n a0_0 a0_1 a0_2 a1_0 a1_1 a1_2 := by kernel_rfl
-- period_Neg
def R_period_Neg (cp : FuncId → List AV → Option AV) (_n : Nat) (a0_0 : Int) (a0_1 : Int) (a0_2 : Int) : Option AV :=
 ((cp F_period_Mul [.agg [.int .i64 a0_0, .int .i64 a0_1, .int .i64 a0_2], .int .i64 (-1)]).bind fun r1 =>
 (AV.tupK r1 fun l2 =>
 (consK l2 fun v3 l4 =>
 (AV.aggK v3 fun l5 =>
 (consK l5 fun v6 l7 =>
 (AV.intK .i64 v6 fun i8 =>
 (consK l7 fun v9 l10 =>
 (AV.intK .i64 v9 fun i11 =>
 (consK l10 fun v12 l13 =>
 (AV.intK .i64 v12 fun i14 =>
 (nilK l13
 (consK l4 fun v15 l16 =>
 (AV.intK .i64 v15 fun i17 =>
 (nilK l16
 (some (.tup [.agg [.int .i64 i8, .int .i64 i11, .int .i64 i14], .int .i64 i17]))))))))))))))))
theorem eq_period_Neg (n : Nat) (a0_0 : Int) (a0_1 : Int) (a0_2 : Int) : CP C (n + 1) F_period_Neg [.agg [.int .i64 a0_0, .int .i64 a0_1, .int .i64 a0_2]] = R_period_Neg (CP C n) n a0_0 a0_1 a0_2 := by kernel_rfl
-- law10_PeriodSums
def R_law10_PeriodSums (cp : FuncId → List AV → Option AV) (_n : Nat) (a0_0 : Int) (a0_1 : Int) (a0_2 : Int) (a1_0 : Int) (a1_1 : Int) (a1_2 : Int) : Option AV :=
 ((cp F_period_Add [.agg [.int .i64 a0_0, .int .i64 a0_1, .int .i64 a0_2], .agg [.int .i64 a1_0, .int .i64 a1_1, .int .i64 a1_2]]).bind fun r1 =>
 (AV.tupK r1 fun l2 =>
 (consK l2 fun v3 l4 =>
 (AV.aggK v3 fun l5 =>
 (consK l5 fun v6 l7 =>
 (AV.intK .i64 v6 fun i8 =>
 (consK l7 fun v9 l10 =>
 (AV.intK .i64 v9 fun i11 =>
 (consK l10 fun v12 l13 =>
 (AV.intK .i64 v12 fun i14 =>
 (nilK l13
 (consK l4 fun v15 l16 =>
 (AV.intK .i64 v15 fun i17 =>
 (nilK l16
 ((cp F_ref10_Add [.agg [.int .i64 a0_0, .int .i64 a0_1, .int .i64 a0_2], .agg [.int .i64 a1_0, .int .i64 a1_1, .int .i64 a1_2]]).bind fun r18 =>
 (AV.tupK r18 fun l19 =>
 (consK l19 fun v20 l21 =>
 (AV.aggK v20 fun l22 =>
 (consK l22 fun v23 l24 =>
 (AV.intK .i64 v23 fun i25 =>
 (consK l24 fun v26 l27 =>
 (AV.intK .i64 v26 fun i28 =>
 (consK l27 fun v29 l30 =>
 (AV.intK .i64 v29 fun i31 =>
 (nilK l30
 (consK l21 fun v32 l33 =>
 (AV.intK .i64 v32 fun i34 =>
 (nilK l33
 ((cp F_period_Neg [.agg [.int .i64 a0_0, .int .i64 a0_1, .int .i64 a0_2]]).bind fun r35 =>
 (AV.tupK r35 fun l36 =>
 (consK l36 fun v37 l38 =>
 (AV.aggK v37 fun l39 =>
 (consK l39 fun v40 l41 =>
 (AV.intK .i64 v40 fun i42 =>
 (consK l41 fun v43 l44 =>
 (AV.intK .i64 v43 fun i45 =>
 (consK l44 fun v46 l47 =>
 (AV.intK .i64 v46 fun i48 =>
 (nilK l47
 (consK l38 fun v49 l50 =>
 (AV.intK .i64 v49 fun i51 =>
 (nilK l50
 ((cp F_ref10_Mul [.agg [.int .i64 a0_0, .int .i64 a0_1, .int .i64 a0_2], .int .i64 (-1)]).bind fun r52 =>
 (AV.tupK r52 fun l53 =>
 (consK l53 fun v54 l55 =>
 (AV.aggK v54 fun l56 =>
 (consK l56 fun v57 l58 =>
 (AV.intK .i64 v57 fun i59 =>
 (consK l58 fun v60 l61 =>
 (AV.intK .i64 v60 fun i62 =>
 (consK l61 fun v63 l64 =>
 (AV.intK .i64 v63 fun i65 =>
 (nilK l64
 (consK l55 fun v66 l67 =>
 (AV.intK .i64 v66 fun i68 =>
 (nilK l67
 (cond ((i8 == i25) && ((i11 == i28) && ((i14 == i31) && true)))
 (cond (i17 == i34)
 (cond ((i42 == i59) && ((i45 == i62) && ((i48 == i65) && true)))
 (cond (i51 == i68)
 ((cp F_period_Check [.agg [.int .i64 a0_0, .int .i64 a0_1, .int .i64 a0_2]]).bind fun r69 =>
 (AV.intK .i64 r69 fun i70 =>
 ((cp F_ref10_Check [.agg [.int .i64 a0_0, .int .i64 a0_1, .int .i64 a0_2]]).bind fun r71 =>
 (AV.intK .i64 r71 fun i72 =>
 (cond (i70 == i72)
 ((cp F_law10_awake []).bind fun r73 =>
 (AV.boolK r73 fun b74 =>
 (some (.bool b74))))
 (some (.bool false)))))))
 (some (.bool false)))
 (some (.bool false)))
 (some (.bool false)))
 (some (.bool false)))))))))))))))))))))))))))))))))))))))))))))))))))))))))))
theorem eq_law10_PeriodSums (n : Nat) (a0_0 : Int) (a0_1 : Int) (a0_2 : Int) (a1_0 : Int) (a1_1 : Int) (a1_2 : Int) : CP C (n + 1) F_law10_PeriodSums [.agg [.int .i64 a0_0, .int .i64 a0_1, .int .i64 a0_2], .agg [.int .i64 a1_0, .int .i64 a1_1, .int .i64 a1_2]] = R_law10_PeriodSums (CP C n) n a0_0 a0_1 a0_2 a1_0 a1_1 a1_2 := by kernel_rfl
-- law10_PeriodBack
def R_law10_PeriodBack (cp : FuncId → List AV → Option AV) (_n : Nat) (a0_0 : Int) (a0_1 : Int) (a0_2 : Int) (a1_0 : Int) (a1_1 : Int) (a1_2 : Int) : Option AV :=
 ((cp F_period_Add [.agg [.int .i64 a0_0, .int .i64 a0_1, .int .i64 a0_2], .agg [.int .i64 a1_0, .int .i64 a1_1, .int .i64 a1_2]]).bind fun r1 =>
 (AV.tupK r1 fun l2 =>
 (consK l2 fun v3 l4 =>
 (AV.aggK v3 fun l5 =>
 (consK l5 fun v6 l7 =>
 (AV.intK .i64 v6 fun i8 =>
 (consK l7 fun v9 l10 =>
 (AV.intK .i64 v9 fun i11 =>
 (consK l10 fun v12 l13 =>
 (AV.intK .i64 v12 fun i14 =>
 (nilK l13
 (consK l4 fun v15 l16 =>
 (AV.intK .i64 v15 fun i17 =>
 (nilK l16
 ((cp F_period_Neg [.agg [.int .i64 a1_0, .int .i64 a1_1, .int .i64 a1_2]]).bind fun r18 =>
 (AV.tupK r18 fun l19 =>
 (consK l19 fun v20 l21 =>
 (AV.aggK v20 fun l22 =>
 (consK l22 fun v23 l24 =>
 (AV.intK .i64 v23 fun i25 =>
 (consK l24 fun v26 l27 =>
 (AV.intK .i64 v26 fun i28 =>
 (consK l27 fun v29 l30 =>
 (AV.intK .i64 v29 fun i31 =>
 (nilK l30
 (consK l21 fun v32 l33 =>
 (AV.intK .i64 v32 fun i34 =>
 (nilK l33
 (cond (i17 != 0)
 ((cp F_law10_awake []).bind fun r35 =>
 (AV.boolK r35 fun b36 =>
 (some (.bool b36))))
 ((cp F_period_Add [.agg [.int .i64 i8, .int .i64 i11, .int .i64 i14], .agg [.int .i64 i25, .int .i64 i28, .int .i64 i31]]).bind fun r37 =>
 (AV.tupK r37 fun l38 =>
 (consK l38 fun v39 l40 =>
 (AV.aggK v39 fun l41 =>
 (consK l41 fun v42 l43 =>
 (AV.intK .i64 v42 fun i44 =>
 (consK l43 fun v45 l46 =>
 (AV.intK .i64 v45 fun i47 =>
 (consK l46 fun v48 l49 =>
 (AV.intK .i64 v48 fun i50 =>
 (nilK l49
 (consK l40 fun v51 l52 =>
 (AV.intK .i64 v51 fun i53 =>
 (nilK l52
 (cond (i34 == 0)
 (cond ((i44 == a0_0) && ((i47 == a0_1) && ((i50 == a0_2) && true)))
 (cond (i53 == 0)
 ((cp F_law10_awake []).bind fun r54 =>
 (AV.boolK r54 fun b55 =>
 (some (.bool b55))))
 (some (.bool false)))
 (some (.bool false)))
 (some (.bool false))))))))))))))))))))))))))))))))))))))))))))))
theorem eq_law10_PeriodBack (n : Nat) (a0_0 : Int) (a0_1 : Int) (a0_2 : Int) (a1_0 : Int) (a1_1 : Int) (a1_2 : Int) : CP C (n + 1) F_law10_PeriodBack [.agg [.int .i64 a0_0, .int .i64 a0_1, .int .i64 a0_2], .agg [.int .i64 a1_0, .int .i64 a1_1, .int .i64 a1_2]] = R_law10_PeriodBack (CP C n) n a0_0 a0_1 a0_2 a1_0 a1_1 a1_2 := by kernel_rfl
end Go.Proofs.Ythanjpmhdbcjbaa.Sim.S
