/- What each function of the program answers, as a plain function, printed by a program of ours. Condition: none beyond what each theorem says. -/

import Derived.Test.YtceigcoipifloaaCfg
set_option maxRecDepth 100000
set_option linter.unusedVariables false
open Go Go.Proofs.Ytceigcoipifloaa.Sim Go.Proofs
namespace Go.Proofs.Ytceigcoipifloaa.Sim.S
-- civil_Leap
def R_civil_Leap (cp : FuncId → List AV → Option AV) (_n : Nat) (a0 : Int) : Option AV :=
 (cond ((Int.tmod a0 4) == 0)
 (cond ((Int.tmod a0 100) != 0)
 (some (.bool true))
 (some (.bool ((Int.tmod a0 400) == 0))))
 (some (.bool ((Int.tmod a0 400) == 0))))
theorem eq_civil_Leap (n : Nat) (a0 : Int) : CP C (n + 1) F_civil_Leap [.int .i64 a0] = R_civil_Leap (CP C n) n a0 := by kernel_rfl
-- civil_months
def R_civil_months (cp : FuncId → List AV → Option AV) (_n : Nat) : Option AV :=
 (some (.agg [.int .i64 0, .int .i64 31, .int .i64 28, .int .i64 31, .int .i64 30, .int .i64 31, .int .i64 30, .int .i64 31, .int .i64 31, .int .i64 30, .int .i64 31, .int .i64 30, .int .i64 31]))
theorem eq_civil_months (n : Nat) : CP C (n + 1) F_civil_months [] = R_civil_months (CP C n) n := by kernel_rfl
-- civil_MonthDays
def S_civil_MonthDays_13 (x0 : Int) (x1 : Int) (b2 : Bool) : St := ⟨[.int .i64 x0, .int .i64 x1, .junk, .junk, .junk, .junk, .junk, .junk, .junk, .junk, .bool b2, .junk, .junk, .junk, .junk, .junk, .junk, .junk, .junk, .junk], []⟩
def S_civil_MonthDays_15 (x0 : Int) : St := ⟨[.junk, .int .i64 x0, .junk, .junk, .junk, .junk, .junk, .junk, .junk, .junk, .junk, .junk, .junk, .junk, .junk, .junk, .junk, .junk, .junk, .junk], []⟩
def T_civil_MonthDays_15 (cp : FuncId → List AV → Option AV) (x0 : Int) : Option AV :=
 ((cp F_civil_months []).bind fun r1 =>
 (AV.aggK r1 fun l2 =>
 (consK l2 fun v3 l4 =>
 (AV.intK .i64 v3 fun i5 =>
 (consK l4 fun v6 l7 =>
 (AV.intK .i64 v6 fun i8 =>
 (consK l7 fun v9 l10 =>
 (AV.intK .i64 v9 fun i11 =>
 (consK l10 fun v12 l13 =>
 (AV.intK .i64 v12 fun i14 =>
 (consK l13 fun v15 l16 =>
 (AV.intK .i64 v15 fun i17 =>
 (consK l16 fun v18 l19 =>
 (AV.intK .i64 v18 fun i20 =>
 (consK l19 fun v21 l22 =>
 (AV.intK .i64 v21 fun i23 =>
 (consK l22 fun v24 l25 =>
 (AV.intK .i64 v24 fun i26 =>
 (consK l25 fun v27 l28 =>
 (AV.intK .i64 v27 fun i29 =>
 (consK l28 fun v30 l31 =>
 (AV.intK .i64 v30 fun i32 =>
 (consK l31 fun v33 l34 =>
 (AV.intK .i64 v33 fun i35 =>
 (consK l34 fun v36 l37 =>
 (AV.intK .i64 v36 fun i38 =>
 (consK l37 fun v39 l40 =>
 (AV.intK .i64 v39 fun i41 =>
 (nilK l40
 (cond ((decide (0 ≤ x0)) && (decide (x0 < 13)))
 (cond (fits ((Int.toNat x0) * 1) 1 [.int .i64 i5, .int .i64 i8, .int .i64 i11, .int .i64 i14, .int .i64 i17, .int .i64 i20, .int .i64 i23, .int .i64 i26, .int .i64 i29, .int .i64 i32, .int .i64 i35, .int .i64 i38, .int .i64 i41])
 (cond (AV.pure (nth [.int .i64 i5, .int .i64 i8, .int .i64 i11, .int .i64 i14, .int .i64 i17, .int .i64 i20, .int .i64 i23, .int .i64 i26, .int .i64 i29, .int .i64 i32, .int .i64 i35, .int .i64 i38, .int .i64 i41] ((Int.toNat x0) * 1)))
 (some ((nth [.int .i64 i5, .int .i64 i8, .int .i64 i11, .int .i64 i14, .int .i64 i17, .int .i64 i20, .int .i64 i23, .int .i64 i26, .int .i64 i29, .int .i64 i32, .int .i64 i35, .int .i64 i38, .int .i64 i41] ((Int.toNat x0) * 1))))
 none)
 none)
 none))))))))))))))))))))))))))))))
theorem K_civil_MonthDays_15 (j : Jump) (n : Nat) (x0 : Int) : enter (topEnv C (CP C n) n F_civil_MonthDays) (some j) (bodyOf C.P F_civil_MonthDays) (endOf C.P F_civil_MonthDays) [true, true, true] [] (S_civil_MonthDays_15 x0) = T_civil_MonthDays_15 (CP C n) x0 := by kernel_rfl
def J_civil_MonthDays_15 (cp : FuncId → List AV → Option AV) (n : Nat) (x0 : Int) : Option AV := T_civil_MonthDays_15 cp x0
theorem JE_civil_MonthDays_15 (n : Nat) (x0 : Int) : jT (topEnv C (CP C n) n F_civil_MonthDays) (bodyOf C.P F_civil_MonthDays) (endOf C.P F_civil_MonthDays) [true, true, true] [] (S_civil_MonthDays_15 x0) = J_civil_MonthDays_15 (CP C n) n x0 :=
  (jT_eq _ _ _ _ _ _).trans ((K_civil_MonthDays_15 _ n x0).trans (rfl))
def T_civil_MonthDays_13 (cp : FuncId → List AV → Option AV) (x0 : Int) (x1 : Int) (b2 : Bool) (j15 : Int → Option AV) : Option AV :=
 (cond b2
 (some (.int .i64 0))
 (cond (x1 == 2)
 ((cp F_civil_Leap [.int .i64 x0]).bind fun r1 =>
 (AV.boolK r1 fun b2 =>
 (cond b2
 (some (.int .i64 29))
 (j15 x1))))
 (j15 x1)))
theorem K_civil_MonthDays_13 (j : Jump) (n : Nat) (x0 : Int) (x1 : Int) (b2 : Bool) : enter (topEnv C (CP C n) n F_civil_MonthDays) (some j) (bodyOf C.P F_civil_MonthDays) (endOf C.P F_civil_MonthDays) [true, false, true] [] (S_civil_MonthDays_13 x0 x1 b2) = T_civil_MonthDays_13 (CP C n) x0 x1 b2 (fun x0 => j [true, true, true] [] (S_civil_MonthDays_15 x0)) := by kernel_rfl
def J_civil_MonthDays_13 (cp : FuncId → List AV → Option AV) (n : Nat) (x0 : Int) (x1 : Int) (b2 : Bool) : Option AV := T_civil_MonthDays_13 cp x0 x1 b2 (J_civil_MonthDays_15 cp n)
theorem JE_civil_MonthDays_13 (n : Nat) (x0 : Int) (x1 : Int) (b2 : Bool) : jT (topEnv C (CP C n) n F_civil_MonthDays) (bodyOf C.P F_civil_MonthDays) (endOf C.P F_civil_MonthDays) [true, false, true] [] (S_civil_MonthDays_13 x0 x1 b2) = J_civil_MonthDays_13 (CP C n) n x0 x1 b2 :=
  (jT_eq _ _ _ _ _ _).trans ((K_civil_MonthDays_13 _ n x0 x1 b2).trans (congrArg (T_civil_MonthDays_13 (CP C n) x0 x1 b2) (funext fun x0 => (JE_civil_MonthDays_15 n) x0)))
def T_civil_MonthDays_1 (cp : FuncId → List AV → Option AV) (a0 : Int) (a1 : Int) (j13 : Int → Int → Bool → Option AV) : Option AV :=
 (cond (decide (a1 < 1))
 (j13 a0 a1 true)
 (j13 a0 a1 (decide (a1 > 12))))
theorem K_civil_MonthDays_1 (j : Jump) (n : Nat) (a0 : Int) (a1 : Int) : ex (topEnv C (CP C n) n F_civil_MonthDays) (some j) (bodyOf C.P F_civil_MonthDays) 1 [] [] (endOf C.P F_civil_MonthDays) (startOf C.P F_civil_MonthDays [.int .i64 a0, .int .i64 a1]) = T_civil_MonthDays_1 (CP C n) a0 a1 (fun x0 x1 b2 => j [true, false, true] [] (S_civil_MonthDays_13 x0 x1 b2)) := by kernel_rfl
def R_civil_MonthDays (cp : FuncId → List AV → Option AV) (n : Nat) (a0 : Int) (a1 : Int) : Option AV := T_civil_MonthDays_1 cp a0 a1 (J_civil_MonthDays_13 cp n)
theorem eq_civil_MonthDays (n : Nat) (a0 : Int) (a1 : Int) : CP C (n + 1) F_civil_MonthDays [.int .i64 a0, .int .i64 a1] = R_civil_MonthDays (CP C n) n a0 a1 :=
  (CP_pure C n F_civil_MonthDays _ (by kernel_rfl) (by kernel_rfl)).trans ((K_civil_MonthDays_1 _ n a0 a1).trans (congrArg (T_civil_MonthDays_1 (CP C n) a0 a1) (funext fun x0 => (funext fun x1 => (funext fun b2 => (JE_civil_MonthDays_13 n) x0 x1 b2)))))
-- civil_Check
def R_civil_Check (cp : FuncId → List AV → Option AV) (_n : Nat) (a0_0 : Int) (a0_1 : Int) (a0_2 : Int) : Option AV :=
 (cond (decide (a0_2 < 1))
 (some (.int .i64 7))
 ((cp F_civil_MonthDays [.int .i64 a0_0, .int .i64 a0_1]).bind fun r1 =>
 (AV.intK .i64 r1 fun i2 =>
 (cond (decide (a0_2 > i2))
 (some (.int .i64 7))
 (cond (decide (a0_0 < (-9999)))
 (some (.int .i64 8))
 (cond (decide (a0_0 > 9999))
 (some (.int .i64 8))
 (some (.int .i64 0))))))))
theorem eq_civil_Check (n : Nat) (a0_0 : Int) (a0_1 : Int) (a0_2 : Int) : CP C (n + 1) F_civil_Check [.agg [.int .i64 a0_0, .int .i64 a0_1, .int .i64 a0_2]] = R_civil_Check (CP C n) n a0_0 a0_1 a0_2 := by kernel_rfl
-- checked_Add
def R_checked_Add (cp : FuncId → List AV → Option AV) (_n : Nat) (a0 : Int) (a1 : Int) : Option AV :=
 (cond (!((decide ((IntKind.i64.wrap (a0 + a1)) > a0)) == (decide (a1 > 0))))
 (cond (a1 != 0)
 (some (.tup [.int .i64 0, .int .i64 8]))
 (some (.tup [.int .i64 (IntKind.i64.wrap (a0 + a1)), .int .i64 0])))
 (some (.tup [.int .i64 (IntKind.i64.wrap (a0 + a1)), .int .i64 0])))
theorem eq_checked_Add (n : Nat) (a0 : Int) (a1 : Int) : CP C (n + 1) F_checked_Add [.int .i64 a0, .int .i64 a1] = R_checked_Add (CP C n) n a0 a1 := by kernel_rfl
-- checked_FloorDiv
def R_checked_FloorDiv (cp : FuncId → List AV → Option AV) (_n : Nat) (a0 : Int) (a1 : Int) : Option AV :=
 (cond (a1 == 0)
 (some (.tup [.int .i64 0, .int .i64 5]))
 (cond (a1 == (-1))
 (cond (a0 == (-9223372036854775808))
 (some (.tup [.int .i64 0, .int .i64 8]))
 (cond (decide (a1 = 0))
 none
 (cond (decide (a1 = 0))
 none
 (cond ((Int.tmod a0 a1) != 0)
 (cond (decide (a0 < 0))
 (cond (decide (a1 < 0))
 (some (.tup [.int .i64 (IntKind.i64.wrap (Int.tdiv a0 a1)), .int .i64 0]))
 (some (.tup [.int .i64 (IntKind.i64.wrap ((IntKind.i64.wrap (Int.tdiv a0 a1)) - 1)), .int .i64 0])))
 (cond (decide (a1 < 0))
 (some (.tup [.int .i64 (IntKind.i64.wrap ((IntKind.i64.wrap (Int.tdiv a0 a1)) - 1)), .int .i64 0]))
 (some (.tup [.int .i64 (IntKind.i64.wrap (Int.tdiv a0 a1)), .int .i64 0]))))
 (some (.tup [.int .i64 (IntKind.i64.wrap (Int.tdiv a0 a1)), .int .i64 0]))))))
 (cond (decide (a1 = 0))
 none
 (cond (decide (a1 = 0))
 none
 (cond ((Int.tmod a0 a1) != 0)
 (cond (decide (a0 < 0))
 (cond (decide (a1 < 0))
 (some (.tup [.int .i64 (IntKind.i64.wrap (Int.tdiv a0 a1)), .int .i64 0]))
 (some (.tup [.int .i64 (IntKind.i64.wrap ((IntKind.i64.wrap (Int.tdiv a0 a1)) - 1)), .int .i64 0])))
 (cond (decide (a1 < 0))
 (some (.tup [.int .i64 (IntKind.i64.wrap ((IntKind.i64.wrap (Int.tdiv a0 a1)) - 1)), .int .i64 0]))
 (some (.tup [.int .i64 (IntKind.i64.wrap (Int.tdiv a0 a1)), .int .i64 0]))))
 (some (.tup [.int .i64 (IntKind.i64.wrap (Int.tdiv a0 a1)), .int .i64 0])))))))
theorem eq_checked_FloorDiv (n : Nat) (a0 : Int) (a1 : Int) : CP C (n + 1) F_checked_FloorDiv [.int .i64 a0, .int .i64 a1] = R_checked_FloorDiv (CP C n) n a0 a1 := by kernel_rfl
-- checked_FloorMod
def R_checked_FloorMod (cp : FuncId → List AV → Option AV) (_n : Nat) (a0 : Int) (a1 : Int) : Option AV :=
 (cond (a1 == 0)
 (some (.tup [.int .i64 0, .int .i64 5]))
 (cond (a1 == (-1))
 (some (.tup [.int .i64 0, .int .i64 0]))
 (cond (decide (a1 = 0))
 none
 (cond ((Int.tmod a0 a1) != 0)
 (cond (decide ((Int.tmod a0 a1) < 0))
 (cond (decide (a1 < 0))
 (some (.tup [.int .i64 (Int.tmod a0 a1), .int .i64 0]))
 (some (.tup [.int .i64 (IntKind.i64.wrap ((Int.tmod a0 a1) + a1)), .int .i64 0])))
 (cond (decide (a1 < 0))
 (some (.tup [.int .i64 (IntKind.i64.wrap ((Int.tmod a0 a1) + a1)), .int .i64 0]))
 (some (.tup [.int .i64 (Int.tmod a0 a1), .int .i64 0]))))
 (some (.tup [.int .i64 (Int.tmod a0 a1), .int .i64 0]))))))
theorem eq_checked_FloorMod (n : Nat) (a0 : Int) (a1 : Int) : CP C (n + 1) F_checked_FloorMod [.int .i64 a0, .int .i64 a1] = R_checked_FloorMod (CP C n) n a0 a1 := by kernel_rfl
-- months_clamp_late
def R_months_clamp_late (cp : FuncId → List AV → Option AV) (_n : Nat) (a1_0 : Int) (a1_1 : Int) (a1_2 : Int) (a2 : Int) : Option AV :=
 (some (.tup [.agg [.int .i64 a1_0, .int .i64 a1_1, .int .i64 a2], .int .i64 0]))
theorem eq_months_clamp_late (n : Nat) (a1_0 : Int) (a1_1 : Int) (a1_2 : Int) (a2 : Int) : CP C (n + 1) F_months_clamp_late [.agg [], .agg [.int .i64 a1_0, .int .i64 a1_1, .int .i64 a1_2], .int .i64 a2] = R_months_clamp_late (CP C n) n a1_0 a1_1 a1_2 a2 := by kernel_rfl
-- months_reject_late
def R_months_reject_late (cp : FuncId → List AV → Option AV) (_n : Nat) (a1_0 : Int) (a1_1 : Int) (a1_2 : Int) (a2 : Int) : Option AV :=
 (some (.tup [.agg [.int .i64 0, .int .i64 0, .int .i64 0], .int .i64 7]))
theorem eq_months_reject_late (n : Nat) (a1_0 : Int) (a1_1 : Int) (a1_2 : Int) (a2 : Int) : CP C (n + 1) F_months_reject_late [.agg [], .agg [.int .i64 a1_0, .int .i64 a1_1, .int .i64 a1_2], .int .i64 a2] = R_months_reject_late (CP C n) n a1_0 a1_1 a1_2 a2 := by kernel_rfl
-- months_Add
def S_months_Add_493 (x0 : Int) : St := ⟨[.junk, .junk, .junk, .junk, .junk, .junk, .ptr (some (1, 0)), .int .i64 x0, .junk, .junk, .junk, .junk, .junk, .junk, .junk, .junk, .junk, .junk, .junk, .junk, .junk, .junk, .junk, .junk, .junk, .junk, .junk, .junk, .junk, .junk, .junk, .junk, .junk, .junk, .junk, .junk, .junk, .junk, .junk, .junk, .junk, .junk, .junk, .junk, .junk, .junk, .junk, .junk, .junk, .junk, .junk, .junk, .junk, .junk, .junk, .junk, .junk, .junk, .junk, .junk, .junk, .junk, .junk, .junk, .junk, .junk, .junk, .junk, .junk, .junk, .junk, .junk, .junk, .junk, .junk, .junk, .junk, .junk, .junk, .junk, .junk], [.dead, .cells 23 [.int .i64 0, .int .i64 0, .int .i64 0]]⟩
def S_months_Add_1013 (x0 : Int) : St := ⟨[.junk, .junk, .junk, .junk, .junk, .junk, .ptr (some (1, 0)), .int .i64 x0, .junk, .junk, .junk, .junk, .junk, .junk, .junk, .junk, .junk, .junk, .junk, .junk, .junk, .junk, .junk, .junk, .junk, .junk, .junk, .junk, .junk, .junk, .junk, .junk, .junk, .junk, .junk, .junk, .junk, .junk, .junk, .junk, .junk, .junk, .junk, .junk, .junk, .junk, .junk, .junk, .junk, .junk, .junk, .junk, .junk, .junk, .junk, .junk, .junk, .junk, .junk, .junk, .junk, .junk, .junk, .junk, .junk, .junk, .junk, .junk, .junk, .junk, .junk, .junk, .junk, .junk, .junk, .junk, .junk, .junk, .junk, .junk, .junk], [.dead, .cells 23 [.int .i64 0, .int .i64 0, .int .i64 0]]⟩
def S_months_Add_16373 : St := ⟨[.junk, .junk, .junk, .junk, .junk, .junk, .ptr (some (1, 0)), .int .i64 8, .junk, .junk, .junk, .junk, .junk, .junk, .junk, .junk, .junk, .junk, .junk, .junk, .junk, .junk, .junk, .junk, .junk, .junk, .junk, .junk, .junk, .junk, .junk, .junk, .junk, .junk, .junk, .junk, .junk, .junk, .junk, .junk, .junk, .junk, .junk, .junk, .junk, .junk, .junk, .junk, .junk, .junk, .junk, .junk, .junk, .junk, .junk, .junk, .junk, .junk, .junk, .junk, .junk, .junk, .junk, .junk, .junk, .junk, .junk, .junk, .junk, .junk, .junk, .junk, .junk, .junk, .junk, .junk, .junk, .junk, .junk, .junk, .junk], [.dead, .cells 23 [.int .i64 0, .int .i64 0, .int .i64 0]]⟩
def S_months_Add_65517 (x0 : Int) (x1 : Int) (x2 : Int) (x3 : Int) : St := ⟨[.junk, .junk, .junk, .junk, .junk, .junk, .ptr (some (1, 0)), .int .i64 x0, .junk, .junk, .junk, .junk, .junk, .junk, .junk, .junk, .junk, .junk, .junk, .junk, .junk, .junk, .junk, .junk, .junk, .junk, .junk, .junk, .junk, .junk, .junk, .junk, .junk, .junk, .junk, .junk, .junk, .junk, .junk, .junk, .junk, .junk, .junk, .junk, .junk, .junk, .junk, .junk, .junk, .junk, .junk, .junk, .junk, .junk, .junk, .junk, .junk, .junk, .junk, .junk, .junk, .junk, .junk, .junk, .junk, .junk, .junk, .junk, .junk, .junk, .junk, .junk, .junk, .junk, .junk, .junk, .junk, .junk, .junk, .junk, .junk], [.dead, .cells 23 [.int .i64 x1, .int .i64 x2, .int .i64 x3]]⟩
def S_months_Add_4095 (x0 : Int) (x1 : Int) (x2 : Int) : St := ⟨[.junk, .junk, .junk, .ptr (some (0, 0)), .junk, .junk, .ptr (some (1, 0)), .junk, .junk, .junk, .junk, .junk, .junk, .junk, .junk, .junk, .junk, .junk, .junk, .junk, .junk, .junk, .junk, .junk, .junk, .junk, .junk, .junk, .junk, .junk, .junk, .junk, .junk, .junk, .junk, .junk, .junk, .junk, .junk, .junk, .junk, .junk, .junk, .junk, .junk, .junk, .junk, .junk, .junk, .junk, .junk, .junk, .junk, .junk, .junk, .junk, .junk, .junk, .junk, .junk, .junk, .junk, .junk, .junk, .junk, .junk, .junk, .junk, .junk, .junk, .junk, .junk, .junk, .junk, .junk, .junk, .junk, .junk, .junk, .junk, .junk], [.cells 23 [.int .i64 x0, .int .i64 x1, .int .i64 x2], .cells 23 [.int .i64 0, .int .i64 0, .int .i64 0]]⟩
def T_months_Add_493 (cp : FuncId → List AV → Option AV) (x0 : Int) : Option AV :=
 (some (.tup [.agg [.int .i64 0, .int .i64 0, .int .i64 0], .int .i64 x0]))
theorem K_months_Add_493 (j : Jump) (n : Nat) (x0 : Int) : enter (topEnv C (CP C n) n F_months_Add) (some j) (bodyOf C.P F_months_Add) (endOf C.P F_months_Add) [true, false, true, true, false, true, true, true] [] (S_months_Add_493 x0) = T_months_Add_493 (CP C n) x0 := by kernel_rfl
def J_months_Add_493 (cp : FuncId → List AV → Option AV) (n : Nat) (x0 : Int) : Option AV := T_months_Add_493 cp x0
theorem JE_months_Add_493 (n : Nat) (x0 : Int) : jT (topEnv C (CP C n) n F_months_Add) (bodyOf C.P F_months_Add) (endOf C.P F_months_Add) [true, false, true, true, false, true, true, true] [] (S_months_Add_493 x0) = J_months_Add_493 (CP C n) n x0 :=
  (jT_eq _ _ _ _ _ _).trans ((K_months_Add_493 _ n x0).trans (rfl))
def T_months_Add_1013 (cp : FuncId → List AV → Option AV) (x0 : Int) : Option AV :=
 (some (.tup [.agg [.int .i64 0, .int .i64 0, .int .i64 0], .int .i64 x0]))
theorem K_months_Add_1013 (j : Jump) (n : Nat) (x0 : Int) : enter (topEnv C (CP C n) n F_months_Add) (some j) (bodyOf C.P F_months_Add) (endOf C.P F_months_Add) [true, false, true, false, true, true, true, true, true] [] (S_months_Add_1013 x0) = T_months_Add_1013 (CP C n) x0 := by kernel_rfl
def J_months_Add_1013 (cp : FuncId → List AV → Option AV) (n : Nat) (x0 : Int) : Option AV := T_months_Add_1013 cp x0
theorem JE_months_Add_1013 (n : Nat) (x0 : Int) : jT (topEnv C (CP C n) n F_months_Add) (bodyOf C.P F_months_Add) (endOf C.P F_months_Add) [true, false, true, false, true, true, true, true, true] [] (S_months_Add_1013 x0) = J_months_Add_1013 (CP C n) n x0 :=
  (jT_eq _ _ _ _ _ _).trans ((K_months_Add_1013 _ n x0).trans (rfl))
def T_months_Add_16373 (cp : FuncId → List AV → Option AV) : Option AV :=
 (some (.tup [.agg [.int .i64 0, .int .i64 0, .int .i64 0], .int .i64 8]))
theorem K_months_Add_16373 (j : Jump) (n : Nat) : enter (topEnv C (CP C n) n F_months_Add) (some j) (bodyOf C.P F_months_Add) (endOf C.P F_months_Add) [true, false, true, false, true, true, true, true, true, true, true, true, true] [] (S_months_Add_16373) = T_months_Add_16373 (CP C n) := by kernel_rfl
def J_months_Add_16373 (cp : FuncId → List AV → Option AV) (n : Nat) : Option AV := T_months_Add_16373 cp
theorem JE_months_Add_16373 (n : Nat) : jT (topEnv C (CP C n) n F_months_Add) (bodyOf C.P F_months_Add) (endOf C.P F_months_Add) [true, false, true, false, true, true, true, true, true, true, true, true, true] [] (S_months_Add_16373) = J_months_Add_16373 (CP C n) n :=
  (jT_eq _ _ _ _ _ _).trans ((K_months_Add_16373 _ n).trans (rfl))
def T_months_Add_65517 (cp : FuncId → List AV → Option AV) (x0 : Int) (x1 : Int) (x2 : Int) (x3 : Int) : Option AV :=
 (some (.tup [.agg [.int .i64 x1, .int .i64 x2, .int .i64 x3], .int .i64 x0]))
theorem K_months_Add_65517 (j : Jump) (n : Nat) (x0 : Int) (x1 : Int) (x2 : Int) (x3 : Int) : enter (topEnv C (CP C n) n F_months_Add) (some j) (bodyOf C.P F_months_Add) (endOf C.P F_months_Add) [true, false, true, true, false, true, true, true, true, true, true, true, true, true, true] [] (S_months_Add_65517 x0 x1 x2 x3) = T_months_Add_65517 (CP C n) x0 x1 x2 x3 := by kernel_rfl
def J_months_Add_65517 (cp : FuncId → List AV → Option AV) (n : Nat) (x0 : Int) (x1 : Int) (x2 : Int) (x3 : Int) : Option AV := T_months_Add_65517 cp x0 x1 x2 x3
theorem JE_months_Add_65517 (n : Nat) (x0 : Int) (x1 : Int) (x2 : Int) (x3 : Int) : jT (topEnv C (CP C n) n F_months_Add) (bodyOf C.P F_months_Add) (endOf C.P F_months_Add) [true, false, true, true, false, true, true, true, true, true, true, true, true, true, true] [] (S_months_Add_65517 x0 x1 x2 x3) = J_months_Add_65517 (CP C n) n x0 x1 x2 x3 :=
  (jT_eq _ _ _ _ _ _).trans ((K_months_Add_65517 _ n x0 x1 x2 x3).trans (rfl))
def T_months_Add_4095 (cp : FuncId → List AV → Option AV) (x0 : Int) (x1 : Int) (x2 : Int) : Option AV :=
 (some (.tup [.agg [.int .i64 x0, .int .i64 x1, .int .i64 x2], .int .i64 0]))
theorem K_months_Add_4095 (j : Jump) (n : Nat) (x0 : Int) (x1 : Int) (x2 : Int) : enter (topEnv C (CP C n) n F_months_Add) (some j) (bodyOf C.P F_months_Add) (endOf C.P F_months_Add) [true, true, true, true, true, true, true, true, true, true, true] [] (S_months_Add_4095 x0 x1 x2) = T_months_Add_4095 (CP C n) x0 x1 x2 := by kernel_rfl
def J_months_Add_4095 (cp : FuncId → List AV → Option AV) (n : Nat) (x0 : Int) (x1 : Int) (x2 : Int) : Option AV := T_months_Add_4095 cp x0 x1 x2
theorem JE_months_Add_4095 (n : Nat) (x0 : Int) (x1 : Int) (x2 : Int) : jT (topEnv C (CP C n) n F_months_Add) (bodyOf C.P F_months_Add) (endOf C.P F_months_Add) [true, true, true, true, true, true, true, true, true, true, true] [] (S_months_Add_4095 x0 x1 x2) = J_months_Add_4095 (CP C n) n x0 x1 x2 :=
  (jT_eq _ _ _ _ _ _).trans ((K_months_Add_4095 _ n x0 x1 x2).trans (rfl))
def T_months_Add_1 (cp : FuncId → List AV → Option AV) (a0_0 : Int) (a0_1 : Int) (a0_2 : Int) (a1 : Int) (a2 : Int) (j493 : Int → Option AV) (j1013 : Int → Option AV) (j16373 : Option AV) (j65517 : Int → Int → Int → Int → Option AV) (j4095 : Int → Int → Int → Option AV) : Option AV :=
 (cond (a2 == 0)
 ((cp F_civil_Check [.agg [.int .i64 a0_0, .int .i64 a0_1, .int .i64 a0_2]]).bind fun r1 =>
 (AV.intK .i64 r1 fun i2 =>
 (cond (i2 != 0)
 (j493 i2)
 (bnd (IntKind.i64.wrap ((IntKind.i64.wrap ((IntKind.i64.wrap (a0_0 * 12)) + a0_1)) - 1)) fun y3 =>
 ((cp F_checked_Add [.int .i64 y3, .int .i64 a1]).bind fun r4 =>
 (AV.tupK r4 fun l5 =>
 (consK l5 fun v6 l7 =>
 (AV.intK .i64 v6 fun i8 =>
 (consK l7 fun v9 l10 =>
 (AV.intK .i64 v9 fun i11 =>
 (nilK l10
 (cond (i11 != 0)
 (j1013 i11)
 ((cp F_checked_FloorDiv [.int .i64 i8, .int .i64 12]).bind fun r12 =>
 (AV.tupK r12 fun l13 =>
 (consK l13 fun v14 l15 =>
 (AV.intK .i64 v14 fun i16 =>
 (consK l15 fun v17 l18 =>
 (AV.intK .i64 v17 fun i19 =>
 (nilK l18
 ((cp F_checked_FloorMod [.int .i64 i8, .int .i64 12]).bind fun r20 =>
 (AV.tupK r20 fun l21 =>
 (consK l21 fun v22 l23 =>
 (AV.intK .i64 v22 fun i24 =>
 (consK l23 fun v25 l26 =>
 (AV.intK .i64 v25 fun i27 =>
 (nilK l26
 (cond (decide (i16 < (-9999)))
 (j16373)
 (cond (decide (i16 > 9999))
 (j16373)
 ((cp F_civil_MonthDays [.int .i64 i16, .int .i64 (IntKind.i64.wrap (i24 + 1))]).bind fun r28 =>
 (AV.intK .i64 r28 fun i29 =>
 (cond (decide (a0_2 > i29))
 ((cp F_months_clamp_late [.agg [], .agg [.int .i64 i16, .int .i64 (IntKind.i64.wrap (i24 + 1)), .int .i64 a0_2], .int .i64 i29]).bind fun r30 =>
 (AV.tupK r30 fun l31 =>
 (consK l31 fun v32 l33 =>
 (AV.aggK v32 fun l34 =>
 (consK l34 fun v35 l36 =>
 (AV.intK .i64 v35 fun i37 =>
 (consK l36 fun v38 l39 =>
 (AV.intK .i64 v38 fun i40 =>
 (consK l39 fun v41 l42 =>
 (AV.intK .i64 v41 fun i43 =>
 (nilK l42
 (consK l33 fun v44 l45 =>
 (AV.intK .i64 v44 fun i46 =>
 (nilK l45
 (j65517 i46 i37 i40 i43)))))))))))))))
 (j4095 i16 (IntKind.i64.wrap (i24 + 1)) a0_2))))))))))))))))))))))))))))))))
 (cond (a2 == 1)
 ((cp F_civil_Check [.agg [.int .i64 a0_0, .int .i64 a0_1, .int .i64 a0_2]]).bind fun r47 =>
 (AV.intK .i64 r47 fun i48 =>
 (cond (i48 != 0)
 (j493 i48)
 (bnd (IntKind.i64.wrap ((IntKind.i64.wrap ((IntKind.i64.wrap (a0_0 * 12)) + a0_1)) - 1)) fun y49 =>
 ((cp F_checked_Add [.int .i64 y49, .int .i64 a1]).bind fun r50 =>
 (AV.tupK r50 fun l51 =>
 (consK l51 fun v52 l53 =>
 (AV.intK .i64 v52 fun i54 =>
 (consK l53 fun v55 l56 =>
 (AV.intK .i64 v55 fun i57 =>
 (nilK l56
 (cond (i57 != 0)
 (j1013 i57)
 ((cp F_checked_FloorDiv [.int .i64 i54, .int .i64 12]).bind fun r58 =>
 (AV.tupK r58 fun l59 =>
 (consK l59 fun v60 l61 =>
 (AV.intK .i64 v60 fun i62 =>
 (consK l61 fun v63 l64 =>
 (AV.intK .i64 v63 fun i65 =>
 (nilK l64
 ((cp F_checked_FloorMod [.int .i64 i54, .int .i64 12]).bind fun r66 =>
 (AV.tupK r66 fun l67 =>
 (consK l67 fun v68 l69 =>
 (AV.intK .i64 v68 fun i70 =>
 (consK l69 fun v71 l72 =>
 (AV.intK .i64 v71 fun i73 =>
 (nilK l72
 (cond (decide (i62 < (-9999)))
 (j16373)
 (cond (decide (i62 > 9999))
 (j16373)
 ((cp F_civil_MonthDays [.int .i64 i62, .int .i64 (IntKind.i64.wrap (i70 + 1))]).bind fun r74 =>
 (AV.intK .i64 r74 fun i75 =>
 (cond (decide (a0_2 > i75))
 ((cp F_months_reject_late [.agg [], .agg [.int .i64 i62, .int .i64 (IntKind.i64.wrap (i70 + 1)), .int .i64 a0_2], .int .i64 i75]).bind fun r76 =>
 (AV.tupK r76 fun l77 =>
 (consK l77 fun v78 l79 =>
 (AV.aggK v78 fun l80 =>
 (consK l80 fun v81 l82 =>
 (AV.intK .i64 v81 fun i83 =>
 (consK l82 fun v84 l85 =>
 (AV.intK .i64 v84 fun i86 =>
 (consK l85 fun v87 l88 =>
 (AV.intK .i64 v87 fun i89 =>
 (nilK l88
 (consK l79 fun v90 l91 =>
 (AV.intK .i64 v90 fun i92 =>
 (nilK l91
 (j65517 i92 i83 i86 i89)))))))))))))))
 (j4095 i62 (IntKind.i64.wrap (i70 + 1)) a0_2))))))))))))))))))))))))))))))))
 (some (.tup [.agg [.int .i64 0, .int .i64 0, .int .i64 0], .int .i64 5]))))
theorem K_months_Add_1 (j : Jump) (n : Nat) (a0_0 : Int) (a0_1 : Int) (a0_2 : Int) (a1 : Int) (a2 : Int) : ex (topEnv C (CP C n) n F_months_Add) (some j) (bodyOf C.P F_months_Add) 1 [] [] (endOf C.P F_months_Add) (startOf C.P F_months_Add [.agg [.int .i64 a0_0, .int .i64 a0_1, .int .i64 a0_2], .int .i64 a1, .int .i64 a2]) = T_months_Add_1 (CP C n) a0_0 a0_1 a0_2 a1 a2 (fun x0 => j [true, false, true, true, false, true, true, true] [] (S_months_Add_493 x0)) (fun x0 => j [true, false, true, false, true, true, true, true, true] [] (S_months_Add_1013 x0)) (j [true, false, true, false, true, true, true, true, true, true, true, true, true] [] (S_months_Add_16373)) (fun x0 x1 x2 x3 => j [true, false, true, true, false, true, true, true, true, true, true, true, true, true, true] [] (S_months_Add_65517 x0 x1 x2 x3)) (fun x0 x1 x2 => j [true, true, true, true, true, true, true, true, true, true, true] [] (S_months_Add_4095 x0 x1 x2)) := by kernel_rfl
def R_months_Add (cp : FuncId → List AV → Option AV) (n : Nat) (a0_0 : Int) (a0_1 : Int) (a0_2 : Int) (a1 : Int) (a2 : Int) : Option AV := T_months_Add_1 cp a0_0 a0_1 a0_2 a1 a2 (J_months_Add_493 cp n) (J_months_Add_1013 cp n) (J_months_Add_16373 cp n) (J_months_Add_65517 cp n) (J_months_Add_4095 cp n)
theorem eq_months_Add (n : Nat) (a0_0 : Int) (a0_1 : Int) (a0_2 : Int) (a1 : Int) (a2 : Int) : CP C (n + 1) F_months_Add [.agg [.int .i64 a0_0, .int .i64 a0_1, .int .i64 a0_2], .int .i64 a1, .int .i64 a2] = R_months_Add (CP C n) n a0_0 a0_1 a0_2 a1 a2 :=
  (CP_pure C n F_months_Add _ (by kernel_rfl) (by kernel_rfl)).trans ((K_months_Add_1 _ n a0_0 a0_1 a0_2 a1 a2).trans (congr (congr (congr (congr (congrArg (T_months_Add_1 (CP C n) a0_0 a0_1 a0_2 a1 a2) (funext fun x0 => (JE_months_Add_493 n) x0)) (funext fun x0 => (JE_months_Add_1013 n) x0)) ((JE_months_Add_16373 n))) (funext fun x0 => (funext fun x1 => (funext fun x2 => (funext fun x3 => (JE_months_Add_65517 n) x0 x1 x2 x3))))) (funext fun x0 => (funext fun x1 => (funext fun x2 => (JE_months_Add_4095 n) x0 x1 x2)))))
-- cmp_isNaN_int
def R_cmp_isNaN_int (cp : FuncId → List AV → Option AV) (_n : Nat) (a0 : Int) : Option AV :=
 (some (.bool (a0 != a0)))
theorem eq_cmp_isNaN_int (n : Nat) (a0 : Int) : CP C (n + 1) F_cmp_isNaN_int [.int .i64 a0] = R_cmp_isNaN_int (CP C n) n a0 := by kernel_rfl
-- cmp_Compare_int
def R_cmp_Compare_int (cp : FuncId → List AV → Option AV) (_n : Nat) (a0 : Int) (a1 : Int) : Option AV :=
 ((cp F_cmp_isNaN_int [.int .i64 a0]).bind fun r1 =>
 (AV.boolK r1 fun b2 =>
 ((cp F_cmp_isNaN_int [.int .i64 a1]).bind fun r3 =>
 (AV.boolK r3 fun b4 =>
 (cond b2
 (cond b4
 (some (.int .i64 0))
 (some (.int .i64 (-1))))
 (cond b4
 (some (.int .i64 1))
 (cond (decide (a0 < a1))
 (some (.int .i64 (-1)))
 (cond (decide (a0 > a1))
 (some (.int .i64 1))
 (some (.int .i64 0))))))))))
theorem eq_cmp_Compare_int (n : Nat) (a0 : Int) (a1 : Int) : CP C (n + 1) F_cmp_Compare_int [.int .i64 a0, .int .i64 a1] = R_cmp_Compare_int (CP C n) n a0 a1 := by kernel_rfl
-- civil_Cmp
def R_civil_Cmp (cp : FuncId → List AV → Option AV) (_n : Nat) (a0_0 : Int) (a0_1 : Int) (a0_2 : Int) (a1_0 : Int) (a1_1 : Int) (a1_2 : Int) : Option AV :=
 ((cp F_cmp_Compare_int [.int .i64 a0_0, .int .i64 a1_0]).bind fun r1 =>
 (AV.intK .i64 r1 fun i2 =>
 ((cp F_cmp_Compare_int [.int .i64 a0_1, .int .i64 a1_1]).bind fun r3 =>
 (AV.intK .i64 r3 fun i4 =>
 ((cp F_cmp_Compare_int [.int .i64 a0_2, .int .i64 a1_2]).bind fun r5 =>
 (AV.intK .i64 r5 fun i6 =>
 (cond (i2 != 0)
 (some (.int .i64 i2))
 (cond (i4 != 0)
 (some (.int .i64 i4))
 (cond (i6 != 0)
 (some (.int .i64 i6))
 (some (.int .i64 0)))))))))))
theorem eq_civil_Cmp (n : Nat) (a0_0 : Int) (a0_1 : Int) (a0_2 : Int) (a1_0 : Int) (a1_1 : Int) (a1_2 : Int) : CP C (n + 1) F_civil_Cmp [.agg [.int .i64 a0_0, .int .i64 a0_1, .int .i64 a0_2], .agg [.int .i64 a1_0, .int .i64 a1_1, .int .i64 a1_2]] = R_civil_Cmp (CP C n) n a0_0 a0_1 a0_2 a1_0 a1_1 a1_2 := by kernel_rfl
-- until_Months
def S_until_Months_888 (x0 : Int) (x1 : Int) (x2 : Int) (x3 : Int) (x4 : Int) (x5 : Int) (x6 : Int) (x7 : Int) : St := ⟨[.junk, .junk, .ptr (some (0, 0)), .ptr (some (1, 0)), .junk, .junk, .junk, .junk, .junk, .int .i64 x0, .int .i64 x1, .junk, .junk, .junk, .junk, .junk, .junk, .junk, .junk, .junk, .junk, .junk, .junk, .junk, .junk, .junk, .junk, .junk, .junk, .junk, .junk, .junk, .junk, .junk, .junk, .junk, .junk, .junk, .junk, .junk, .junk, .junk, .junk, .junk, .junk, .junk, .junk, .junk, .junk, .junk, .junk, .junk, .junk, .junk, .junk, .junk, .junk, .junk, .junk, .junk, .junk, .junk, .junk, .junk, .junk, .junk], [.cells 23 [.int .i64 x2, .int .i64 x3, .int .i64 x4], .cells 23 [.int .i64 x5, .int .i64 x6, .int .i64 x7], .dead, .dead, .dead]⟩
def T_until_Months_888 (cp : FuncId → List AV → Option AV) (x0 : Int) (x1 : Int) (x2 : Int) (x3 : Int) (x4 : Int) (x5 : Int) (x6 : Int) (x7 : Int) (r888 : Int → Int → Int → Int → Int → Int → Int → Int → Option AV) : Option AV :=
 ((cp F_months_Add [.agg [.int .i64 x2, .int .i64 x3, .int .i64 x4], .int .i64 x1, .int .i64 0]).bind fun r1 =>
 (AV.tupK r1 fun l2 =>
 (consK l2 fun v3 l4 =>
 (AV.aggK v3 fun l5 =>
 (consK l5 fun v6 l7 =>
 (AV.intK .i64 v6 fun i8 =>
 (consK l7 fun v9 l10 =>
 (AV.intK .i64 v9 fun i11 =>
 (consK l10 fun v12 l13 =>
 (AV.intK .i64 v12 fun i14 =>
 (nilK l13
 (consK l4 fun v15 l16 =>
 (AV.intK .i64 v15 fun i17 =>
 (nilK l16
 (cond (x1 == 0)
 (some (.tup [.int .i64 x1, .int .i64 0]))
 (cond (i17 == 0)
 ((cp F_civil_Cmp [.agg [.int .i64 x5, .int .i64 x6, .int .i64 x7], .agg [.int .i64 i8, .int .i64 i11, .int .i64 i14]]).bind fun r18 =>
 (AV.intK .i64 r18 fun i19 =>
 (cond (decide ((IntKind.i64.wrap (i19 * x0)) ≥ 0))
 (some (.tup [.int .i64 x1, .int .i64 0]))
 (r888 x0 (IntKind.i64.wrap (x1 - x0)) x2 x3 x4 x5 x6 x7))))
 (r888 x0 (IntKind.i64.wrap (x1 - x0)) x2 x3 x4 x5 x6 x7)))))))))))))))))
theorem K_until_Months_888 (j : Jump) (n : Nat) (m888 : Nat) (x0 : Int) (x1 : Int) (x2 : Int) (x3 : Int) (x4 : Int) (x5 : Int) (x6 : Int) (x7 : Int) : enter (topEnv C (CP C n) n F_until_Months) (some j) (bodyOf C.P F_until_Months) (endOf C.P F_until_Months) [false, false, false, true, true, true, true, false, true] [(m888 + 1)] (S_until_Months_888 x0 x1 x2 x3 x4 x5 x6 x7) = T_until_Months_888 (CP C n) x0 x1 x2 x3 x4 x5 x6 x7 (fun x0 x1 x2 x3 x4 x5 x6 x7 => j [false, false, false, true, true, true, true, false, true] [m888] (S_until_Months_888 x0 x1 x2 x3 x4 x5 x6 x7)) := by kernel_rfl
def J_until_Months_888 (cp : FuncId → List AV → Option AV) (n : Nat) : Nat → Int → Int → Int → Int → Int → Int → Int → Int → Option AV
  | 0 => (fun x0 x1 x2 x3 x4 x5 x6 x7 => none)
  | m + 1 => (fun x0 x1 x2 x3 x4 x5 x6 x7 => T_until_Months_888 cp x0 x1 x2 x3 x4 x5 x6 x7 (J_until_Months_888 cp n m))
theorem Js_until_Months_888 (cp : FuncId → List AV → Option AV) (n : Nat) (m : Nat) (x0 : Int) (x1 : Int) (x2 : Int) (x3 : Int) (x4 : Int) (x5 : Int) (x6 : Int) (x7 : Int) : J_until_Months_888 cp n (m + 1) x0 x1 x2 x3 x4 x5 x6 x7 = T_until_Months_888 cp x0 x1 x2 x3 x4 x5 x6 x7 (J_until_Months_888 cp n m) := of_eq_true (eq_self _)
theorem JE_until_Months_888 (n : Nat) : ∀ (m : Nat) (x0 : Int) (x1 : Int) (x2 : Int) (x3 : Int) (x4 : Int) (x5 : Int) (x6 : Int) (x7 : Int), jT (topEnv C (CP C n) n F_until_Months) (bodyOf C.P F_until_Months) (endOf C.P F_until_Months) [false, false, false, true, true, true, true, false, true] [m] (S_until_Months_888 x0 x1 x2 x3 x4 x5 x6 x7) = J_until_Months_888 (CP C n) n m x0 x1 x2 x3 x4 x5 x6 x7
  | 0, x0, x1, x2, x3, x4, x5, x6, x7 => (jT_eq _ _ _ _ _ _).trans (by kernel_rfl)
  | m + 1, x0, x1, x2, x3, x4, x5, x6, x7 => (jT_eq _ _ _ _ _ _).trans ((K_until_Months_888 _ n m x0 x1 x2 x3 x4 x5 x6 x7).trans (congrArg (T_until_Months_888 (CP C n) x0 x1 x2 x3 x4 x5 x6 x7) (funext fun x0 => (funext fun x1 => (funext fun x2 => (funext fun x3 => (funext fun x4 => (funext fun x5 => (funext fun x6 => (funext fun x7 => (JE_until_Months_888 n m) x0 x1 x2 x3 x4 x5 x6 x7))))))))))
def T_until_Months_1 (cp : FuncId → List AV → Option AV) (a0_0 : Int) (a0_1 : Int) (a0_2 : Int) (a1_0 : Int) (a1_1 : Int) (a1_2 : Int) (j888 : Int → Int → Int → Int → Int → Int → Int → Int → Option AV) : Option AV :=
 ((cp F_civil_Check [.agg [.int .i64 a0_0, .int .i64 a0_1, .int .i64 a0_2]]).bind fun r1 =>
 (AV.intK .i64 r1 fun i2 =>
 (cond (i2 != 0)
 (some (.tup [.int .i64 0, .int .i64 i2]))
 ((cp F_civil_Check [.agg [.int .i64 a1_0, .int .i64 a1_1, .int .i64 a1_2]]).bind fun r3 =>
 (AV.intK .i64 r3 fun i4 =>
 (cond (i4 != 0)
 (some (.tup [.int .i64 0, .int .i64 i4]))
 ((cp F_civil_Cmp [.agg [.int .i64 a1_0, .int .i64 a1_1, .int .i64 a1_2], .agg [.int .i64 a0_0, .int .i64 a0_1, .int .i64 a0_2]]).bind fun r5 =>
 (AV.intK .i64 r5 fun i6 =>
 (bnd (IntKind.i64.wrap ((IntKind.i64.wrap ((IntKind.i64.wrap (a1_0 - a0_0)) * 12)) + a1_1)) fun y7 =>
 (j888 i6 (IntKind.i64.wrap (y7 - a0_1)) a0_0 a0_1 a0_2 a1_0 a1_1 a1_2))))))))))
theorem K_until_Months_1 (j : Jump) (n : Nat) (a0_0 : Int) (a0_1 : Int) (a0_2 : Int) (a1_0 : Int) (a1_1 : Int) (a1_2 : Int) : ex (topEnv C (CP C n) n F_until_Months) (some j) (bodyOf C.P F_until_Months) 1 [] [] (endOf C.P F_until_Months) (startOf C.P F_until_Months [.agg [.int .i64 a0_0, .int .i64 a0_1, .int .i64 a0_2], .agg [.int .i64 a1_0, .int .i64 a1_1, .int .i64 a1_2]]) = T_until_Months_1 (CP C n) a0_0 a0_1 a0_2 a1_0 a1_1 a1_2 (fun x0 x1 x2 x3 x4 x5 x6 x7 => j [false, false, false, true, true, true, true, false, true] [(n + 300)] (S_until_Months_888 x0 x1 x2 x3 x4 x5 x6 x7)) := by kernel_rfl
def R_until_Months (cp : FuncId → List AV → Option AV) (n : Nat) (a0_0 : Int) (a0_1 : Int) (a0_2 : Int) (a1_0 : Int) (a1_1 : Int) (a1_2 : Int) : Option AV := T_until_Months_1 cp a0_0 a0_1 a0_2 a1_0 a1_1 a1_2 (J_until_Months_888 cp n (n + 300))
theorem eq_until_Months (n : Nat) (a0_0 : Int) (a0_1 : Int) (a0_2 : Int) (a1_0 : Int) (a1_1 : Int) (a1_2 : Int) : CP C (n + 1) F_until_Months [.agg [.int .i64 a0_0, .int .i64 a0_1, .int .i64 a0_2], .agg [.int .i64 a1_0, .int .i64 a1_1, .int .i64 a1_2]] = R_until_Months (CP C n) n a0_0 a0_1 a0_2 a1_0 a1_1 a1_2 :=
  (CP_pure C n F_until_Months _ (by kernel_rfl) (by kernel_rfl)).trans ((K_until_Months_1 _ n a0_0 a0_1 a0_2 a1_0 a1_1 a1_2).trans (congrArg (T_until_Months_1 (CP C n) a0_0 a0_1 a0_2 a1_0 a1_1 a1_2) (funext fun x0 => (funext fun x1 => (funext fun x2 => (funext fun x3 => (funext fun x4 => (funext fun x5 => (funext fun x6 => (funext fun x7 => (JE_until_Months_888 n (n + 300)) x0 x1 x2 x3 x4 x5 x6 x7))))))))))
-- civil_floor
def R_civil_floor (cp : FuncId → List AV → Option AV) (_n : Nat) (a0 : Int) (a1 : Int) : Option AV :=
 (cond (decide (a1 = 0))
 none
 (cond (decide (a1 = 0))
 none
 (cond (decide ((Int.tmod a0 a1) < 0))
 (some (.tup [.int .i64 (IntKind.i64.wrap ((IntKind.i64.wrap (Int.tdiv a0 a1)) - 1)), .int .i64 (IntKind.i64.wrap ((Int.tmod a0 a1) + a1))]))
 (some (.tup [.int .i64 (IntKind.i64.wrap (Int.tdiv a0 a1)), .int .i64 (Int.tmod a0 a1)])))))
theorem eq_civil_floor (n : Nat) (a0 : Int) (a1 : Int) : CP C (n + 1) F_civil_floor [.int .i64 a0, .int .i64 a1] = R_civil_floor (CP C n) n a0 a1 := by kernel_rfl
-- civil_number
def R_civil_number (cp : FuncId → List AV → Option AV) (_n : Nat) (a0 : Int) (a1 : Int) (a2 : Int) : Option AV :=
 (bnd (IntKind.i64.wrap (Int.tdiv (IntKind.i64.wrap (14 - a1)) 12)) fun y1 =>
 ((cp F_civil_floor [.int .i64 (IntKind.i64.wrap (a0 - y1)), .int .i64 400]).bind fun r2 =>
 (AV.tupK r2 fun l3 =>
 (consK l3 fun v4 l5 =>
 (AV.intK .i64 v4 fun i6 =>
 (consK l5 fun v7 l8 =>
 (AV.intK .i64 v7 fun i9 =>
 (nilK l8
 (bnd (IntKind.i64.wrap ((IntKind.i64.wrap (a1 + (IntKind.i64.wrap (12 * y1)))) - 3)) fun y10 =>
 (bnd (IntKind.i64.wrap (Int.tdiv (IntKind.i64.wrap ((IntKind.i64.wrap (153 * y10)) + 2)) 5)) fun y11 =>
 (bnd (IntKind.i64.wrap ((IntKind.i64.wrap (i6 * 146097)) + (IntKind.i64.wrap (i9 * 365)))) fun y12 =>
 (bnd (IntKind.i64.wrap (y12 + (IntKind.i64.wrap (Int.tdiv i9 4)))) fun y13 =>
 (bnd (IntKind.i64.wrap (y13 - (IntKind.i64.wrap (Int.tdiv i9 100)))) fun y14 =>
 (bnd (IntKind.i64.wrap (y14 + (IntKind.i64.wrap ((IntKind.i64.wrap (y11 + a2)) - 1)))) fun y15 =>
 (some (.int .i64 (IntKind.i64.wrap (y15 - 719468))))))))))))))))))
theorem eq_civil_number (n : Nat) (a0 : Int) (a1 : Int) (a2 : Int) : CP C (n + 1) F_civil_number [.int .i64 a0, .int .i64 a1, .int .i64 a2] = R_civil_number (CP C n) n a0 a1 a2 := by kernel_rfl
-- civil_Days
def R_civil_Days (cp : FuncId → List AV → Option AV) (_n : Nat) (a0_0 : Int) (a0_1 : Int) (a0_2 : Int) : Option AV :=
 ((cp F_civil_Check [.agg [.int .i64 a0_0, .int .i64 a0_1, .int .i64 a0_2]]).bind fun r1 =>
 (AV.intK .i64 r1 fun i2 =>
 (cond (i2 != 0)
 (some (.tup [.int .i64 0, .int .i64 i2]))
 ((cp F_civil_number [.int .i64 a0_0, .int .i64 a0_1, .int .i64 a0_2]).bind fun r3 =>
 (AV.intK .i64 r3 fun i4 =>
 (some (.tup [.int .i64 i4, .int .i64 0])))))))
theorem eq_civil_Days (n : Nat) (a0_0 : Int) (a0_1 : Int) (a0_2 : Int) : CP C (n + 1) F_civil_Days [.agg [.int .i64 a0_0, .int .i64 a0_1, .int .i64 a0_2]] = R_civil_Days (CP C n) n a0_0 a0_1 a0_2 := by kernel_rfl
-- period_apart
def R_period_apart (cp : FuncId → List AV → Option AV) (_n : Nat) (a0_0 : Int) (a0_1 : Int) (a0_2 : Int) : Option AV :=
 (some (.agg [.int .i64 a0_0, .int .i64 a0_1, .int .i64 a0_2]))
theorem eq_period_apart (n : Nat) (a0_0 : Int) (a0_1 : Int) (a0_2 : Int) : CP C (n + 1) F_period_apart [.agg [.int .i64 a0_0, .int .i64 a0_1, .int .i64 a0_2]] = R_period_apart (CP C n) n a0_0 a0_1 a0_2 := by kernel_rfl
-- period_in
def R_period_in (cp : FuncId → List AV → Option AV) (_n : Nat) (a0 : Int) (a1 : Int) : Option AV :=
 (cond (decide (a1 < (-1000000)))
 (some (.tup [.int .i64 0, .int .i64 8]))
 (cond (decide (a1 > 1000000))
 (some (.tup [.int .i64 0, .int .i64 8]))
 (some (.tup [.int .i64 a1, .int .i64 0]))))
theorem eq_period_in (n : Nat) (a0 : Int) (a1 : Int) : CP C (n + 1) F_period_in [.int .i64 a0, .int .i64 a1] = R_period_in (CP C n) n a0 a1 := by kernel_rfl
-- period_Check
def R_period_Check (cp : FuncId → List AV → Option AV) (_n : Nat) (a0_0 : Int) (a0_1 : Int) (a0_2 : Int) : Option AV :=
 ((cp F_period_apart [.agg [.int .i64 a0_0, .int .i64 a0_1, .int .i64 a0_2]]).bind fun r1 =>
 (AV.aggK r1 fun l2 =>
 (consK l2 fun v3 l4 =>
 (AV.intK .i64 v3 fun i5 =>
 (consK l4 fun v6 l7 =>
 (AV.intK .i64 v6 fun i8 =>
 (consK l7 fun v9 l10 =>
 (AV.intK .i64 v9 fun i11 =>
 (nilK l10
 ((cp F_period_in [.int .i64 0, .int .i64 i5]).bind fun r12 =>
 (AV.tupK r12 fun l13 =>
 (consK l13 fun v14 l15 =>
 (AV.intK .i64 v14 fun i16 =>
 (consK l15 fun v17 l18 =>
 (AV.intK .i64 v17 fun i19 =>
 (nilK l18
 (cond (i19 != 0)
 (some (.int .i64 i19))
 ((cp F_period_in [.int .i64 1, .int .i64 i8]).bind fun r20 =>
 (AV.tupK r20 fun l21 =>
 (consK l21 fun v22 l23 =>
 (AV.intK .i64 v22 fun i24 =>
 (consK l23 fun v25 l26 =>
 (AV.intK .i64 v25 fun i27 =>
 (nilK l26
 (cond (i27 != 0)
 (some (.int .i64 i27))
 ((cp F_period_in [.int .i64 2, .int .i64 i11]).bind fun r28 =>
 (AV.tupK r28 fun l29 =>
 (consK l29 fun v30 l31 =>
 (AV.intK .i64 v30 fun i32 =>
 (consK l31 fun v33 l34 =>
 (AV.intK .i64 v33 fun i35 =>
 (nilK l34
 (cond (i35 != 0)
 (some (.int .i64 i35))
 (some (.int .i64 0)))))))))))))))))))))))))))))))))))
theorem eq_period_Check (n : Nat) (a0_0 : Int) (a0_1 : Int) (a0_2 : Int) : CP C (n + 1) F_period_Check [.agg [.int .i64 a0_0, .int .i64 a0_1, .int .i64 a0_2]] = R_period_Check (CP C n) n a0_0 a0_1 a0_2 := by kernel_rfl
-- period_Months
def R_period_Months (cp : FuncId → List AV → Option AV) (_n : Nat) (a0_0 : Int) (a0_1 : Int) (a0_2 : Int) : Option AV :=
 ((cp F_period_Check [.agg [.int .i64 a0_0, .int .i64 a0_1, .int .i64 a0_2]]).bind fun r1 =>
 (AV.intK .i64 r1 fun i2 =>
 (cond (i2 != 0)
 (some (.int .i64 0))
 (some (.int .i64 (IntKind.i64.wrap ((IntKind.i64.wrap (a0_0 * 12)) + a0_1)))))))
theorem eq_period_Months (n : Nat) (a0_0 : Int) (a0_1 : Int) (a0_2 : Int) : CP C (n + 1) F_period_Months [.agg [.int .i64 a0_0, .int .i64 a0_1, .int .i64 a0_2]] = R_period_Months (CP C n) n a0_0 a0_1 a0_2 := by kernel_rfl
-- period_whole
def R_period_whole (cp : FuncId → List AV → Option AV) (_n : Nat) (a0_0 : Int) (a0_1 : Int) (a0_2 : Int) (a1 : Int) : Option AV :=
 (cond (a1 == 0)
 ((cp F_period_in [.int .i64 0, .int .i64 a0_0]).bind fun r1 =>
 (AV.tupK r1 fun l2 =>
 (consK l2 fun v3 l4 =>
 (AV.intK .i64 v3 fun i5 =>
 (consK l4 fun v6 l7 =>
 (AV.intK .i64 v6 fun i8 =>
 (nilK l7
 (cond (i8 != 0)
 (cond (i8 != 0)
 (some (.tup [.agg [.int .i64 0, .int .i64 0, .int .i64 0], .int .i64 i8]))
 (some (.tup [.agg [.int .i64 0, .int .i64 0, .int .i64 0], .int .i64 0])))
 ((cp F_period_in [.int .i64 1, .int .i64 a0_1]).bind fun r9 =>
 (AV.tupK r9 fun l10 =>
 (consK l10 fun v11 l12 =>
 (AV.intK .i64 v11 fun i13 =>
 (consK l12 fun v14 l15 =>
 (AV.intK .i64 v14 fun i16 =>
 (nilK l15
 (cond (i16 != 0)
 (cond (i16 != 0)
 (some (.tup [.agg [.int .i64 0, .int .i64 0, .int .i64 0], .int .i64 i16]))
 (some (.tup [.agg [.int .i64 0, .int .i64 0, .int .i64 0], .int .i64 0])))
 ((cp F_period_in [.int .i64 2, .int .i64 a0_2]).bind fun r17 =>
 (AV.tupK r17 fun l18 =>
 (consK l18 fun v19 l20 =>
 (AV.intK .i64 v19 fun i21 =>
 (consK l20 fun v22 l23 =>
 (AV.intK .i64 v22 fun i24 =>
 (nilK l23
 (cond (i24 != 0)
 (cond (i24 != 0)
 (some (.tup [.agg [.int .i64 0, .int .i64 0, .int .i64 0], .int .i64 i24]))
 (some (.tup [.agg [.int .i64 0, .int .i64 0, .int .i64 0], .int .i64 0])))
 (some (.tup [.agg [.int .i64 i5, .int .i64 i13, .int .i64 i21], .int .i64 0]))))))))))))))))))))))))))
 (cond (a1 != 0)
 (some (.tup [.agg [.int .i64 0, .int .i64 0, .int .i64 0], .int .i64 a1]))
 (some (.tup [.agg [.int .i64 a0_0, .int .i64 a0_1, .int .i64 a0_2], .int .i64 0]))))
theorem eq_period_whole (n : Nat) (a0_0 : Int) (a0_1 : Int) (a0_2 : Int) (a1 : Int) : CP C (n + 1) F_period_whole [.agg [.int .i64 a0_0, .int .i64 a0_1, .int .i64 a0_2], .int .i64 a1] = R_period_whole (CP C n) n a0_0 a0_1 a0_2 a1 := by kernel_rfl
-- period_Balance
def R_period_Balance (cp : FuncId → List AV → Option AV) (_n : Nat) (a0_0 : Int) (a0_1 : Int) (a0_2 : Int) : Option AV :=
 ((cp F_period_Check [.agg [.int .i64 a0_0, .int .i64 a0_1, .int .i64 a0_2]]).bind fun r1 =>
 (AV.intK .i64 r1 fun i2 =>
 (cond (i2 != 0)
 (some (.tup [.agg [.int .i64 0, .int .i64 0, .int .i64 0], .int .i64 i2]))
 ((cp F_period_Months [.agg [.int .i64 a0_0, .int .i64 a0_1, .int .i64 a0_2]]).bind fun r3 =>
 (AV.intK .i64 r3 fun i4 =>
 ((cp F_period_whole [.agg [.int .i64 (IntKind.i64.wrap (Int.tdiv i4 12)), .int .i64 (Int.tmod i4 12), .int .i64 a0_2], .int .i64 0]).bind fun r5 =>
 (AV.tupK r5 fun l6 =>
 (consK l6 fun v7 l8 =>
 (AV.aggK v7 fun l9 =>
 (consK l9 fun v10 l11 =>
 (AV.intK .i64 v10 fun i12 =>
 (consK l11 fun v13 l14 =>
 (AV.intK .i64 v13 fun i15 =>
 (consK l14 fun v16 l17 =>
 (AV.intK .i64 v16 fun i18 =>
 (nilK l17
 (consK l8 fun v19 l20 =>
 (AV.intK .i64 v19 fun i21 =>
 (nilK l20
 (some (.tup [.agg [.int .i64 i12, .int .i64 i15, .int .i64 i18], .int .i64 i21])))))))))))))))))))))
theorem eq_period_Balance (n : Nat) (a0_0 : Int) (a0_1 : Int) (a0_2 : Int) : CP C (n + 1) F_period_Balance [.agg [.int .i64 a0_0, .int .i64 a0_1, .int .i64 a0_2]] = R_period_Balance (CP C n) n a0_0 a0_1 a0_2 := by kernel_rfl
-- until_Until
def R_until_Until (cp : FuncId → List AV → Option AV) (_n : Nat) (a0_0 : Int) (a0_1 : Int) (a0_2 : Int) (a1_0 : Int) (a1_1 : Int) (a1_2 : Int) : Option AV :=
 ((cp F_until_Months [.agg [.int .i64 a0_0, .int .i64 a0_1, .int .i64 a0_2], .agg [.int .i64 a1_0, .int .i64 a1_1, .int .i64 a1_2]]).bind fun r1 =>
 (AV.tupK r1 fun l2 =>
 (consK l2 fun v3 l4 =>
 (AV.intK .i64 v3 fun i5 =>
 (consK l4 fun v6 l7 =>
 (AV.intK .i64 v6 fun i8 =>
 (nilK l7
 (cond (i8 != 0)
 (some (.tup [.agg [.int .i64 0, .int .i64 0, .int .i64 0], .int .i64 i8]))
 ((cp F_months_Add [.agg [.int .i64 a0_0, .int .i64 a0_1, .int .i64 a0_2], .int .i64 i5, .int .i64 0]).bind fun r9 =>
 (AV.tupK r9 fun l10 =>
 (consK l10 fun v11 l12 =>
 (AV.aggK v11 fun l13 =>
 (consK l13 fun v14 l15 =>
 (AV.intK .i64 v14 fun i16 =>
 (consK l15 fun v17 l18 =>
 (AV.intK .i64 v17 fun i19 =>
 (consK l18 fun v20 l21 =>
 (AV.intK .i64 v20 fun i22 =>
 (nilK l21
 (consK l12 fun v23 l24 =>
 (AV.intK .i64 v23 fun i25 =>
 (nilK l24
 ((cp F_civil_Days [.agg [.int .i64 i16, .int .i64 i19, .int .i64 i22]]).bind fun r26 =>
 (AV.tupK r26 fun l27 =>
 (consK l27 fun v28 l29 =>
 (AV.intK .i64 v28 fun i30 =>
 (consK l29 fun v31 l32 =>
 (AV.intK .i64 v31 fun i33 =>
 (nilK l32
 ((cp F_civil_Days [.agg [.int .i64 a1_0, .int .i64 a1_1, .int .i64 a1_2]]).bind fun r34 =>
 (AV.tupK r34 fun l35 =>
 (consK l35 fun v36 l37 =>
 (AV.intK .i64 v36 fun i38 =>
 (consK l37 fun v39 l40 =>
 (AV.intK .i64 v39 fun i41 =>
 (nilK l40
 ((cp F_period_Balance [.agg [.int .i64 0, .int .i64 i5, .int .i64 (IntKind.i64.wrap (i38 - i30))]]).bind fun r42 =>
 (AV.tupK r42 fun l43 =>
 (consK l43 fun v44 l45 =>
 (AV.aggK v44 fun l46 =>
 (consK l46 fun v47 l48 =>
 (AV.intK .i64 v47 fun i49 =>
 (consK l48 fun v50 l51 =>
 (AV.intK .i64 v50 fun i52 =>
 (consK l51 fun v53 l54 =>
 (AV.intK .i64 v53 fun i55 =>
 (nilK l54
 (consK l45 fun v56 l57 =>
 (AV.intK .i64 v56 fun i58 =>
 (nilK l57
 (some (.tup [.agg [.int .i64 i49, .int .i64 i52, .int .i64 i55], .int .i64 i58]))))))))))))))))))))))))))))))))))))))))))))))))))))
theorem eq_until_Until (n : Nat) (a0_0 : Int) (a0_1 : Int) (a0_2 : Int) (a1_0 : Int) (a1_1 : Int) (a1_2 : Int) : CP C (n + 1) F_until_Until [.agg [.int .i64 a0_0, .int .i64 a0_1, .int .i64 a0_2], .agg [.int .i64 a1_0, .int .i64 a1_1, .int .i64 a1_2]] = R_until_Until (CP C n) n a0_0 a0_1 a0_2 a1_0 a1_1 a1_2 := by kernel_rfl
-- ref06_Cmp
def R_ref06_Cmp (cp : FuncId → List AV → Option AV) (_n : Nat) (a0_0 : Int) (a0_1 : Int) (a0_2 : Int) (a1_0 : Int) (a1_1 : Int) (a1_2 : Int) : Option AV :=
 (cond (decide (a0_0 < a1_0))
 (some (.int .i64 (-1)))
 (cond (decide (a0_0 > a1_0))
 (some (.int .i64 1))
 (cond (decide (a0_1 < a1_1))
 (some (.int .i64 (-1)))
 (cond (decide (a0_1 > a1_1))
 (some (.int .i64 1))
 (cond (decide (a0_2 < a1_2))
 (some (.int .i64 (-1)))
 (cond (decide (a0_2 > a1_2))
 (some (.int .i64 1))
 (some (.int .i64 0))))))))
theorem eq_ref06_Cmp (n : Nat) (a0_0 : Int) (a0_1 : Int) (a0_2 : Int) (a1_0 : Int) (a1_1 : Int) (a1_2 : Int) : CP C (n + 1) F_ref06_Cmp [.agg [.int .i64 a0_0, .int .i64 a0_1, .int .i64 a0_2], .agg [.int .i64 a1_0, .int .i64 a1_1, .int .i64 a1_2]] = R_ref06_Cmp (CP C n) n a0_0 a0_1 a0_2 a1_0 a1_1 a1_2 := by kernel_rfl
-- ref06_Leap
def R_ref06_Leap (cp : FuncId → List AV → Option AV) (_n : Nat) (a0 : Int) : Option AV :=
 (cond ((Int.tmod a0 4) == 0)
 (cond ((Int.tmod a0 100) != 0)
 (some (.bool true))
 (some (.bool ((Int.tmod a0 400) == 0))))
 (some (.bool false)))
theorem eq_ref06_Leap (n : Nat) (a0 : Int) : CP C (n + 1) F_ref06_Leap [.int .i64 a0] = R_ref06_Leap (CP C n) n a0 := by kernel_rfl
-- ref06_MonthDays
def R_ref06_MonthDays (cp : FuncId → List AV → Option AV) (_n : Nat) (a0 : Int) (a1 : Int) : Option AV :=
 (cond (a1 == 1)
 (some (.int .i64 31))
 (cond (a1 == 3)
 (some (.int .i64 31))
 (cond (a1 == 5)
 (some (.int .i64 31))
 (cond (a1 == 7)
 (some (.int .i64 31))
 (cond (a1 == 8)
 (some (.int .i64 31))
 (cond (a1 == 10)
 (some (.int .i64 31))
 (cond (a1 == 12)
 (some (.int .i64 31))
 (cond (a1 == 4)
 (some (.int .i64 30))
 (cond (a1 == 6)
 (some (.int .i64 30))
 (cond (a1 == 9)
 (some (.int .i64 30))
 (cond (a1 == 11)
 (some (.int .i64 30))
 (cond (a1 == 2)
 ((cp F_ref06_Leap [.int .i64 a0]).bind fun r1 =>
 (AV.boolK r1 fun b2 =>
 (cond b2
 (some (.int .i64 29))
 (some (.int .i64 28)))))
 (some (.int .i64 0))))))))))))))
theorem eq_ref06_MonthDays (n : Nat) (a0 : Int) (a1 : Int) : CP C (n + 1) F_ref06_MonthDays [.int .i64 a0, .int .i64 a1] = R_ref06_MonthDays (CP C n) n a0 a1 := by kernel_rfl
-- ref06_May
def R_ref06_May (cp : FuncId → List AV → Option AV) (_n : Nat) (a0_0 : Int) (a0_1 : Int) (a0_2 : Int) : Option AV :=
 (cond (decide (a0_2 ≥ 1))
 ((cp F_ref06_MonthDays [.int .i64 a0_0, .int .i64 a0_1]).bind fun r1 =>
 (AV.intK .i64 r1 fun i2 =>
 (some (.bool (decide (a0_2 ≤ i2))))))
 (some (.bool false)))
theorem eq_ref06_May (n : Nat) (a0_0 : Int) (a0_1 : Int) (a0_2 : Int) : CP C (n + 1) F_ref06_May [.agg [.int .i64 a0_0, .int .i64 a0_1, .int .i64 a0_2]] = R_ref06_May (CP C n) n a0_0 a0_1 a0_2 := by kernel_rfl
-- ref06_Check
def R_ref06_Check (cp : FuncId → List AV → Option AV) (_n : Nat) (a0_0 : Int) (a0_1 : Int) (a0_2 : Int) : Option AV :=
 ((cp F_ref06_May [.agg [.int .i64 a0_0, .int .i64 a0_1, .int .i64 a0_2]]).bind fun r1 =>
 (AV.boolK r1 fun b2 =>
 (cond (!b2)
 (some (.int .i64 7))
 (cond (decide (a0_0 < (-9999)))
 (some (.int .i64 8))
 (cond (decide (a0_0 > 9999))
 (some (.int .i64 8))
 (some (.int .i64 0)))))))
theorem eq_ref06_Check (n : Nat) (a0_0 : Int) (a0_1 : Int) (a0_2 : Int) : CP C (n + 1) F_ref06_Check [.agg [.int .i64 a0_0, .int .i64 a0_1, .int .i64 a0_2]] = R_ref06_Check (CP C n) n a0_0 a0_1 a0_2 := by kernel_rfl
-- ref01_sum
def S_ref01_sum_116 (b0 : Bool) (x1 : Int) (l2 : List AV) (l3 : List AV) (l4 : List AV) : St := ⟨[.junk, .junk, .bool b0, .ptr (some (0, 0)), .ptr (some (1, 0)), .junk, .ptr (some (2, 0)), .junk, .ptr (some (3, 0)), .int .i64 x1, .junk, .junk, .junk, .junk, .junk, .junk, .junk, .junk, .junk, .junk, .junk, .junk, .junk, .junk, .junk, .junk, .junk, .junk, .junk, .junk, .junk, .junk, .junk, .junk, .junk, .junk, .junk], [.cells 88 l2, .cells 88 l3, .cells 88 [.bool false, .bool false, .bool false, .bool false, .bool false, .bool false, .bool false, .bool false, .bool false, .bool false, .bool false, .bool false, .bool false, .bool false, .bool false, .bool false, .bool false, .bool false, .bool false, .bool false, .bool false, .bool false, .bool false, .bool false, .bool false, .bool false, .bool false, .bool false, .bool false, .bool false, .bool false, .bool false, .bool false, .bool false, .bool false, .bool false, .bool false, .bool false, .bool false, .bool false, .bool false, .bool false, .bool false, .bool false, .bool false, .bool false, .bool false, .bool false, .bool false, .bool false, .bool false, .bool false, .bool false, .bool false, .bool false, .bool false, .bool false, .bool false, .bool false, .bool false, .bool false, .bool false, .bool false, .bool false, .bool false, .bool false, .bool false, .bool false, .bool false, .bool false, .bool false, .bool false, .bool false, .bool false, .bool false, .bool false, .bool false, .bool false, .bool false, .bool false, .bool false, .bool false, .bool false, .bool false, .bool false, .bool false, .bool false, .bool false, .bool false, .bool false, .bool false, .bool false, .bool false, .bool false, .bool false, .bool false, .bool false, .bool false, .bool false, .bool false, .bool false, .bool false, .bool false, .bool false, .bool false, .bool false, .bool false, .bool false, .bool false, .bool false, .bool false, .bool false, .bool false, .bool false, .bool false, .bool false, .bool false, .bool false, .bool false, .bool false, .bool false, .bool false, .bool false, .bool false, .bool false, .bool false, .bool false, .bool false], .cells 88 l4]⟩
def S_ref01_sum_3731 (b0 : Bool) (x1 : Int) (x2 : Int) (l3 : List AV) (l4 : List AV) (l5 : List AV) : St := ⟨[.junk, .junk, .bool b0, .ptr (some (0, 0)), .ptr (some (1, 0)), .junk, .ptr (some (2, 0)), .junk, .ptr (some (3, 0)), .int .i64 x1, .int .i64 x2, .junk, .junk, .junk, .junk, .junk, .junk, .junk, .junk, .junk, .junk, .junk, .junk, .junk, .junk, .junk, .junk, .junk, .junk, .junk, .junk, .junk, .junk, .junk, .junk, .junk, .junk], [.cells 88 l3, .cells 88 l4, .cells 88 [.bool false, .bool false, .bool false, .bool false, .bool false, .bool false, .bool false, .bool false, .bool false, .bool false, .bool false, .bool false, .bool false, .bool false, .bool false, .bool false, .bool false, .bool false, .bool false, .bool false, .bool false, .bool false, .bool false, .bool false, .bool false, .bool false, .bool false, .bool false, .bool false, .bool false, .bool false, .bool false, .bool false, .bool false, .bool false, .bool false, .bool false, .bool false, .bool false, .bool false, .bool false, .bool false, .bool false, .bool false, .bool false, .bool false, .bool false, .bool false, .bool false, .bool false, .bool false, .bool false, .bool false, .bool false, .bool false, .bool false, .bool false, .bool false, .bool false, .bool false, .bool false, .bool false, .bool false, .bool false, .bool false, .bool false, .bool false, .bool false, .bool false, .bool false, .bool false, .bool false, .bool false, .bool false, .bool false, .bool false, .bool false, .bool false, .bool false, .bool false, .bool false, .bool false, .bool false, .bool false, .bool false, .bool false, .bool false, .bool false, .bool false, .bool false, .bool false, .bool false, .bool false, .bool false, .bool false, .bool false, .bool false, .bool false, .bool false, .bool false, .bool false, .bool false, .bool false, .bool false, .bool false, .bool false, .bool false, .bool false, .bool false, .bool false, .bool false, .bool false, .bool false, .bool false, .bool false, .bool false, .bool false, .bool false, .bool false, .bool false, .bool false, .bool false, .bool false, .bool false, .bool false, .bool false, .bool false, .bool false], .cells 88 l5]⟩
def S_ref01_sum_7463 (b0 : Bool) (x1 : Int) (x2 : Int) (l3 : List AV) (l4 : List AV) (l5 : List AV) : St := ⟨[.junk, .junk, .bool b0, .ptr (some (0, 0)), .ptr (some (1, 0)), .junk, .ptr (some (2, 0)), .junk, .ptr (some (3, 0)), .int .i64 x1, .int .i64 x2, .junk, .junk, .junk, .junk, .junk, .junk, .junk, .junk, .junk, .junk, .junk, .junk, .junk, .junk, .junk, .junk, .junk, .junk, .junk, .junk, .junk, .junk, .junk, .junk, .junk, .junk], [.cells 88 l3, .cells 88 l4, .cells 88 [.bool false, .bool false, .bool false, .bool false, .bool false, .bool false, .bool false, .bool false, .bool false, .bool false, .bool false, .bool false, .bool false, .bool false, .bool false, .bool false, .bool false, .bool false, .bool false, .bool false, .bool false, .bool false, .bool false, .bool false, .bool false, .bool false, .bool false, .bool false, .bool false, .bool false, .bool false, .bool false, .bool false, .bool false, .bool false, .bool false, .bool false, .bool false, .bool false, .bool false, .bool false, .bool false, .bool false, .bool false, .bool false, .bool false, .bool false, .bool false, .bool false, .bool false, .bool false, .bool false, .bool false, .bool false, .bool false, .bool false, .bool false, .bool false, .bool false, .bool false, .bool false, .bool false, .bool false, .bool false, .bool false, .bool false, .bool false, .bool false, .bool false, .bool false, .bool false, .bool false, .bool false, .bool false, .bool false, .bool false, .bool false, .bool false, .bool false, .bool false, .bool false, .bool false, .bool false, .bool false, .bool false, .bool false, .bool false, .bool false, .bool false, .bool false, .bool false, .bool false, .bool false, .bool false, .bool false, .bool false, .bool false, .bool false, .bool false, .bool false, .bool false, .bool false, .bool false, .bool false, .bool false, .bool false, .bool false, .bool false, .bool false, .bool false, .bool false, .bool false, .bool false, .bool false, .bool false, .bool false, .bool false, .bool false, .bool false, .bool false, .bool false, .bool false, .bool false, .bool false, .bool false, .bool false, .bool false, .bool false], .cells 88 l5]⟩
def S_ref01_sum_14927 (x0 : Int) (x1 : Int) (l2 : List AV) (l3 : List AV) (l4 : List AV) : St := ⟨[.junk, .junk, .junk, .ptr (some (0, 0)), .ptr (some (1, 0)), .junk, .ptr (some (2, 0)), .junk, .ptr (some (3, 0)), .int .i64 x0, .int .i64 x1, .junk, .junk, .junk, .junk, .junk, .junk, .junk, .junk, .junk, .junk, .junk, .junk, .junk, .junk, .junk, .junk, .junk, .junk, .junk, .junk, .junk, .junk, .junk, .junk, .junk, .junk], [.cells 88 l2, .cells 88 l3, .cells 88 [.bool false, .bool false, .bool false, .bool false, .bool false, .bool false, .bool false, .bool false, .bool false, .bool false, .bool false, .bool false, .bool false, .bool false, .bool false, .bool false, .bool false, .bool false, .bool false, .bool false, .bool false, .bool false, .bool false, .bool false, .bool false, .bool false, .bool false, .bool false, .bool false, .bool false, .bool false, .bool false, .bool false, .bool false, .bool false, .bool false, .bool false, .bool false, .bool false, .bool false, .bool false, .bool false, .bool false, .bool false, .bool false, .bool false, .bool false, .bool false, .bool false, .bool false, .bool false, .bool false, .bool false, .bool false, .bool false, .bool false, .bool false, .bool false, .bool false, .bool false, .bool false, .bool false, .bool false, .bool false, .bool false, .bool false, .bool false, .bool false, .bool false, .bool false, .bool false, .bool false, .bool false, .bool false, .bool false, .bool false, .bool false, .bool false, .bool false, .bool false, .bool false, .bool false, .bool false, .bool false, .bool false, .bool false, .bool false, .bool false, .bool false, .bool false, .bool false, .bool false, .bool false, .bool false, .bool false, .bool false, .bool false, .bool false, .bool false, .bool false, .bool false, .bool false, .bool false, .bool false, .bool false, .bool false, .bool false, .bool false, .bool false, .bool false, .bool false, .bool false, .bool false, .bool false, .bool false, .bool false, .bool false, .bool false, .bool false, .bool false, .bool false, .bool false, .bool false, .bool false, .bool false, .bool false, .bool false, .bool false], .cells 88 l4]⟩
def S_ref01_sum_467 (b0 : Bool) (x1 : Int) (l2 : List AV) (l3 : List AV) (l4 : List AV) : St := ⟨[.junk, .junk, .bool b0, .ptr (some (0, 0)), .ptr (some (1, 0)), .junk, .ptr (some (2, 0)), .junk, .ptr (some (3, 0)), .int .i64 x1, .junk, .junk, .junk, .junk, .junk, .junk, .junk, .junk, .junk, .junk, .junk, .junk, .junk, .junk, .junk, .junk, .junk, .junk, .junk, .junk, .junk, .junk, .junk, .junk, .junk, .junk, .junk], [.cells 88 l2, .cells 88 l3, .cells 88 [.bool false, .bool false, .bool false, .bool false, .bool false, .bool false, .bool false, .bool false, .bool false, .bool false, .bool false, .bool false, .bool false, .bool false, .bool false, .bool false, .bool false, .bool false, .bool false, .bool false, .bool false, .bool false, .bool false, .bool false, .bool false, .bool false, .bool false, .bool false, .bool false, .bool false, .bool false, .bool false, .bool false, .bool false, .bool false, .bool false, .bool false, .bool false, .bool false, .bool false, .bool false, .bool false, .bool false, .bool false, .bool false, .bool false, .bool false, .bool false, .bool false, .bool false, .bool false, .bool false, .bool false, .bool false, .bool false, .bool false, .bool false, .bool false, .bool false, .bool false, .bool false, .bool false, .bool false, .bool false, .bool false, .bool false, .bool false, .bool false, .bool false, .bool false, .bool false, .bool false, .bool false, .bool false, .bool false, .bool false, .bool false, .bool false, .bool false, .bool false, .bool false, .bool false, .bool false, .bool false, .bool false, .bool false, .bool false, .bool false, .bool false, .bool false, .bool false, .bool false, .bool false, .bool false, .bool false, .bool false, .bool false, .bool false, .bool false, .bool false, .bool false, .bool false, .bool false, .bool false, .bool false, .bool false, .bool false, .bool false, .bool false, .bool false, .bool false, .bool false, .bool false, .bool false, .bool false, .bool false, .bool false, .bool false, .bool false, .bool false, .bool false, .bool false, .bool false, .bool false, .bool false, .bool false, .bool false, .bool false], .cells 88 l4]⟩
def T_ref01_sum_467 (cp : FuncId → List AV → Option AV) (b0 : Bool) (x1 : Int) (l2 : List AV) (l3 : List AV) (l4 : List AV) (r116 : Bool → Int → List AV → List AV → List AV → Option AV) : Option AV :=
 (r116 b0 (IntKind.i64.wrap (x1 + 1)) l2 l3 l4)
theorem K_ref01_sum_467 (j : Jump) (n : Nat) (m116 : Nat) (b0 : Bool) (x1 : Int) (l2 : List AV) (l3 : List AV) (l4 : List AV) : enter (topEnv C (CP C n) n F_ref01_sum) (some j) (bodyOf C.P F_ref01_sum) (endOf C.P F_ref01_sum) [true, true, false, false, true, false, true, true] [m116] (S_ref01_sum_467 b0 x1 l2 l3 l4) = T_ref01_sum_467 (CP C n) b0 x1 l2 l3 l4 (fun b0 x1 l2 l3 l4 => j [false, false, true, false, true, true] [m116] (S_ref01_sum_116 b0 x1 l2 l3 l4)) := by kernel_rfl
def J_ref01_sum_467 (cp : FuncId → List AV → Option AV) (n : Nat) (r116 : Bool → Int → List AV → List AV → List AV → Option AV) (b0 : Bool) (x1 : Int) (l2 : List AV) (l3 : List AV) (l4 : List AV) : Option AV := T_ref01_sum_467 cp b0 x1 l2 l3 l4 r116
theorem JE_ref01_sum_467 (n : Nat) (m116 : Nat) (r116 : Bool → Int → List AV → List AV → List AV → Option AV) (h116 : ∀ (b0 : Bool) (x1 : Int) (l2 : List AV) (l3 : List AV) (l4 : List AV), jT (topEnv C (CP C n) n F_ref01_sum) (bodyOf C.P F_ref01_sum) (endOf C.P F_ref01_sum) [false, false, true, false, true, true] [m116] (S_ref01_sum_116 b0 x1 l2 l3 l4) = r116 b0 x1 l2 l3 l4) (b0 : Bool) (x1 : Int) (l2 : List AV) (l3 : List AV) (l4 : List AV) : jT (topEnv C (CP C n) n F_ref01_sum) (bodyOf C.P F_ref01_sum) (endOf C.P F_ref01_sum) [true, true, false, false, true, false, true, true] [m116] (S_ref01_sum_467 b0 x1 l2 l3 l4) = J_ref01_sum_467 (CP C n) n r116 b0 x1 l2 l3 l4 :=
  (jT_eq _ _ _ _ _ _).trans ((K_ref01_sum_467 _ n m116 b0 x1 l2 l3 l4).trans (congrArg (T_ref01_sum_467 (CP C n) b0 x1 l2 l3 l4) (funext fun b0 => (funext fun x1 => (funext fun l2 => (funext fun l3 => (funext fun l4 => h116 b0 x1 l2 l3 l4)))))))
def T_ref01_sum_14927 (cp : FuncId → List AV → Option AV) (x0 : Int) (x1 : Int) (l2 : List AV) (l3 : List AV) (l4 : List AV) (j467 : Bool → Int → List AV → List AV → List AV → Option AV) : Option AV :=
 (bnd (IntKind.i64.wrap ((BitVec.ofInt 64 x1 &&& BitVec.ofInt 64 1).toNat : Int)) fun y1 =>
 (cond ((decide (0 ≤ x0)) && (decide (x0 < 128)))
 (cond (fits (0 + ((Int.toNat x0) * 1)) 1 l4)
 (j467 (decide (x1 ≥ 2)) x0 l2 l3 (splice l4 (0 + ((Int.toNat x0) * 1)) [.bool (y1 == 1)]))
 none)
 none))
theorem K_ref01_sum_14927 (j : Jump) (n : Nat) (m116 : Nat) (x0 : Int) (x1 : Int) (l2 : List AV) (l3 : List AV) (l4 : List AV) : enter (topEnv C (CP C n) n F_ref01_sum) (some j) (bodyOf C.P F_ref01_sum) (endOf C.P F_ref01_sum) [true, true, true, true, false, false, true, false, false, true, false, true, true] [m116] (S_ref01_sum_14927 x0 x1 l2 l3 l4) = T_ref01_sum_14927 (CP C n) x0 x1 l2 l3 l4 (fun b0 x1 l2 l3 l4 => j [true, true, false, false, true, false, true, true] [m116] (S_ref01_sum_467 b0 x1 l2 l3 l4)) := by kernel_rfl
def J_ref01_sum_14927 (cp : FuncId → List AV → Option AV) (n : Nat) (r116 : Bool → Int → List AV → List AV → List AV → Option AV) (x0 : Int) (x1 : Int) (l2 : List AV) (l3 : List AV) (l4 : List AV) : Option AV := T_ref01_sum_14927 cp x0 x1 l2 l3 l4 (J_ref01_sum_467 cp n r116)
theorem JE_ref01_sum_14927 (n : Nat) (m116 : Nat) (r116 : Bool → Int → List AV → List AV → List AV → Option AV) (h116 : ∀ (b0 : Bool) (x1 : Int) (l2 : List AV) (l3 : List AV) (l4 : List AV), jT (topEnv C (CP C n) n F_ref01_sum) (bodyOf C.P F_ref01_sum) (endOf C.P F_ref01_sum) [false, false, true, false, true, true] [m116] (S_ref01_sum_116 b0 x1 l2 l3 l4) = r116 b0 x1 l2 l3 l4) (x0 : Int) (x1 : Int) (l2 : List AV) (l3 : List AV) (l4 : List AV) : jT (topEnv C (CP C n) n F_ref01_sum) (bodyOf C.P F_ref01_sum) (endOf C.P F_ref01_sum) [true, true, true, true, false, false, true, false, false, true, false, true, true] [m116] (S_ref01_sum_14927 x0 x1 l2 l3 l4) = J_ref01_sum_14927 (CP C n) n r116 x0 x1 l2 l3 l4 :=
  (jT_eq _ _ _ _ _ _).trans ((K_ref01_sum_14927 _ n m116 x0 x1 l2 l3 l4).trans (congrArg (T_ref01_sum_14927 (CP C n) x0 x1 l2 l3 l4) (funext fun b0 => (funext fun x1 => (funext fun l2 => (funext fun l3 => (funext fun l4 => (JE_ref01_sum_467 n m116 r116 h116) b0 x1 l2 l3 l4)))))))
def T_ref01_sum_7463 (cp : FuncId → List AV → Option AV) (b0 : Bool) (x1 : Int) (x2 : Int) (l3 : List AV) (l4 : List AV) (l5 : List AV) (j14927 : Int → Int → List AV → List AV → List AV → Option AV) : Option AV :=
 (cond b0
 (j14927 x1 (IntKind.i64.wrap (x2 + 1)) l3 l4 l5)
 (j14927 x1 x2 l3 l4 l5))
theorem K_ref01_sum_7463 (j : Jump) (n : Nat) (m116 : Nat) (b0 : Bool) (x1 : Int) (x2 : Int) (l3 : List AV) (l4 : List AV) (l5 : List AV) : enter (topEnv C (CP C n) n F_ref01_sum) (some j) (bodyOf C.P F_ref01_sum) (endOf C.P F_ref01_sum) [true, true, true, false, false, true, false, false, true, false, true, true] [m116] (S_ref01_sum_7463 b0 x1 x2 l3 l4 l5) = T_ref01_sum_7463 (CP C n) b0 x1 x2 l3 l4 l5 (fun x0 x1 l2 l3 l4 => j [true, true, true, true, false, false, true, false, false, true, false, true, true] [m116] (S_ref01_sum_14927 x0 x1 l2 l3 l4)) := by kernel_rfl
def J_ref01_sum_7463 (cp : FuncId → List AV → Option AV) (n : Nat) (r116 : Bool → Int → List AV → List AV → List AV → Option AV) (b0 : Bool) (x1 : Int) (x2 : Int) (l3 : List AV) (l4 : List AV) (l5 : List AV) : Option AV := T_ref01_sum_7463 cp b0 x1 x2 l3 l4 l5 (J_ref01_sum_14927 cp n r116)
theorem JE_ref01_sum_7463 (n : Nat) (m116 : Nat) (r116 : Bool → Int → List AV → List AV → List AV → Option AV) (h116 : ∀ (b0 : Bool) (x1 : Int) (l2 : List AV) (l3 : List AV) (l4 : List AV), jT (topEnv C (CP C n) n F_ref01_sum) (bodyOf C.P F_ref01_sum) (endOf C.P F_ref01_sum) [false, false, true, false, true, true] [m116] (S_ref01_sum_116 b0 x1 l2 l3 l4) = r116 b0 x1 l2 l3 l4) (b0 : Bool) (x1 : Int) (x2 : Int) (l3 : List AV) (l4 : List AV) (l5 : List AV) : jT (topEnv C (CP C n) n F_ref01_sum) (bodyOf C.P F_ref01_sum) (endOf C.P F_ref01_sum) [true, true, true, false, false, true, false, false, true, false, true, true] [m116] (S_ref01_sum_7463 b0 x1 x2 l3 l4 l5) = J_ref01_sum_7463 (CP C n) n r116 b0 x1 x2 l3 l4 l5 :=
  (jT_eq _ _ _ _ _ _).trans ((K_ref01_sum_7463 _ n m116 b0 x1 x2 l3 l4 l5).trans (congrArg (T_ref01_sum_7463 (CP C n) b0 x1 x2 l3 l4 l5) (funext fun x0 => (funext fun x1 => (funext fun l2 => (funext fun l3 => (funext fun l4 => (JE_ref01_sum_14927 n m116 r116 h116) x0 x1 l2 l3 l4)))))))
def T_ref01_sum_3731 (cp : FuncId → List AV → Option AV) (b0 : Bool) (x1 : Int) (x2 : Int) (l3 : List AV) (l4 : List AV) (l5 : List AV) (j7463 : Bool → Int → Int → List AV → List AV → List AV → Option AV) : Option AV :=
 (cond ((decide (0 ≤ x1)) && (decide (x1 < 128)))
 (cond (fits (0 + ((Int.toNat x1) * 1)) 1 l4)
 (AV.boolK (nth l4 (0 + ((Int.toNat x1) * 1))) fun b1 =>
 (cond b1
 (j7463 b0 x1 (IntKind.i64.wrap (x2 + 1)) l3 l4 l5)
 (j7463 b0 x1 x2 l3 l4 l5)))
 none)
 none)
theorem K_ref01_sum_3731 (j : Jump) (n : Nat) (m116 : Nat) (b0 : Bool) (x1 : Int) (x2 : Int) (l3 : List AV) (l4 : List AV) (l5 : List AV) : enter (topEnv C (CP C n) n F_ref01_sum) (some j) (bodyOf C.P F_ref01_sum) (endOf C.P F_ref01_sum) [true, true, false, false, true, false, false, true, false, true, true] [m116] (S_ref01_sum_3731 b0 x1 x2 l3 l4 l5) = T_ref01_sum_3731 (CP C n) b0 x1 x2 l3 l4 l5 (fun b0 x1 x2 l3 l4 l5 => j [true, true, true, false, false, true, false, false, true, false, true, true] [m116] (S_ref01_sum_7463 b0 x1 x2 l3 l4 l5)) := by kernel_rfl
def J_ref01_sum_3731 (cp : FuncId → List AV → Option AV) (n : Nat) (r116 : Bool → Int → List AV → List AV → List AV → Option AV) (b0 : Bool) (x1 : Int) (x2 : Int) (l3 : List AV) (l4 : List AV) (l5 : List AV) : Option AV := T_ref01_sum_3731 cp b0 x1 x2 l3 l4 l5 (J_ref01_sum_7463 cp n r116)
theorem JE_ref01_sum_3731 (n : Nat) (m116 : Nat) (r116 : Bool → Int → List AV → List AV → List AV → Option AV) (h116 : ∀ (b0 : Bool) (x1 : Int) (l2 : List AV) (l3 : List AV) (l4 : List AV), jT (topEnv C (CP C n) n F_ref01_sum) (bodyOf C.P F_ref01_sum) (endOf C.P F_ref01_sum) [false, false, true, false, true, true] [m116] (S_ref01_sum_116 b0 x1 l2 l3 l4) = r116 b0 x1 l2 l3 l4) (b0 : Bool) (x1 : Int) (x2 : Int) (l3 : List AV) (l4 : List AV) (l5 : List AV) : jT (topEnv C (CP C n) n F_ref01_sum) (bodyOf C.P F_ref01_sum) (endOf C.P F_ref01_sum) [true, true, false, false, true, false, false, true, false, true, true] [m116] (S_ref01_sum_3731 b0 x1 x2 l3 l4 l5) = J_ref01_sum_3731 (CP C n) n r116 b0 x1 x2 l3 l4 l5 :=
  (jT_eq _ _ _ _ _ _).trans ((K_ref01_sum_3731 _ n m116 b0 x1 x2 l3 l4 l5).trans (congrArg (T_ref01_sum_3731 (CP C n) b0 x1 x2 l3 l4 l5) (funext fun b0 => (funext fun x1 => (funext fun x2 => (funext fun l3 => (funext fun l4 => (funext fun l5 => (JE_ref01_sum_7463 n m116 r116 h116) b0 x1 x2 l3 l4 l5))))))))
def T_ref01_sum_116 (cp : FuncId → List AV → Option AV) (b0 : Bool) (x1 : Int) (l2 : List AV) (l3 : List AV) (l4 : List AV) (j3731 : Bool → Int → Int → List AV → List AV → List AV → Option AV) : Option AV :=
 (cond (decide (x1 < 128))
 (cond ((decide (0 ≤ x1)) && (decide (x1 < 128)))
 (cond (fits (0 + ((Int.toNat x1) * 1)) 1 l2)
 (AV.boolK (nth l2 (0 + ((Int.toNat x1) * 1))) fun b1 =>
 (cond b1
 (j3731 b0 x1 1 l2 l3 l4)
 (j3731 b0 x1 0 l2 l3 l4)))
 none)
 none)
 (cond (fits 0 128 l4)
 (cond (lenIs (List.take 128 (List.drop 0 l4)) 128)
 (cond (cellsOk (List.take 128 (List.drop 0 l4)))
 (cond (fits 0 128 (splice [.bool false, .bool false, .bool false, .bool false, .bool false, .bool false, .bool false, .bool false, .bool false, .bool false, .bool false, .bool false, .bool false, .bool false, .bool false, .bool false, .bool false, .bool false, .bool false, .bool false, .bool false, .bool false, .bool false, .bool false, .bool false, .bool false, .bool false, .bool false, .bool false, .bool false, .bool false, .bool false, .bool false, .bool false, .bool false, .bool false, .bool false, .bool false, .bool false, .bool false, .bool false, .bool false, .bool false, .bool false, .bool false, .bool false, .bool false, .bool false, .bool false, .bool false, .bool false, .bool false, .bool false, .bool false, .bool false, .bool false, .bool false, .bool false, .bool false, .bool false, .bool false, .bool false, .bool false, .bool false, .bool false, .bool false, .bool false, .bool false, .bool false, .bool false, .bool false, .bool false, .bool false, .bool false, .bool false, .bool false, .bool false, .bool false, .bool false, .bool false, .bool false, .bool false, .bool false, .bool false, .bool false, .bool false, .bool false, .bool false, .bool false, .bool false, .bool false, .bool false, .bool false, .bool false, .bool false, .bool false, .bool false, .bool false, .bool false, .bool false, .bool false, .bool false, .bool false, .bool false, .bool false, .bool false, .bool false, .bool false, .bool false, .bool false, .bool false, .bool false, .bool false, .bool false, .bool false, .bool false, .bool false, .bool false, .bool false, .bool false, .bool false, .bool false, .bool false, .bool false, .bool false, .bool false, .bool false, .bool false] 0 (List.take 128 (List.drop 0 l4))))
 (cond ((AV.pureL (List.take 128 (List.drop 0 (splice [.bool false, .bool false, .bool false, .bool false, .bool false, .bool false, .bool false, .bool false, .bool false, .bool false, .bool false, .bool false, .bool false, .bool false, .bool false, .bool false, .bool false, .bool false, .bool false, .bool false, .bool false, .bool false, .bool false, .bool false, .bool false, .bool false, .bool false, .bool false, .bool false, .bool false, .bool false, .bool false, .bool false, .bool false, .bool false, .bool false, .bool false, .bool false, .bool false, .bool false, .bool false, .bool false, .bool false, .bool false, .bool false, .bool false, .bool false, .bool false, .bool false, .bool false, .bool false, .bool false, .bool false, .bool false, .bool false, .bool false, .bool false, .bool false, .bool false, .bool false, .bool false, .bool false, .bool false, .bool false, .bool false, .bool false, .bool false, .bool false, .bool false, .bool false, .bool false, .bool false, .bool false, .bool false, .bool false, .bool false, .bool false, .bool false, .bool false, .bool false, .bool false, .bool false, .bool false, .bool false, .bool false, .bool false, .bool false, .bool false, .bool false, .bool false, .bool false, .bool false, .bool false, .bool false, .bool false, .bool false, .bool false, .bool false, .bool false, .bool false, .bool false, .bool false, .bool false, .bool false, .bool false, .bool false, .bool false, .bool false, .bool false, .bool false, .bool false, .bool false, .bool false, .bool false, .bool false, .bool false, .bool false, .bool false, .bool false, .bool false, .bool false, .bool false, .bool false, .bool false, .bool false, .bool false, .bool false, .bool false] 0 (List.take 128 (List.drop 0 l4)))))) && true)
 (some (.tup [.agg (List.take 128 (List.drop 0 (splice [.bool false, .bool false, .bool false, .bool false, .bool false, .bool false, .bool false, .bool false, .bool false, .bool false, .bool false, .bool false, .bool false, .bool false, .bool false, .bool false, .bool false, .bool false, .bool false, .bool false, .bool false, .bool false, .bool false, .bool false, .bool false, .bool false, .bool false, .bool false, .bool false, .bool false, .bool false, .bool false, .bool false, .bool false, .bool false, .bool false, .bool false, .bool false, .bool false, .bool false, .bool false, .bool false, .bool false, .bool false, .bool false, .bool false, .bool false, .bool false, .bool false, .bool false, .bool false, .bool false, .bool false, .bool false, .bool false, .bool false, .bool false, .bool false, .bool false, .bool false, .bool false, .bool false, .bool false, .bool false, .bool false, .bool false, .bool false, .bool false, .bool false, .bool false, .bool false, .bool false, .bool false, .bool false, .bool false, .bool false, .bool false, .bool false, .bool false, .bool false, .bool false, .bool false, .bool false, .bool false, .bool false, .bool false, .bool false, .bool false, .bool false, .bool false, .bool false, .bool false, .bool false, .bool false, .bool false, .bool false, .bool false, .bool false, .bool false, .bool false, .bool false, .bool false, .bool false, .bool false, .bool false, .bool false, .bool false, .bool false, .bool false, .bool false, .bool false, .bool false, .bool false, .bool false, .bool false, .bool false, .bool false, .bool false, .bool false, .bool false, .bool false, .bool false, .bool false, .bool false, .bool false, .bool false, .bool false, .bool false] 0 (List.take 128 (List.drop 0 l4))))), .bool b0]))
 none)
 none)
 none)
 none)
 none))
theorem K_ref01_sum_116 (j : Jump) (n : Nat) (m116 : Nat) (b0 : Bool) (x1 : Int) (l2 : List AV) (l3 : List AV) (l4 : List AV) : enter (topEnv C (CP C n) n F_ref01_sum) (some j) (bodyOf C.P F_ref01_sum) (endOf C.P F_ref01_sum) [false, false, true, false, true, true] [(m116 + 1)] (S_ref01_sum_116 b0 x1 l2 l3 l4) = T_ref01_sum_116 (CP C n) b0 x1 l2 l3 l4 (fun b0 x1 x2 l3 l4 l5 => j [true, true, false, false, true, false, false, true, false, true, true] [m116] (S_ref01_sum_3731 b0 x1 x2 l3 l4 l5)) := by kernel_rfl
def J_ref01_sum_116 (cp : FuncId → List AV → Option AV) (n : Nat) : Nat → Bool → Int → List AV → List AV → List AV → Option AV
  | 0 => (fun b0 x1 l2 l3 l4 => none)
  | m + 1 => (fun b0 x1 l2 l3 l4 => T_ref01_sum_116 cp b0 x1 l2 l3 l4 (J_ref01_sum_3731 cp n (J_ref01_sum_116 cp n m)))
theorem Js_ref01_sum_116 (cp : FuncId → List AV → Option AV) (n : Nat) (m : Nat) (b0 : Bool) (x1 : Int) (l2 : List AV) (l3 : List AV) (l4 : List AV) : J_ref01_sum_116 cp n (m + 1) b0 x1 l2 l3 l4 = T_ref01_sum_116 cp b0 x1 l2 l3 l4 (J_ref01_sum_3731 cp n (J_ref01_sum_116 cp n m)) := of_eq_true (eq_self _)
theorem JE_ref01_sum_116 (n : Nat) : ∀ (m : Nat) (b0 : Bool) (x1 : Int) (l2 : List AV) (l3 : List AV) (l4 : List AV), jT (topEnv C (CP C n) n F_ref01_sum) (bodyOf C.P F_ref01_sum) (endOf C.P F_ref01_sum) [false, false, true, false, true, true] [m] (S_ref01_sum_116 b0 x1 l2 l3 l4) = J_ref01_sum_116 (CP C n) n m b0 x1 l2 l3 l4
  | 0, b0, x1, l2, l3, l4 => (jT_eq _ _ _ _ _ _).trans (by kernel_rfl)
  | m + 1, b0, x1, l2, l3, l4 => (jT_eq _ _ _ _ _ _).trans ((K_ref01_sum_116 _ n m b0 x1 l2 l3 l4).trans (congrArg (T_ref01_sum_116 (CP C n) b0 x1 l2 l3 l4) (funext fun b0 => (funext fun x1 => (funext fun x2 => (funext fun l3 => (funext fun l4 => (funext fun l5 => (JE_ref01_sum_3731 n m (J_ref01_sum_116 (CP C n) n m) (JE_ref01_sum_116 n m)) b0 x1 x2 l3 l4 l5))))))))
def T_ref01_sum_1 (cp : FuncId → List AV → Option AV) (a0 : List AV) (a1 : List AV) (a2 : Bool) (j116 : Bool → Int → List AV → List AV → List AV → Option AV) : Option AV :=
 (j116 a2 0 a0 a1 [.bool false, .bool false, .bool false, .bool false, .bool false, .bool false, .bool false, .bool false, .bool false, .bool false, .bool false, .bool false, .bool false, .bool false, .bool false, .bool false, .bool false, .bool false, .bool false, .bool false, .bool false, .bool false, .bool false, .bool false, .bool false, .bool false, .bool false, .bool false, .bool false, .bool false, .bool false, .bool false, .bool false, .bool false, .bool false, .bool false, .bool false, .bool false, .bool false, .bool false, .bool false, .bool false, .bool false, .bool false, .bool false, .bool false, .bool false, .bool false, .bool false, .bool false, .bool false, .bool false, .bool false, .bool false, .bool false, .bool false, .bool false, .bool false, .bool false, .bool false, .bool false, .bool false, .bool false, .bool false, .bool false, .bool false, .bool false, .bool false, .bool false, .bool false, .bool false, .bool false, .bool false, .bool false, .bool false, .bool false, .bool false, .bool false, .bool false, .bool false, .bool false, .bool false, .bool false, .bool false, .bool false, .bool false, .bool false, .bool false, .bool false, .bool false, .bool false, .bool false, .bool false, .bool false, .bool false, .bool false, .bool false, .bool false, .bool false, .bool false, .bool false, .bool false, .bool false, .bool false, .bool false, .bool false, .bool false, .bool false, .bool false, .bool false, .bool false, .bool false, .bool false, .bool false, .bool false, .bool false, .bool false, .bool false, .bool false, .bool false, .bool false, .bool false, .bool false, .bool false, .bool false, .bool false, .bool false, .bool false])
theorem K_ref01_sum_1 (j : Jump) (n : Nat) (a0 : List AV) (a1 : List AV) (a2 : Bool) : ex (topEnv C (CP C n) n F_ref01_sum) (some j) (bodyOf C.P F_ref01_sum) 1 [] [] (endOf C.P F_ref01_sum) (startOf C.P F_ref01_sum [.agg a0, .agg a1, .bool a2]) = T_ref01_sum_1 (CP C n) a0 a1 a2 (fun b0 x1 l2 l3 l4 => j [false, false, true, false, true, true] [(n + 300)] (S_ref01_sum_116 b0 x1 l2 l3 l4)) := by kernel_rfl
def R_ref01_sum (cp : FuncId → List AV → Option AV) (n : Nat) (a0 : List AV) (a1 : List AV) (a2 : Bool) : Option AV := T_ref01_sum_1 cp a0 a1 a2 (J_ref01_sum_116 cp n (n + 300))
theorem eq_ref01_sum (n : Nat) (a0 : List AV) (a1 : List AV) (a2 : Bool) : CP C (n + 1) F_ref01_sum [.agg a0, .agg a1, .bool a2] = cond (AV.pureL [.agg a0, .agg a1, .bool a2]) (R_ref01_sum (CP C n) n a0 a1 a2) none :=
  (CP_run C n F_ref01_sum _ (by kernel_rfl)).trans (congrArg (fun x => cond (AV.pureL [.agg a0, .agg a1, .bool a2]) x none) ((K_ref01_sum_1 _ n a0 a1 a2).trans (congrArg (T_ref01_sum_1 (CP C n) a0 a1 a2) (funext fun b0 => (funext fun x1 => (funext fun l2 => (funext fun l3 => (funext fun l4 => (JE_ref01_sum_116 n (n + 300)) b0 x1 l2 l3 l4))))))))
-- ref01_bits
def S_ref01_bits_116 (x0 : Int) (x1 : Int) (x2 : Int) (l3 : List AV) : St := ⟨[.junk, .ptr (some (0, 0)), .ptr (some (1, 0)), .ptr (some (2, 0)), .int .i64 x0, .junk, .junk, .junk, .junk, .junk, .junk, .junk, .junk, .junk, .junk, .junk, .junk, .junk, .junk, .junk, .junk, .junk, .junk, .junk, .junk, .junk, .junk, .junk, .junk], [.cells 71 [.int .u64 x1, .int .u64 x2], .cells 88 [.bool false, .bool false, .bool false, .bool false, .bool false, .bool false, .bool false, .bool false, .bool false, .bool false, .bool false, .bool false, .bool false, .bool false, .bool false, .bool false, .bool false, .bool false, .bool false, .bool false, .bool false, .bool false, .bool false, .bool false, .bool false, .bool false, .bool false, .bool false, .bool false, .bool false, .bool false, .bool false, .bool false, .bool false, .bool false, .bool false, .bool false, .bool false, .bool false, .bool false, .bool false, .bool false, .bool false, .bool false, .bool false, .bool false, .bool false, .bool false, .bool false, .bool false, .bool false, .bool false, .bool false, .bool false, .bool false, .bool false, .bool false, .bool false, .bool false, .bool false, .bool false, .bool false, .bool false, .bool false, .bool false, .bool false, .bool false, .bool false, .bool false, .bool false, .bool false, .bool false, .bool false, .bool false, .bool false, .bool false, .bool false, .bool false, .bool false, .bool false, .bool false, .bool false, .bool false, .bool false, .bool false, .bool false, .bool false, .bool false, .bool false, .bool false, .bool false, .bool false, .bool false, .bool false, .bool false, .bool false, .bool false, .bool false, .bool false, .bool false, .bool false, .bool false, .bool false, .bool false, .bool false, .bool false, .bool false, .bool false, .bool false, .bool false, .bool false, .bool false, .bool false, .bool false, .bool false, .bool false, .bool false, .bool false, .bool false, .bool false, .bool false, .bool false, .bool false, .bool false, .bool false, .bool false, .bool false, .bool false], .cells 88 l3]⟩
def T_ref01_bits_116 (cp : FuncId → List AV → Option AV) (x0 : Int) (x1 : Int) (x2 : Int) (l3 : List AV) (r116 : Int → Int → Int → List AV → Option AV) : Option AV :=
 (cond (decide (x0 < 64))
 (cond (decide ((IntKind.u64.wrap x0) < 0))
 none
 (bnd (Int.fdiv x2 (2 ^ (min (Int.toNat (IntKind.u64.wrap x0)) 64))) fun y1 =>
 (bnd (IntKind.u64.wrap ((BitVec.ofInt 64 y1 &&& BitVec.ofInt 64 1).toNat : Int)) fun y2 =>
 (cond ((decide (0 ≤ x0)) && (decide (x0 < 128)))
 (cond (fits (0 + ((Int.toNat x0) * 1)) 1 l3)
 (cond (decide ((IntKind.u64.wrap x0) < 0))
 none
 (bnd (Int.fdiv x1 (2 ^ (min (Int.toNat (IntKind.u64.wrap x0)) 64))) fun y3 =>
 (bnd (IntKind.u64.wrap ((BitVec.ofInt 64 y3 &&& BitVec.ofInt 64 1).toNat : Int)) fun y4 =>
 (cond ((decide (0 ≤ (IntKind.i64.wrap (64 + x0)))) && (decide ((IntKind.i64.wrap (64 + x0)) < 128)))
 (cond (fits (0 + ((Int.toNat (IntKind.i64.wrap (64 + x0))) * 1)) 1 (splice l3 (0 + ((Int.toNat x0) * 1)) [.bool (y2 == 1)]))
 (r116 (IntKind.i64.wrap (x0 + 1)) x1 x2 (splice (splice l3 (0 + ((Int.toNat x0) * 1)) [.bool (y2 == 1)]) (0 + ((Int.toNat (IntKind.i64.wrap (64 + x0))) * 1)) [.bool (y4 == 1)]))
 none)
 none))))
 none)
 none))))
 (cond (fits 0 128 l3)
 (cond (lenIs (List.take 128 (List.drop 0 l3)) 128)
 (cond (cellsOk (List.take 128 (List.drop 0 l3)))
 (cond (fits 0 128 (splice [.bool false, .bool false, .bool false, .bool false, .bool false, .bool false, .bool false, .bool false, .bool false, .bool false, .bool false, .bool false, .bool false, .bool false, .bool false, .bool false, .bool false, .bool false, .bool false, .bool false, .bool false, .bool false, .bool false, .bool false, .bool false, .bool false, .bool false, .bool false, .bool false, .bool false, .bool false, .bool false, .bool false, .bool false, .bool false, .bool false, .bool false, .bool false, .bool false, .bool false, .bool false, .bool false, .bool false, .bool false, .bool false, .bool false, .bool false, .bool false, .bool false, .bool false, .bool false, .bool false, .bool false, .bool false, .bool false, .bool false, .bool false, .bool false, .bool false, .bool false, .bool false, .bool false, .bool false, .bool false, .bool false, .bool false, .bool false, .bool false, .bool false, .bool false, .bool false, .bool false, .bool false, .bool false, .bool false, .bool false, .bool false, .bool false, .bool false, .bool false, .bool false, .bool false, .bool false, .bool false, .bool false, .bool false, .bool false, .bool false, .bool false, .bool false, .bool false, .bool false, .bool false, .bool false, .bool false, .bool false, .bool false, .bool false, .bool false, .bool false, .bool false, .bool false, .bool false, .bool false, .bool false, .bool false, .bool false, .bool false, .bool false, .bool false, .bool false, .bool false, .bool false, .bool false, .bool false, .bool false, .bool false, .bool false, .bool false, .bool false, .bool false, .bool false, .bool false, .bool false, .bool false, .bool false, .bool false, .bool false] 0 (List.take 128 (List.drop 0 l3))))
 (cond (AV.pureL (List.take 128 (List.drop 0 (splice [.bool false, .bool false, .bool false, .bool false, .bool false, .bool false, .bool false, .bool false, .bool false, .bool false, .bool false, .bool false, .bool false, .bool false, .bool false, .bool false, .bool false, .bool false, .bool false, .bool false, .bool false, .bool false, .bool false, .bool false, .bool false, .bool false, .bool false, .bool false, .bool false, .bool false, .bool false, .bool false, .bool false, .bool false, .bool false, .bool false, .bool false, .bool false, .bool false, .bool false, .bool false, .bool false, .bool false, .bool false, .bool false, .bool false, .bool false, .bool false, .bool false, .bool false, .bool false, .bool false, .bool false, .bool false, .bool false, .bool false, .bool false, .bool false, .bool false, .bool false, .bool false, .bool false, .bool false, .bool false, .bool false, .bool false, .bool false, .bool false, .bool false, .bool false, .bool false, .bool false, .bool false, .bool false, .bool false, .bool false, .bool false, .bool false, .bool false, .bool false, .bool false, .bool false, .bool false, .bool false, .bool false, .bool false, .bool false, .bool false, .bool false, .bool false, .bool false, .bool false, .bool false, .bool false, .bool false, .bool false, .bool false, .bool false, .bool false, .bool false, .bool false, .bool false, .bool false, .bool false, .bool false, .bool false, .bool false, .bool false, .bool false, .bool false, .bool false, .bool false, .bool false, .bool false, .bool false, .bool false, .bool false, .bool false, .bool false, .bool false, .bool false, .bool false, .bool false, .bool false, .bool false, .bool false, .bool false, .bool false] 0 (List.take 128 (List.drop 0 l3))))))
 (some (.agg (List.take 128 (List.drop 0 (splice [.bool false, .bool false, .bool false, .bool false, .bool false, .bool false, .bool false, .bool false, .bool false, .bool false, .bool false, .bool false, .bool false, .bool false, .bool false, .bool false, .bool false, .bool false, .bool false, .bool false, .bool false, .bool false, .bool false, .bool false, .bool false, .bool false, .bool false, .bool false, .bool false, .bool false, .bool false, .bool false, .bool false, .bool false, .bool false, .bool false, .bool false, .bool false, .bool false, .bool false, .bool false, .bool false, .bool false, .bool false, .bool false, .bool false, .bool false, .bool false, .bool false, .bool false, .bool false, .bool false, .bool false, .bool false, .bool false, .bool false, .bool false, .bool false, .bool false, .bool false, .bool false, .bool false, .bool false, .bool false, .bool false, .bool false, .bool false, .bool false, .bool false, .bool false, .bool false, .bool false, .bool false, .bool false, .bool false, .bool false, .bool false, .bool false, .bool false, .bool false, .bool false, .bool false, .bool false, .bool false, .bool false, .bool false, .bool false, .bool false, .bool false, .bool false, .bool false, .bool false, .bool false, .bool false, .bool false, .bool false, .bool false, .bool false, .bool false, .bool false, .bool false, .bool false, .bool false, .bool false, .bool false, .bool false, .bool false, .bool false, .bool false, .bool false, .bool false, .bool false, .bool false, .bool false, .bool false, .bool false, .bool false, .bool false, .bool false, .bool false, .bool false, .bool false, .bool false, .bool false, .bool false, .bool false, .bool false, .bool false] 0 (List.take 128 (List.drop 0 l3)))))))
 none)
 none)
 none)
 none)
 none))
theorem K_ref01_bits_116 (j : Jump) (n : Nat) (m116 : Nat) (x0 : Int) (x1 : Int) (x2 : Int) (l3 : List AV) : enter (topEnv C (CP C n) n F_ref01_bits) (some j) (bodyOf C.P F_ref01_bits) (endOf C.P F_ref01_bits) [false, false, true, false, true, true] [(m116 + 1)] (S_ref01_bits_116 x0 x1 x2 l3) = T_ref01_bits_116 (CP C n) x0 x1 x2 l3 (fun x0 x1 x2 l3 => j [false, false, true, false, true, true] [m116] (S_ref01_bits_116 x0 x1 x2 l3)) := by kernel_rfl
def J_ref01_bits_116 (cp : FuncId → List AV → Option AV) (n : Nat) : Nat → Int → Int → Int → List AV → Option AV
  | 0 => (fun x0 x1 x2 l3 => none)
  | m + 1 => (fun x0 x1 x2 l3 => T_ref01_bits_116 cp x0 x1 x2 l3 (J_ref01_bits_116 cp n m))
theorem Js_ref01_bits_116 (cp : FuncId → List AV → Option AV) (n : Nat) (m : Nat) (x0 : Int) (x1 : Int) (x2 : Int) (l3 : List AV) : J_ref01_bits_116 cp n (m + 1) x0 x1 x2 l3 = T_ref01_bits_116 cp x0 x1 x2 l3 (J_ref01_bits_116 cp n m) := of_eq_true (eq_self _)
theorem JE_ref01_bits_116 (n : Nat) : ∀ (m : Nat) (x0 : Int) (x1 : Int) (x2 : Int) (l3 : List AV), jT (topEnv C (CP C n) n F_ref01_bits) (bodyOf C.P F_ref01_bits) (endOf C.P F_ref01_bits) [false, false, true, false, true, true] [m] (S_ref01_bits_116 x0 x1 x2 l3) = J_ref01_bits_116 (CP C n) n m x0 x1 x2 l3
  | 0, x0, x1, x2, l3 => (jT_eq _ _ _ _ _ _).trans (by kernel_rfl)
  | m + 1, x0, x1, x2, l3 => (jT_eq _ _ _ _ _ _).trans ((K_ref01_bits_116 _ n m x0 x1 x2 l3).trans (congrArg (T_ref01_bits_116 (CP C n) x0 x1 x2 l3) (funext fun x0 => (funext fun x1 => (funext fun x2 => (funext fun l3 => (JE_ref01_bits_116 n m) x0 x1 x2 l3))))))
def T_ref01_bits_1 (cp : FuncId → List AV → Option AV) (a0_0 : Int) (a0_1 : Int) (j116 : Int → Int → Int → List AV → Option AV) : Option AV :=
 (j116 0 a0_0 a0_1 [.bool false, .bool false, .bool false, .bool false, .bool false, .bool false, .bool false, .bool false, .bool false, .bool false, .bool false, .bool false, .bool false, .bool false, .bool false, .bool false, .bool false, .bool false, .bool false, .bool false, .bool false, .bool false, .bool false, .bool false, .bool false, .bool false, .bool false, .bool false, .bool false, .bool false, .bool false, .bool false, .bool false, .bool false, .bool false, .bool false, .bool false, .bool false, .bool false, .bool false, .bool false, .bool false, .bool false, .bool false, .bool false, .bool false, .bool false, .bool false, .bool false, .bool false, .bool false, .bool false, .bool false, .bool false, .bool false, .bool false, .bool false, .bool false, .bool false, .bool false, .bool false, .bool false, .bool false, .bool false, .bool false, .bool false, .bool false, .bool false, .bool false, .bool false, .bool false, .bool false, .bool false, .bool false, .bool false, .bool false, .bool false, .bool false, .bool false, .bool false, .bool false, .bool false, .bool false, .bool false, .bool false, .bool false, .bool false, .bool false, .bool false, .bool false, .bool false, .bool false, .bool false, .bool false, .bool false, .bool false, .bool false, .bool false, .bool false, .bool false, .bool false, .bool false, .bool false, .bool false, .bool false, .bool false, .bool false, .bool false, .bool false, .bool false, .bool false, .bool false, .bool false, .bool false, .bool false, .bool false, .bool false, .bool false, .bool false, .bool false, .bool false, .bool false, .bool false, .bool false, .bool false, .bool false, .bool false, .bool false])
theorem K_ref01_bits_1 (j : Jump) (n : Nat) (a0_0 : Int) (a0_1 : Int) : ex (topEnv C (CP C n) n F_ref01_bits) (some j) (bodyOf C.P F_ref01_bits) 1 [] [] (endOf C.P F_ref01_bits) (startOf C.P F_ref01_bits [.agg [.int .u64 a0_0, .int .u64 a0_1]]) = T_ref01_bits_1 (CP C n) a0_0 a0_1 (fun x0 x1 x2 l3 => j [false, false, true, false, true, true] [(n + 300)] (S_ref01_bits_116 x0 x1 x2 l3)) := by kernel_rfl
def R_ref01_bits (cp : FuncId → List AV → Option AV) (n : Nat) (a0_0 : Int) (a0_1 : Int) : Option AV := T_ref01_bits_1 cp a0_0 a0_1 (J_ref01_bits_116 cp n (n + 300))
theorem eq_ref01_bits (n : Nat) (a0_0 : Int) (a0_1 : Int) : CP C (n + 1) F_ref01_bits [.agg [.int .u64 a0_0, .int .u64 a0_1]] = R_ref01_bits (CP C n) n a0_0 a0_1 :=
  (CP_pure C n F_ref01_bits _ (by kernel_rfl) (by kernel_rfl)).trans ((K_ref01_bits_1 _ n a0_0 a0_1).trans (congrArg (T_ref01_bits_1 (CP C n) a0_0 a0_1) (funext fun x0 => (funext fun x1 => (funext fun x2 => (funext fun l3 => (JE_ref01_bits_116 n (n + 300)) x0 x1 x2 l3))))))
-- ref01_wide
def S_ref01_wide_116 (x0 : Int) (l1 : List AV) (x2 : Int) (x3 : Int) : St := ⟨[.junk, .ptr (some (0, 0)), .ptr (some (1, 0)), .ptr (some (2, 0)), .int .i64 x0, .junk, .junk, .junk, .junk, .junk, .junk, .junk, .junk, .junk, .junk, .junk, .junk, .junk, .junk, .junk, .junk, .junk, .junk, .junk, .junk, .junk, .junk, .junk, .junk, .junk, .junk], [.cells 88 l1, .cells 71 [.int .u64 0, .int .u64 0], .cells 71 [.int .u64 x2, .int .u64 x3]]⟩
def T_ref01_wide_116 (cp : FuncId → List AV → Option AV) (x0 : Int) (l1 : List AV) (x2 : Int) (x3 : Int) (r116 : Int → List AV → Int → Int → Option AV) : Option AV :=
 (cond (decide (x0 < 64))
 (cond ((decide (0 ≤ x0)) && (decide (x0 < 128)))
 (cond (fits (0 + ((Int.toNat x0) * 1)) 1 l1)
 (AV.boolK (nth l1 (0 + ((Int.toNat x0) * 1))) fun b1 =>
 (cond b1
 (cond (decide ((IntKind.u64.wrap x0) < 0))
 none
 (bnd (IntKind.u64.wrap (1 * (2 ^ (min (Int.toNat (IntKind.u64.wrap x0)) 64)))) fun y2 =>
 (bnd (IntKind.u64.wrap ((BitVec.ofInt 64 x3 ||| BitVec.ofInt 64 y2).toNat : Int)) fun y3 =>
 (cond ((decide (0 ≤ (IntKind.i64.wrap (64 + x0)))) && (decide ((IntKind.i64.wrap (64 + x0)) < 128)))
 (cond (fits (0 + ((Int.toNat (IntKind.i64.wrap (64 + x0))) * 1)) 1 l1)
 (AV.boolK (nth l1 (0 + ((Int.toNat (IntKind.i64.wrap (64 + x0))) * 1))) fun b4 =>
 (cond b4
 (cond (decide ((IntKind.u64.wrap x0) < 0))
 none
 (bnd (IntKind.u64.wrap (1 * (2 ^ (min (Int.toNat (IntKind.u64.wrap x0)) 64)))) fun y5 =>
 (bnd (IntKind.u64.wrap ((BitVec.ofInt 64 x2 ||| BitVec.ofInt 64 y5).toNat : Int)) fun y6 =>
 (r116 (IntKind.i64.wrap (x0 + 1)) l1 y6 y3))))
 (r116 (IntKind.i64.wrap (x0 + 1)) l1 x2 y3)))
 none)
 none))))
 (cond ((decide (0 ≤ (IntKind.i64.wrap (64 + x0)))) && (decide ((IntKind.i64.wrap (64 + x0)) < 128)))
 (cond (fits (0 + ((Int.toNat (IntKind.i64.wrap (64 + x0))) * 1)) 1 l1)
 (AV.boolK (nth l1 (0 + ((Int.toNat (IntKind.i64.wrap (64 + x0))) * 1))) fun b7 =>
 (cond b7
 (cond (decide ((IntKind.u64.wrap x0) < 0))
 none
 (bnd (IntKind.u64.wrap (1 * (2 ^ (min (Int.toNat (IntKind.u64.wrap x0)) 64)))) fun y8 =>
 (bnd (IntKind.u64.wrap ((BitVec.ofInt 64 x2 ||| BitVec.ofInt 64 y8).toNat : Int)) fun y9 =>
 (r116 (IntKind.i64.wrap (x0 + 1)) l1 y9 x3))))
 (r116 (IntKind.i64.wrap (x0 + 1)) l1 x2 x3)))
 none)
 none)))
 none)
 none)
 (some (.agg [.int .u64 x2, .int .u64 x3])))
theorem K_ref01_wide_116 (j : Jump) (n : Nat) (m116 : Nat) (x0 : Int) (l1 : List AV) (x2 : Int) (x3 : Int) : enter (topEnv C (CP C n) n F_ref01_wide) (some j) (bodyOf C.P F_ref01_wide) (endOf C.P F_ref01_wide) [false, false, true, false, true, true] [(m116 + 1)] (S_ref01_wide_116 x0 l1 x2 x3) = T_ref01_wide_116 (CP C n) x0 l1 x2 x3 (fun x0 l1 x2 x3 => j [false, false, true, false, true, true] [m116] (S_ref01_wide_116 x0 l1 x2 x3)) := by kernel_rfl
def J_ref01_wide_116 (cp : FuncId → List AV → Option AV) (n : Nat) : Nat → Int → List AV → Int → Int → Option AV
  | 0 => (fun x0 l1 x2 x3 => none)
  | m + 1 => (fun x0 l1 x2 x3 => T_ref01_wide_116 cp x0 l1 x2 x3 (J_ref01_wide_116 cp n m))
theorem Js_ref01_wide_116 (cp : FuncId → List AV → Option AV) (n : Nat) (m : Nat) (x0 : Int) (l1 : List AV) (x2 : Int) (x3 : Int) : J_ref01_wide_116 cp n (m + 1) x0 l1 x2 x3 = T_ref01_wide_116 cp x0 l1 x2 x3 (J_ref01_wide_116 cp n m) := of_eq_true (eq_self _)
theorem JE_ref01_wide_116 (n : Nat) : ∀ (m : Nat) (x0 : Int) (l1 : List AV) (x2 : Int) (x3 : Int), jT (topEnv C (CP C n) n F_ref01_wide) (bodyOf C.P F_ref01_wide) (endOf C.P F_ref01_wide) [false, false, true, false, true, true] [m] (S_ref01_wide_116 x0 l1 x2 x3) = J_ref01_wide_116 (CP C n) n m x0 l1 x2 x3
  | 0, x0, l1, x2, x3 => (jT_eq _ _ _ _ _ _).trans (by kernel_rfl)
  | m + 1, x0, l1, x2, x3 => (jT_eq _ _ _ _ _ _).trans ((K_ref01_wide_116 _ n m x0 l1 x2 x3).trans (congrArg (T_ref01_wide_116 (CP C n) x0 l1 x2 x3) (funext fun x0 => (funext fun l1 => (funext fun x2 => (funext fun x3 => (JE_ref01_wide_116 n m) x0 l1 x2 x3))))))
def T_ref01_wide_1 (cp : FuncId → List AV → Option AV) (a0 : List AV) (j116 : Int → List AV → Int → Int → Option AV) : Option AV :=
 (j116 0 a0 0 0)
theorem K_ref01_wide_1 (j : Jump) (n : Nat) (a0 : List AV) : ex (topEnv C (CP C n) n F_ref01_wide) (some j) (bodyOf C.P F_ref01_wide) 1 [] [] (endOf C.P F_ref01_wide) (startOf C.P F_ref01_wide [.agg a0]) = T_ref01_wide_1 (CP C n) a0 (fun x0 l1 x2 x3 => j [false, false, true, false, true, true] [(n + 300)] (S_ref01_wide_116 x0 l1 x2 x3)) := by kernel_rfl
def R_ref01_wide (cp : FuncId → List AV → Option AV) (n : Nat) (a0 : List AV) : Option AV := T_ref01_wide_1 cp a0 (J_ref01_wide_116 cp n (n + 300))
theorem eq_ref01_wide (n : Nat) (a0 : List AV) : CP C (n + 1) F_ref01_wide [.agg a0] = cond (AV.pureL [.agg a0]) (R_ref01_wide (CP C n) n a0) none :=
  (CP_run C n F_ref01_wide _ (by kernel_rfl)).trans (congrArg (fun x => cond (AV.pureL [.agg a0]) x none) ((K_ref01_wide_1 _ n a0).trans (congrArg (T_ref01_wide_1 (CP C n) a0) (funext fun x0 => (funext fun l1 => (funext fun x2 => (funext fun x3 => (JE_ref01_wide_116 n (n + 300)) x0 l1 x2 x3)))))))
-- ref01_Add
def R_ref01_Add (cp : FuncId → List AV → Option AV) (_n : Nat) (a0_0 : Int) (a0_1 : Int) (a1_0 : Int) (a1_1 : Int) : Option AV :=
 ((cp F_ref01_bits [.agg [.int .u64 a0_0, .int .u64 a0_1]]).bind fun r1 =>
 (AV.aggK r1 fun l2 =>
 ((cp F_ref01_bits [.agg [.int .u64 a1_0, .int .u64 a1_1]]).bind fun r3 =>
 (AV.aggK r3 fun l4 =>
 (cond ((AV.pureL l2) && ((AV.pureL l4) && true))
 ((cp F_ref01_sum [.agg l2, .agg l4, .bool false]).bind fun r5 =>
 (AV.tupK r5 fun l6 =>
 (consK l6 fun v7 l8 =>
 (AV.aggK v7 fun l9 =>
 (consK l8 fun v10 l11 =>
 (AV.boolK v10 fun b12 =>
 (nilK l11
 (cond (lenIs l9 128)
 (cond (cellsOk l9)
 (cond (fits 0 128 (splice [.bool false, .bool false, .bool false, .bool false, .bool false, .bool false, .bool false, .bool false, .bool false, .bool false, .bool false, .bool false, .bool false, .bool false, .bool false, .bool false, .bool false, .bool false, .bool false, .bool false, .bool false, .bool false, .bool false, .bool false, .bool false, .bool false, .bool false, .bool false, .bool false, .bool false, .bool false, .bool false, .bool false, .bool false, .bool false, .bool false, .bool false, .bool false, .bool false, .bool false, .bool false, .bool false, .bool false, .bool false, .bool false, .bool false, .bool false, .bool false, .bool false, .bool false, .bool false, .bool false, .bool false, .bool false, .bool false, .bool false, .bool false, .bool false, .bool false, .bool false, .bool false, .bool false, .bool false, .bool false, .bool false, .bool false, .bool false, .bool false, .bool false, .bool false, .bool false, .bool false, .bool false, .bool false, .bool false, .bool false, .bool false, .bool false, .bool false, .bool false, .bool false, .bool false, .bool false, .bool false, .bool false, .bool false, .bool false, .bool false, .bool false, .bool false, .bool false, .bool false, .bool false, .bool false, .bool false, .bool false, .bool false, .bool false, .bool false, .bool false, .bool false, .bool false, .bool false, .bool false, .bool false, .bool false, .bool false, .bool false, .bool false, .bool false, .bool false, .bool false, .bool false, .bool false, .bool false, .bool false, .bool false, .bool false, .bool false, .bool false, .bool false, .bool false, .bool false, .bool false, .bool false, .bool false, .bool false, .bool false] 0 l9))
 (cond ((AV.pureL (List.take 128 (List.drop 0 (splice [.bool false, .bool false, .bool false, .bool false, .bool false, .bool false, .bool false, .bool false, .bool false, .bool false, .bool false, .bool false, .bool false, .bool false, .bool false, .bool false, .bool false, .bool false, .bool false, .bool false, .bool false, .bool false, .bool false, .bool false, .bool false, .bool false, .bool false, .bool false, .bool false, .bool false, .bool false, .bool false, .bool false, .bool false, .bool false, .bool false, .bool false, .bool false, .bool false, .bool false, .bool false, .bool false, .bool false, .bool false, .bool false, .bool false, .bool false, .bool false, .bool false, .bool false, .bool false, .bool false, .bool false, .bool false, .bool false, .bool false, .bool false, .bool false, .bool false, .bool false, .bool false, .bool false, .bool false, .bool false, .bool false, .bool false, .bool false, .bool false, .bool false, .bool false, .bool false, .bool false, .bool false, .bool false, .bool false, .bool false, .bool false, .bool false, .bool false, .bool false, .bool false, .bool false, .bool false, .bool false, .bool false, .bool false, .bool false, .bool false, .bool false, .bool false, .bool false, .bool false, .bool false, .bool false, .bool false, .bool false, .bool false, .bool false, .bool false, .bool false, .bool false, .bool false, .bool false, .bool false, .bool false, .bool false, .bool false, .bool false, .bool false, .bool false, .bool false, .bool false, .bool false, .bool false, .bool false, .bool false, .bool false, .bool false, .bool false, .bool false, .bool false, .bool false, .bool false, .bool false, .bool false, .bool false, .bool false, .bool false] 0 l9)))) && true)
 ((cp F_ref01_wide [.agg (List.take 128 (List.drop 0 (splice [.bool false, .bool false, .bool false, .bool false, .bool false, .bool false, .bool false, .bool false, .bool false, .bool false, .bool false, .bool false, .bool false, .bool false, .bool false, .bool false, .bool false, .bool false, .bool false, .bool false, .bool false, .bool false, .bool false, .bool false, .bool false, .bool false, .bool false, .bool false, .bool false, .bool false, .bool false, .bool false, .bool false, .bool false, .bool false, .bool false, .bool false, .bool false, .bool false, .bool false, .bool false, .bool false, .bool false, .bool false, .bool false, .bool false, .bool false, .bool false, .bool false, .bool false, .bool false, .bool false, .bool false, .bool false, .bool false, .bool false, .bool false, .bool false, .bool false, .bool false, .bool false, .bool false, .bool false, .bool false, .bool false, .bool false, .bool false, .bool false, .bool false, .bool false, .bool false, .bool false, .bool false, .bool false, .bool false, .bool false, .bool false, .bool false, .bool false, .bool false, .bool false, .bool false, .bool false, .bool false, .bool false, .bool false, .bool false, .bool false, .bool false, .bool false, .bool false, .bool false, .bool false, .bool false, .bool false, .bool false, .bool false, .bool false, .bool false, .bool false, .bool false, .bool false, .bool false, .bool false, .bool false, .bool false, .bool false, .bool false, .bool false, .bool false, .bool false, .bool false, .bool false, .bool false, .bool false, .bool false, .bool false, .bool false, .bool false, .bool false, .bool false, .bool false, .bool false, .bool false, .bool false, .bool false, .bool false, .bool false] 0 l9)))]).bind fun r13 =>
 (AV.aggK r13 fun l14 =>
 (consK l14 fun v15 l16 =>
 (AV.intK .u64 v15 fun i17 =>
 (consK l16 fun v18 l19 =>
 (AV.intK .u64 v18 fun i20 =>
 (nilK l19
 (some (.tup [.agg [.int .u64 i17, .int .u64 i20], .bool b12])))))))))
 none)
 none)
 none)
 none))))))))
 none)))))
theorem eq_ref01_Add (n : Nat) (a0_0 : Int) (a0_1 : Int) (a1_0 : Int) (a1_1 : Int) : CP C (n + 1) F_ref01_Add [.agg [.int .u64 a0_0, .int .u64 a0_1], .agg [.int .u64 a1_0, .int .u64 a1_1]] = R_ref01_Add (CP C n) n a0_0 a0_1 a1_0 a1_1 := by kernel_rfl
-- ref01_Of
def R_ref01_Of (cp : FuncId → List AV → Option AV) (_n : Nat) (a0 : Int) : Option AV :=
 (cond (decide (a0 < 0))
 (some (.agg [.int .u64 18446744073709551615, .int .u64 (IntKind.u64.wrap a0)]))
 (some (.agg [.int .u64 0, .int .u64 (IntKind.u64.wrap a0)])))
theorem eq_ref01_Of (n : Nat) (a0 : Int) : CP C (n + 1) F_ref01_Of [.int .i64 a0] = R_ref01_Of (CP C n) n a0 := by kernel_rfl
-- ref01_Int
def R_ref01_Int (cp : FuncId → List AV → Option AV) (_n : Nat) (a0_0 : Int) (a0_1 : Int) : Option AV :=
 ((cp F_ref01_Of [.int .i64 (IntKind.i64.wrap a0_1)]).bind fun r1 =>
 (AV.aggK r1 fun l2 =>
 (consK l2 fun v3 l4 =>
 (AV.intK .u64 v3 fun i5 =>
 (consK l4 fun v6 l7 =>
 (AV.intK .u64 v6 fun i8 =>
 (nilK l7
 (cond (!((i5 == a0_0) && ((i8 == a0_1) && true)))
 (some (.tup [.int .i64 0, .int .i64 8]))
 (some (.tup [.int .i64 (IntKind.i64.wrap a0_1), .int .i64 0]))))))))))
theorem eq_ref01_Int (n : Nat) (a0_0 : Int) (a0_1 : Int) : CP C (n + 1) F_ref01_Int [.agg [.int .u64 a0_0, .int .u64 a0_1]] = R_ref01_Int (CP C n) n a0_0 a0_1 := by kernel_rfl
-- ref02_Add
def R_ref02_Add (cp : FuncId → List AV → Option AV) (_n : Nat) (a0 : Int) (a1 : Int) : Option AV :=
 ((cp F_ref01_Of [.int .i64 a0]).bind fun r1 =>
 (AV.aggK r1 fun l2 =>
 (consK l2 fun v3 l4 =>
 (AV.intK .u64 v3 fun i5 =>
 (consK l4 fun v6 l7 =>
 (AV.intK .u64 v6 fun i8 =>
 (nilK l7
 ((cp F_ref01_Of [.int .i64 a1]).bind fun r9 =>
 (AV.aggK r9 fun l10 =>
 (consK l10 fun v11 l12 =>
 (AV.intK .u64 v11 fun i13 =>
 (consK l12 fun v14 l15 =>
 (AV.intK .u64 v14 fun i16 =>
 (nilK l15
 ((cp F_ref01_Add [.agg [.int .u64 i5, .int .u64 i8], .agg [.int .u64 i13, .int .u64 i16]]).bind fun r17 =>
 (AV.tupK r17 fun l18 =>
 (consK l18 fun v19 l20 =>
 (AV.aggK v19 fun l21 =>
 (consK l21 fun v22 l23 =>
 (AV.intK .u64 v22 fun i24 =>
 (consK l23 fun v25 l26 =>
 (AV.intK .u64 v25 fun i27 =>
 (nilK l26
 (consK l20 fun v28 l29 =>
 (AV.boolK v28 fun b30 =>
 (nilK l29
 ((cp F_ref01_Int [.agg [.int .u64 i24, .int .u64 i27]]).bind fun r31 =>
 (AV.tupK r31 fun l32 =>
 (consK l32 fun v33 l34 =>
 (AV.intK .i64 v33 fun i35 =>
 (consK l34 fun v36 l37 =>
 (AV.intK .i64 v36 fun i38 =>
 (nilK l37
 (some (.tup [.int .i64 i35, .int .i64 i38])))))))))))))))))))))))))))))))))))
theorem eq_ref02_Add (n : Nat) (a0 : Int) (a1 : Int) : CP C (n + 1) F_ref02_Add [.int .i64 a0, .int .i64 a1] = R_ref02_Add (CP C n) n a0 a1 := by kernel_rfl
-- ref01_Below
def R_ref01_Below (cp : FuncId → List AV → Option AV) (_n : Nat) (a0_0 : Int) (a0_1 : Int) : Option AV :=
 (some (.bool (decide (a0_0 ≥ 9223372036854775808))))
theorem eq_ref01_Below (n : Nat) (a0_0 : Int) (a0_1 : Int) : CP C (n + 1) F_ref01_Below [.agg [.int .u64 a0_0, .int .u64 a0_1]] = R_ref01_Below (CP C n) n a0_0 a0_1 := by kernel_rfl
-- ref01_turned
def S_ref01_turned_52 (x0 : Int) (l1 : List AV) : St := ⟨[.junk, .ptr (some (0, 0)), .ptr (some (1, 0)), .int .i64 x0, .junk, .junk, .junk, .junk, .junk, .junk, .junk, .junk, .junk, .junk, .junk], [.cells 88 l1, .cells 88 [.bool false, .bool false, .bool false, .bool false, .bool false, .bool false, .bool false, .bool false, .bool false, .bool false, .bool false, .bool false, .bool false, .bool false, .bool false, .bool false, .bool false, .bool false, .bool false, .bool false, .bool false, .bool false, .bool false, .bool false, .bool false, .bool false, .bool false, .bool false, .bool false, .bool false, .bool false, .bool false, .bool false, .bool false, .bool false, .bool false, .bool false, .bool false, .bool false, .bool false, .bool false, .bool false, .bool false, .bool false, .bool false, .bool false, .bool false, .bool false, .bool false, .bool false, .bool false, .bool false, .bool false, .bool false, .bool false, .bool false, .bool false, .bool false, .bool false, .bool false, .bool false, .bool false, .bool false, .bool false, .bool false, .bool false, .bool false, .bool false, .bool false, .bool false, .bool false, .bool false, .bool false, .bool false, .bool false, .bool false, .bool false, .bool false, .bool false, .bool false, .bool false, .bool false, .bool false, .bool false, .bool false, .bool false, .bool false, .bool false, .bool false, .bool false, .bool false, .bool false, .bool false, .bool false, .bool false, .bool false, .bool false, .bool false, .bool false, .bool false, .bool false, .bool false, .bool false, .bool false, .bool false, .bool false, .bool false, .bool false, .bool false, .bool false, .bool false, .bool false, .bool false, .bool false, .bool false, .bool false, .bool false, .bool false, .bool false, .bool false, .bool false, .bool false, .bool false, .bool false, .bool false, .bool false, .bool false, .bool false]]⟩
def T_ref01_turned_52 (cp : FuncId → List AV → Option AV) (x0 : Int) (l1 : List AV) (r52 : Int → List AV → Option AV) : Option AV :=
 (cond (decide (x0 < 128))
 (cond ((decide (0 ≤ x0)) && (decide (x0 < 128)))
 (cond (fits (0 + ((Int.toNat x0) * 1)) 1 l1)
 (unK .not (nth l1 (0 + ((Int.toNat x0) * 1))) fun v1 =>
 (cond ((decide (0 ≤ x0)) && (decide (x0 < 128)))
 (cond (lenIs (cellsOf v1) 1)
 (cond (cellsOk (cellsOf v1))
 (cond (fits (0 + ((Int.toNat x0) * 1)) 1 l1)
 (r52 (IntKind.i64.wrap (x0 + 1)) (splice l1 (0 + ((Int.toNat x0) * 1)) (cellsOf v1)))
 none)
 none)
 none)
 none))
 none)
 none)
 (cond (fits 0 128 l1)
 (cond (lenIs (List.take 128 (List.drop 0 l1)) 128)
 (cond (cellsOk (List.take 128 (List.drop 0 l1)))
 (cond (fits 0 128 (splice [.bool false, .bool false, .bool false, .bool false, .bool false, .bool false, .bool false, .bool false, .bool false, .bool false, .bool false, .bool false, .bool false, .bool false, .bool false, .bool false, .bool false, .bool false, .bool false, .bool false, .bool false, .bool false, .bool false, .bool false, .bool false, .bool false, .bool false, .bool false, .bool false, .bool false, .bool false, .bool false, .bool false, .bool false, .bool false, .bool false, .bool false, .bool false, .bool false, .bool false, .bool false, .bool false, .bool false, .bool false, .bool false, .bool false, .bool false, .bool false, .bool false, .bool false, .bool false, .bool false, .bool false, .bool false, .bool false, .bool false, .bool false, .bool false, .bool false, .bool false, .bool false, .bool false, .bool false, .bool false, .bool false, .bool false, .bool false, .bool false, .bool false, .bool false, .bool false, .bool false, .bool false, .bool false, .bool false, .bool false, .bool false, .bool false, .bool false, .bool false, .bool false, .bool false, .bool false, .bool false, .bool false, .bool false, .bool false, .bool false, .bool false, .bool false, .bool false, .bool false, .bool false, .bool false, .bool false, .bool false, .bool false, .bool false, .bool false, .bool false, .bool false, .bool false, .bool false, .bool false, .bool false, .bool false, .bool false, .bool false, .bool false, .bool false, .bool false, .bool false, .bool false, .bool false, .bool false, .bool false, .bool false, .bool false, .bool false, .bool false, .bool false, .bool false, .bool false, .bool false, .bool false, .bool false, .bool false, .bool false] 0 (List.take 128 (List.drop 0 l1))))
 (cond (AV.pureL (List.take 128 (List.drop 0 (splice [.bool false, .bool false, .bool false, .bool false, .bool false, .bool false, .bool false, .bool false, .bool false, .bool false, .bool false, .bool false, .bool false, .bool false, .bool false, .bool false, .bool false, .bool false, .bool false, .bool false, .bool false, .bool false, .bool false, .bool false, .bool false, .bool false, .bool false, .bool false, .bool false, .bool false, .bool false, .bool false, .bool false, .bool false, .bool false, .bool false, .bool false, .bool false, .bool false, .bool false, .bool false, .bool false, .bool false, .bool false, .bool false, .bool false, .bool false, .bool false, .bool false, .bool false, .bool false, .bool false, .bool false, .bool false, .bool false, .bool false, .bool false, .bool false, .bool false, .bool false, .bool false, .bool false, .bool false, .bool false, .bool false, .bool false, .bool false, .bool false, .bool false, .bool false, .bool false, .bool false, .bool false, .bool false, .bool false, .bool false, .bool false, .bool false, .bool false, .bool false, .bool false, .bool false, .bool false, .bool false, .bool false, .bool false, .bool false, .bool false, .bool false, .bool false, .bool false, .bool false, .bool false, .bool false, .bool false, .bool false, .bool false, .bool false, .bool false, .bool false, .bool false, .bool false, .bool false, .bool false, .bool false, .bool false, .bool false, .bool false, .bool false, .bool false, .bool false, .bool false, .bool false, .bool false, .bool false, .bool false, .bool false, .bool false, .bool false, .bool false, .bool false, .bool false, .bool false, .bool false, .bool false, .bool false, .bool false, .bool false] 0 (List.take 128 (List.drop 0 l1))))))
 (some (.agg (List.take 128 (List.drop 0 (splice [.bool false, .bool false, .bool false, .bool false, .bool false, .bool false, .bool false, .bool false, .bool false, .bool false, .bool false, .bool false, .bool false, .bool false, .bool false, .bool false, .bool false, .bool false, .bool false, .bool false, .bool false, .bool false, .bool false, .bool false, .bool false, .bool false, .bool false, .bool false, .bool false, .bool false, .bool false, .bool false, .bool false, .bool false, .bool false, .bool false, .bool false, .bool false, .bool false, .bool false, .bool false, .bool false, .bool false, .bool false, .bool false, .bool false, .bool false, .bool false, .bool false, .bool false, .bool false, .bool false, .bool false, .bool false, .bool false, .bool false, .bool false, .bool false, .bool false, .bool false, .bool false, .bool false, .bool false, .bool false, .bool false, .bool false, .bool false, .bool false, .bool false, .bool false, .bool false, .bool false, .bool false, .bool false, .bool false, .bool false, .bool false, .bool false, .bool false, .bool false, .bool false, .bool false, .bool false, .bool false, .bool false, .bool false, .bool false, .bool false, .bool false, .bool false, .bool false, .bool false, .bool false, .bool false, .bool false, .bool false, .bool false, .bool false, .bool false, .bool false, .bool false, .bool false, .bool false, .bool false, .bool false, .bool false, .bool false, .bool false, .bool false, .bool false, .bool false, .bool false, .bool false, .bool false, .bool false, .bool false, .bool false, .bool false, .bool false, .bool false, .bool false, .bool false, .bool false, .bool false, .bool false, .bool false, .bool false, .bool false] 0 (List.take 128 (List.drop 0 l1)))))))
 none)
 none)
 none)
 none)
 none))
theorem K_ref01_turned_52 (j : Jump) (n : Nat) (m52 : Nat) (x0 : Int) (l1 : List AV) : enter (topEnv C (CP C n) n F_ref01_turned) (some j) (bodyOf C.P F_ref01_turned) (endOf C.P F_ref01_turned) [false, false, true, false, true] [(m52 + 1)] (S_ref01_turned_52 x0 l1) = T_ref01_turned_52 (CP C n) x0 l1 (fun x0 l1 => j [false, false, true, false, true] [m52] (S_ref01_turned_52 x0 l1)) := by kernel_rfl
def J_ref01_turned_52 (cp : FuncId → List AV → Option AV) (n : Nat) : Nat → Int → List AV → Option AV
  | 0 => (fun x0 l1 => none)
  | m + 1 => (fun x0 l1 => T_ref01_turned_52 cp x0 l1 (J_ref01_turned_52 cp n m))
theorem Js_ref01_turned_52 (cp : FuncId → List AV → Option AV) (n : Nat) (m : Nat) (x0 : Int) (l1 : List AV) : J_ref01_turned_52 cp n (m + 1) x0 l1 = T_ref01_turned_52 cp x0 l1 (J_ref01_turned_52 cp n m) := of_eq_true (eq_self _)
theorem JE_ref01_turned_52 (n : Nat) : ∀ (m : Nat) (x0 : Int) (l1 : List AV), jT (topEnv C (CP C n) n F_ref01_turned) (bodyOf C.P F_ref01_turned) (endOf C.P F_ref01_turned) [false, false, true, false, true] [m] (S_ref01_turned_52 x0 l1) = J_ref01_turned_52 (CP C n) n m x0 l1
  | 0, x0, l1 => (jT_eq _ _ _ _ _ _).trans (by kernel_rfl)
  | m + 1, x0, l1 => (jT_eq _ _ _ _ _ _).trans ((K_ref01_turned_52 _ n m x0 l1).trans (congrArg (T_ref01_turned_52 (CP C n) x0 l1) (funext fun x0 => (funext fun l1 => (JE_ref01_turned_52 n m) x0 l1))))
def T_ref01_turned_1 (cp : FuncId → List AV → Option AV) (a0 : List AV) (j52 : Int → List AV → Option AV) : Option AV :=
 (j52 0 a0)
theorem K_ref01_turned_1 (j : Jump) (n : Nat) (a0 : List AV) : ex (topEnv C (CP C n) n F_ref01_turned) (some j) (bodyOf C.P F_ref01_turned) 1 [] [] (endOf C.P F_ref01_turned) (startOf C.P F_ref01_turned [.agg a0]) = T_ref01_turned_1 (CP C n) a0 (fun x0 l1 => j [false, false, true, false, true] [(n + 300)] (S_ref01_turned_52 x0 l1)) := by kernel_rfl
def R_ref01_turned (cp : FuncId → List AV → Option AV) (n : Nat) (a0 : List AV) : Option AV := T_ref01_turned_1 cp a0 (J_ref01_turned_52 cp n (n + 300))
theorem eq_ref01_turned (n : Nat) (a0 : List AV) : CP C (n + 1) F_ref01_turned [.agg a0] = cond (AV.pureL [.agg a0]) (R_ref01_turned (CP C n) n a0) none :=
  (CP_run C n F_ref01_turned _ (by kernel_rfl)).trans (congrArg (fun x => cond (AV.pureL [.agg a0]) x none) ((K_ref01_turned_1 _ n a0).trans (congrArg (T_ref01_turned_1 (CP C n) a0) (funext fun x0 => (funext fun l1 => (JE_ref01_turned_52 n (n + 300)) x0 l1)))))
-- ref01_Sub
def R_ref01_Sub (cp : FuncId → List AV → Option AV) (_n : Nat) (a0_0 : Int) (a0_1 : Int) (a1_0 : Int) (a1_1 : Int) : Option AV :=
 ((cp F_ref01_bits [.agg [.int .u64 a0_0, .int .u64 a0_1]]).bind fun r1 =>
 (AV.aggK r1 fun l2 =>
 ((cp F_ref01_bits [.agg [.int .u64 a1_0, .int .u64 a1_1]]).bind fun r3 =>
 (AV.aggK r3 fun l4 =>
 (cond ((AV.pureL l4) && true)
 ((cp F_ref01_turned [.agg l4]).bind fun r5 =>
 (AV.aggK r5 fun l6 =>
 (cond ((AV.pureL l2) && ((AV.pureL l6) && true))
 ((cp F_ref01_sum [.agg l2, .agg l6, .bool true]).bind fun r7 =>
 (AV.tupK r7 fun l8 =>
 (consK l8 fun v9 l10 =>
 (AV.aggK v9 fun l11 =>
 (consK l10 fun v12 l13 =>
 (AV.boolK v12 fun b14 =>
 (nilK l13
 (cond (lenIs l11 128)
 (cond (cellsOk l11)
 (cond (fits 0 128 (splice [.bool false, .bool false, .bool false, .bool false, .bool false, .bool false, .bool false, .bool false, .bool false, .bool false, .bool false, .bool false, .bool false, .bool false, .bool false, .bool false, .bool false, .bool false, .bool false, .bool false, .bool false, .bool false, .bool false, .bool false, .bool false, .bool false, .bool false, .bool false, .bool false, .bool false, .bool false, .bool false, .bool false, .bool false, .bool false, .bool false, .bool false, .bool false, .bool false, .bool false, .bool false, .bool false, .bool false, .bool false, .bool false, .bool false, .bool false, .bool false, .bool false, .bool false, .bool false, .bool false, .bool false, .bool false, .bool false, .bool false, .bool false, .bool false, .bool false, .bool false, .bool false, .bool false, .bool false, .bool false, .bool false, .bool false, .bool false, .bool false, .bool false, .bool false, .bool false, .bool false, .bool false, .bool false, .bool false, .bool false, .bool false, .bool false, .bool false, .bool false, .bool false, .bool false, .bool false, .bool false, .bool false, .bool false, .bool false, .bool false, .bool false, .bool false, .bool false, .bool false, .bool false, .bool false, .bool false, .bool false, .bool false, .bool false, .bool false, .bool false, .bool false, .bool false, .bool false, .bool false, .bool false, .bool false, .bool false, .bool false, .bool false, .bool false, .bool false, .bool false, .bool false, .bool false, .bool false, .bool false, .bool false, .bool false, .bool false, .bool false, .bool false, .bool false, .bool false, .bool false, .bool false, .bool false, .bool false, .bool false] 0 l11))
 (cond ((AV.pureL (List.take 128 (List.drop 0 (splice [.bool false, .bool false, .bool false, .bool false, .bool false, .bool false, .bool false, .bool false, .bool false, .bool false, .bool false, .bool false, .bool false, .bool false, .bool false, .bool false, .bool false, .bool false, .bool false, .bool false, .bool false, .bool false, .bool false, .bool false, .bool false, .bool false, .bool false, .bool false, .bool false, .bool false, .bool false, .bool false, .bool false, .bool false, .bool false, .bool false, .bool false, .bool false, .bool false, .bool false, .bool false, .bool false, .bool false, .bool false, .bool false, .bool false, .bool false, .bool false, .bool false, .bool false, .bool false, .bool false, .bool false, .bool false, .bool false, .bool false, .bool false, .bool false, .bool false, .bool false, .bool false, .bool false, .bool false, .bool false, .bool false, .bool false, .bool false, .bool false, .bool false, .bool false, .bool false, .bool false, .bool false, .bool false, .bool false, .bool false, .bool false, .bool false, .bool false, .bool false, .bool false, .bool false, .bool false, .bool false, .bool false, .bool false, .bool false, .bool false, .bool false, .bool false, .bool false, .bool false, .bool false, .bool false, .bool false, .bool false, .bool false, .bool false, .bool false, .bool false, .bool false, .bool false, .bool false, .bool false, .bool false, .bool false, .bool false, .bool false, .bool false, .bool false, .bool false, .bool false, .bool false, .bool false, .bool false, .bool false, .bool false, .bool false, .bool false, .bool false, .bool false, .bool false, .bool false, .bool false, .bool false, .bool false, .bool false, .bool false] 0 l11)))) && true)
 ((cp F_ref01_wide [.agg (List.take 128 (List.drop 0 (splice [.bool false, .bool false, .bool false, .bool false, .bool false, .bool false, .bool false, .bool false, .bool false, .bool false, .bool false, .bool false, .bool false, .bool false, .bool false, .bool false, .bool false, .bool false, .bool false, .bool false, .bool false, .bool false, .bool false, .bool false, .bool false, .bool false, .bool false, .bool false, .bool false, .bool false, .bool false, .bool false, .bool false, .bool false, .bool false, .bool false, .bool false, .bool false, .bool false, .bool false, .bool false, .bool false, .bool false, .bool false, .bool false, .bool false, .bool false, .bool false, .bool false, .bool false, .bool false, .bool false, .bool false, .bool false, .bool false, .bool false, .bool false, .bool false, .bool false, .bool false, .bool false, .bool false, .bool false, .bool false, .bool false, .bool false, .bool false, .bool false, .bool false, .bool false, .bool false, .bool false, .bool false, .bool false, .bool false, .bool false, .bool false, .bool false, .bool false, .bool false, .bool false, .bool false, .bool false, .bool false, .bool false, .bool false, .bool false, .bool false, .bool false, .bool false, .bool false, .bool false, .bool false, .bool false, .bool false, .bool false, .bool false, .bool false, .bool false, .bool false, .bool false, .bool false, .bool false, .bool false, .bool false, .bool false, .bool false, .bool false, .bool false, .bool false, .bool false, .bool false, .bool false, .bool false, .bool false, .bool false, .bool false, .bool false, .bool false, .bool false, .bool false, .bool false, .bool false, .bool false, .bool false, .bool false, .bool false, .bool false] 0 l11)))]).bind fun r15 =>
 (AV.aggK r15 fun l16 =>
 (consK l16 fun v17 l18 =>
 (AV.intK .u64 v17 fun i19 =>
 (consK l18 fun v20 l21 =>
 (AV.intK .u64 v20 fun i22 =>
 (nilK l21
 (some (.tup [.agg [.int .u64 i19, .int .u64 i22], .bool (!b14)])))))))))
 none)
 none)
 none)
 none))))))))
 none)))
 none)))))
theorem eq_ref01_Sub (n : Nat) (a0_0 : Int) (a0_1 : Int) (a1_0 : Int) (a1_1 : Int) : CP C (n + 1) F_ref01_Sub [.agg [.int .u64 a0_0, .int .u64 a0_1], .agg [.int .u64 a1_0, .int .u64 a1_1]] = R_ref01_Sub (CP C n) n a0_0 a0_1 a1_0 a1_1 := by kernel_rfl
-- ref01_Neg
def R_ref01_Neg (cp : FuncId → List AV → Option AV) (_n : Nat) (a0_0 : Int) (a0_1 : Int) : Option AV :=
 ((cp F_ref01_Sub [.agg [.int .u64 0, .int .u64 0], .agg [.int .u64 a0_0, .int .u64 a0_1]]).bind fun r1 =>
 (AV.tupK r1 fun l2 =>
 (consK l2 fun v3 l4 =>
 (AV.aggK v3 fun l5 =>
 (consK l5 fun v6 l7 =>
 (AV.intK .u64 v6 fun i8 =>
 (consK l7 fun v9 l10 =>
 (AV.intK .u64 v9 fun i11 =>
 (nilK l10
 (consK l4 fun v12 l13 =>
 (AV.boolK v12 fun b14 =>
 (nilK l13
 (some (.agg [.int .u64 i8, .int .u64 i11]))))))))))))))
theorem eq_ref01_Neg (n : Nat) (a0_0 : Int) (a0_1 : Int) : CP C (n + 1) F_ref01_Neg [.agg [.int .u64 a0_0, .int .u64 a0_1]] = R_ref01_Neg (CP C n) n a0_0 a0_1 := by kernel_rfl
-- ref01_Div
def S_ref01_Div_1012 (x0 : Int) (x1 : Int) (x2 : Int) (l3 : List AV) (l4 : List AV) : St := ⟨[.junk, .int .u64 x0, .junk, .junk, .ptr (some (1, 0)), .junk, .junk, .ptr (some (2, 0)), .ptr (some (3, 0)), .int .u64 x1, .int .i64 x2, .junk, .junk, .junk, .junk, .junk, .junk, .junk, .junk, .junk, .junk, .junk, .junk, .junk, .junk, .junk, .junk, .junk, .junk, .junk, .junk, .junk, .junk, .junk, .junk, .junk, .junk, .junk, .junk, .junk, .junk, .junk, .junk, .junk], [.dead, .cells 71 [.int .u64 0, .int .u64 0], .cells 88 l3, .cells 88 l4]⟩
def T_ref01_Div_1012 (cp : FuncId → List AV → Option AV) (x0 : Int) (x1 : Int) (x2 : Int) (l3 : List AV) (l4 : List AV) (r1012 : Int → Int → Int → List AV → List AV → Option AV) : Option AV :=
 (cond (decide (x2 ≥ 0))
 (cond ((decide (0 ≤ x2)) && (decide (x2 < 128)))
 (cond (fits (0 + ((Int.toNat x2) * 1)) 1 l3)
 (AV.boolK (nth l3 (0 + ((Int.toNat x2) * 1))) fun b1 =>
 (cond b1
 (bnd (IntKind.u64.wrap ((BitVec.ofInt 64 (IntKind.u64.wrap (x1 * 2)) ||| BitVec.ofInt 64 1).toNat : Int)) fun y2 =>
 (cond (decide (x1 ≥ 9223372036854775808))
 (cond ((decide (0 ≤ x2)) && (decide (x2 < 128)))
 (cond (fits (0 + ((Int.toNat x2) * 1)) 1 l4)
 (r1012 x0 (IntKind.u64.wrap (y2 - x0)) (IntKind.i64.wrap (x2 - 1)) l3 (splice l4 (0 + ((Int.toNat x2) * 1)) [.bool true]))
 none)
 none)
 (cond (decide (y2 ≥ x0))
 (cond ((decide (0 ≤ x2)) && (decide (x2 < 128)))
 (cond (fits (0 + ((Int.toNat x2) * 1)) 1 l4)
 (r1012 x0 (IntKind.u64.wrap (y2 - x0)) (IntKind.i64.wrap (x2 - 1)) l3 (splice l4 (0 + ((Int.toNat x2) * 1)) [.bool true]))
 none)
 none)
 (r1012 x0 y2 (IntKind.i64.wrap (x2 - 1)) l3 l4))))
 (cond (decide (x1 ≥ 9223372036854775808))
 (cond ((decide (0 ≤ x2)) && (decide (x2 < 128)))
 (cond (fits (0 + ((Int.toNat x2) * 1)) 1 l4)
 (r1012 x0 (IntKind.u64.wrap ((IntKind.u64.wrap (x1 * 2)) - x0)) (IntKind.i64.wrap (x2 - 1)) l3 (splice l4 (0 + ((Int.toNat x2) * 1)) [.bool true]))
 none)
 none)
 (cond (decide ((IntKind.u64.wrap (x1 * 2)) ≥ x0))
 (cond ((decide (0 ≤ x2)) && (decide (x2 < 128)))
 (cond (fits (0 + ((Int.toNat x2) * 1)) 1 l4)
 (r1012 x0 (IntKind.u64.wrap ((IntKind.u64.wrap (x1 * 2)) - x0)) (IntKind.i64.wrap (x2 - 1)) l3 (splice l4 (0 + ((Int.toNat x2) * 1)) [.bool true]))
 none)
 none)
 (r1012 x0 (IntKind.u64.wrap (x1 * 2)) (IntKind.i64.wrap (x2 - 1)) l3 l4)))))
 none)
 none)
 (cond (fits 0 128 l4)
 (cond ((AV.pureL (List.take 128 (List.drop 0 l4))) && true)
 ((cp F_ref01_wide [.agg (List.take 128 (List.drop 0 l4))]).bind fun r3 =>
 (AV.aggK r3 fun l4 =>
 (consK l4 fun v5 l6 =>
 (AV.intK .u64 v5 fun i7 =>
 (consK l6 fun v8 l9 =>
 (AV.intK .u64 v8 fun i10 =>
 (nilK l9
 (some (.tup [.agg [.int .u64 i7, .int .u64 i10], .int .u64 x1, .int .i64 0])))))))))
 none)
 none))
theorem K_ref01_Div_1012 (j : Jump) (n : Nat) (m1012 : Nat) (x0 : Int) (x1 : Int) (x2 : Int) (l3 : List AV) (l4 : List AV) : enter (topEnv C (CP C n) n F_ref01_Div) (some j) (bodyOf C.P F_ref01_Div) (endOf C.P F_ref01_Div) [false, false, true, false, true, true, true, true, true] [(m1012 + 1)] (S_ref01_Div_1012 x0 x1 x2 l3 l4) = T_ref01_Div_1012 (CP C n) x0 x1 x2 l3 l4 (fun x0 x1 x2 l3 l4 => j [false, false, true, false, true, true, true, true, true] [m1012] (S_ref01_Div_1012 x0 x1 x2 l3 l4)) := by kernel_rfl
def J_ref01_Div_1012 (cp : FuncId → List AV → Option AV) (n : Nat) : Nat → Int → Int → Int → List AV → List AV → Option AV
  | 0 => (fun x0 x1 x2 l3 l4 => none)
  | m + 1 => (fun x0 x1 x2 l3 l4 => T_ref01_Div_1012 cp x0 x1 x2 l3 l4 (J_ref01_Div_1012 cp n m))
theorem Js_ref01_Div_1012 (cp : FuncId → List AV → Option AV) (n : Nat) (m : Nat) (x0 : Int) (x1 : Int) (x2 : Int) (l3 : List AV) (l4 : List AV) : J_ref01_Div_1012 cp n (m + 1) x0 x1 x2 l3 l4 = T_ref01_Div_1012 cp x0 x1 x2 l3 l4 (J_ref01_Div_1012 cp n m) := of_eq_true (eq_self _)
theorem JE_ref01_Div_1012 (n : Nat) : ∀ (m : Nat) (x0 : Int) (x1 : Int) (x2 : Int) (l3 : List AV) (l4 : List AV), jT (topEnv C (CP C n) n F_ref01_Div) (bodyOf C.P F_ref01_Div) (endOf C.P F_ref01_Div) [false, false, true, false, true, true, true, true, true] [m] (S_ref01_Div_1012 x0 x1 x2 l3 l4) = J_ref01_Div_1012 (CP C n) n m x0 x1 x2 l3 l4
  | 0, x0, x1, x2, l3, l4 => (jT_eq _ _ _ _ _ _).trans (by kernel_rfl)
  | m + 1, x0, x1, x2, l3, l4 => (jT_eq _ _ _ _ _ _).trans ((K_ref01_Div_1012 _ n m x0 x1 x2 l3 l4).trans (congrArg (T_ref01_Div_1012 (CP C n) x0 x1 x2 l3 l4) (funext fun x0 => (funext fun x1 => (funext fun x2 => (funext fun l3 => (funext fun l4 => (JE_ref01_Div_1012 n m) x0 x1 x2 l3 l4)))))))
def T_ref01_Div_1 (cp : FuncId → List AV → Option AV) (a0_0 : Int) (a0_1 : Int) (a1 : Int) (j1012 : Int → Int → Int → List AV → List AV → Option AV) : Option AV :=
 (cond (a1 == 0)
 (some (.tup [.agg [.int .u64 0, .int .u64 0], .int .u64 0, .int .i64 5]))
 ((cp F_ref01_bits [.agg [.int .u64 a0_0, .int .u64 a0_1]]).bind fun r1 =>
 (AV.aggK r1 fun l2 =>
 (cond (lenIs l2 128)
 (cond (cellsOk l2)
 (j1012 a1 0 127 (splice [.bool false, .bool false, .bool false, .bool false, .bool false, .bool false, .bool false, .bool false, .bool false, .bool false, .bool false, .bool false, .bool false, .bool false, .bool false, .bool false, .bool false, .bool false, .bool false, .bool false, .bool false, .bool false, .bool false, .bool false, .bool false, .bool false, .bool false, .bool false, .bool false, .bool false, .bool false, .bool false, .bool false, .bool false, .bool false, .bool false, .bool false, .bool false, .bool false, .bool false, .bool false, .bool false, .bool false, .bool false, .bool false, .bool false, .bool false, .bool false, .bool false, .bool false, .bool false, .bool false, .bool false, .bool false, .bool false, .bool false, .bool false, .bool false, .bool false, .bool false, .bool false, .bool false, .bool false, .bool false, .bool false, .bool false, .bool false, .bool false, .bool false, .bool false, .bool false, .bool false, .bool false, .bool false, .bool false, .bool false, .bool false, .bool false, .bool false, .bool false, .bool false, .bool false, .bool false, .bool false, .bool false, .bool false, .bool false, .bool false, .bool false, .bool false, .bool false, .bool false, .bool false, .bool false, .bool false, .bool false, .bool false, .bool false, .bool false, .bool false, .bool false, .bool false, .bool false, .bool false, .bool false, .bool false, .bool false, .bool false, .bool false, .bool false, .bool false, .bool false, .bool false, .bool false, .bool false, .bool false, .bool false, .bool false, .bool false, .bool false, .bool false, .bool false, .bool false, .bool false, .bool false, .bool false, .bool false, .bool false] 0 l2) [.bool false, .bool false, .bool false, .bool false, .bool false, .bool false, .bool false, .bool false, .bool false, .bool false, .bool false, .bool false, .bool false, .bool false, .bool false, .bool false, .bool false, .bool false, .bool false, .bool false, .bool false, .bool false, .bool false, .bool false, .bool false, .bool false, .bool false, .bool false, .bool false, .bool false, .bool false, .bool false, .bool false, .bool false, .bool false, .bool false, .bool false, .bool false, .bool false, .bool false, .bool false, .bool false, .bool false, .bool false, .bool false, .bool false, .bool false, .bool false, .bool false, .bool false, .bool false, .bool false, .bool false, .bool false, .bool false, .bool false, .bool false, .bool false, .bool false, .bool false, .bool false, .bool false, .bool false, .bool false, .bool false, .bool false, .bool false, .bool false, .bool false, .bool false, .bool false, .bool false, .bool false, .bool false, .bool false, .bool false, .bool false, .bool false, .bool false, .bool false, .bool false, .bool false, .bool false, .bool false, .bool false, .bool false, .bool false, .bool false, .bool false, .bool false, .bool false, .bool false, .bool false, .bool false, .bool false, .bool false, .bool false, .bool false, .bool false, .bool false, .bool false, .bool false, .bool false, .bool false, .bool false, .bool false, .bool false, .bool false, .bool false, .bool false, .bool false, .bool false, .bool false, .bool false, .bool false, .bool false, .bool false, .bool false, .bool false, .bool false, .bool false, .bool false, .bool false, .bool false, .bool false, .bool false, .bool false, .bool false])
 none)
 none))))
theorem K_ref01_Div_1 (j : Jump) (n : Nat) (a0_0 : Int) (a0_1 : Int) (a1 : Int) : ex (topEnv C (CP C n) n F_ref01_Div) (some j) (bodyOf C.P F_ref01_Div) 1 [] [] (endOf C.P F_ref01_Div) (startOf C.P F_ref01_Div [.agg [.int .u64 a0_0, .int .u64 a0_1], .int .u64 a1]) = T_ref01_Div_1 (CP C n) a0_0 a0_1 a1 (fun x0 x1 x2 l3 l4 => j [false, false, true, false, true, true, true, true, true] [(n + 300)] (S_ref01_Div_1012 x0 x1 x2 l3 l4)) := by kernel_rfl
def R_ref01_Div (cp : FuncId → List AV → Option AV) (n : Nat) (a0_0 : Int) (a0_1 : Int) (a1 : Int) : Option AV := T_ref01_Div_1 cp a0_0 a0_1 a1 (J_ref01_Div_1012 cp n (n + 300))
theorem eq_ref01_Div (n : Nat) (a0_0 : Int) (a0_1 : Int) (a1 : Int) : CP C (n + 1) F_ref01_Div [.agg [.int .u64 a0_0, .int .u64 a0_1], .int .u64 a1] = R_ref01_Div (CP C n) n a0_0 a0_1 a1 :=
  (CP_pure C n F_ref01_Div _ (by kernel_rfl) (by kernel_rfl)).trans ((K_ref01_Div_1 _ n a0_0 a0_1 a1).trans (congrArg (T_ref01_Div_1 (CP C n) a0_0 a0_1 a1) (funext fun x0 => (funext fun x1 => (funext fun x2 => (funext fun l3 => (funext fun l4 => (JE_ref01_Div_1012 n (n + 300)) x0 x1 x2 l3 l4)))))))
-- ref02_Amount
def R_ref02_Amount (cp : FuncId → List AV → Option AV) (_n : Nat) (a0 : Int) : Option AV :=
 (cond (decide (a0 < 0))
 (some (.int .u64 (IntKind.u64.wrap (0 - (IntKind.u64.wrap a0)))))
 (some (.int .u64 (IntKind.u64.wrap a0))))
theorem eq_ref02_Amount (n : Nat) (a0 : Int) : CP C (n + 1) F_ref02_Amount [.int .i64 a0] = R_ref02_Amount (CP C n) n a0 := by kernel_rfl
-- ref02_Floor
def S_ref02_Floor_15 (x0 : Int) (x1 : Int) (x2 : Int) (x3 : Int) (x4 : Int) : St := ⟨[.junk, .int .i64 x0, .ptr (some (0, 0)), .junk, .ptr (some (1, 0)), .junk, .ptr (some (2, 0)), .junk, .junk, .junk, .junk, .junk, .junk, .junk, .junk, .junk, .junk, .junk, .junk, .junk, .junk, .junk, .junk, .junk, .junk, .junk, .junk, .junk, .junk, .junk, .junk, .junk, .junk, .junk, .junk, .junk, .junk, .junk, .junk, .junk, .junk, .junk, .junk, .junk, .junk, .junk, .junk, .junk, .junk, .junk, .junk, .junk, .junk, .junk, .junk, .junk, .junk, .junk, .junk, .junk, .junk, .junk, .junk, .junk, .junk, .junk], [.cells 71 [.int .u64 x1, .int .u64 x2], .cells 71 [.int .u64 0, .int .u64 0], .cells 71 [.int .u64 x3, .int .u64 x4]]⟩
def T_ref02_Floor_15 (cp : FuncId → List AV → Option AV) (x0 : Int) (x1 : Int) (x2 : Int) (x3 : Int) (x4 : Int) : Option AV :=
 ((cp F_ref02_Amount [.int .i64 x0]).bind fun r1 =>
 (AV.intK .u64 r1 fun i2 =>
 ((cp F_ref01_Div [.agg [.int .u64 x3, .int .u64 x4], .int .u64 i2]).bind fun r3 =>
 (AV.tupK r3 fun l4 =>
 (consK l4 fun v5 l6 =>
 (AV.aggK v5 fun l7 =>
 (consK l7 fun v8 l9 =>
 (AV.intK .u64 v8 fun i10 =>
 (consK l9 fun v11 l12 =>
 (AV.intK .u64 v11 fun i13 =>
 (nilK l12
 (consK l6 fun v14 l15 =>
 (AV.intK .u64 v14 fun i16 =>
 (consK l15 fun v17 l18 =>
 (AV.intK .i64 v17 fun i19 =>
 (nilK l18
 ((cp F_ref01_Below [.agg [.int .u64 x1, .int .u64 x2]]).bind fun r20 =>
 (AV.boolK r20 fun b21 =>
 (cond (b21 == (decide (x0 < 0)))
 (cond (decide (x0 < 0))
 (some (.tup [.agg [.int .u64 i10, .int .u64 i13], .int .i64 (IntKind.i64.wrap (IntKind.u64.wrap (0 - i16)))]))
 (some (.tup [.agg [.int .u64 i10, .int .u64 i13], .int .i64 (IntKind.i64.wrap i16)])))
 (cond (i16 == 0)
 ((cp F_ref01_Neg [.agg [.int .u64 i10, .int .u64 i13]]).bind fun r22 =>
 (AV.aggK r22 fun l23 =>
 (consK l23 fun v24 l25 =>
 (AV.intK .u64 v24 fun i26 =>
 (consK l25 fun v27 l28 =>
 (AV.intK .u64 v27 fun i29 =>
 (nilK l28
 (some (.tup [.agg [.int .u64 i26, .int .u64 i29], .int .i64 0])))))))))
 ((cp F_ref01_Add [.agg [.int .u64 i10, .int .u64 i13], .agg [.int .u64 0, .int .u64 1]]).bind fun r30 =>
 (AV.tupK r30 fun l31 =>
 (consK l31 fun v32 l33 =>
 (AV.aggK v32 fun l34 =>
 (consK l34 fun v35 l36 =>
 (AV.intK .u64 v35 fun i37 =>
 (consK l36 fun v38 l39 =>
 (AV.intK .u64 v38 fun i40 =>
 (nilK l39
 (consK l33 fun v41 l42 =>
 (AV.boolK v41 fun b43 =>
 (nilK l42
 (cond (decide (x0 < 0))
 ((cp F_ref01_Neg [.agg [.int .u64 i37, .int .u64 i40]]).bind fun r44 =>
 (AV.aggK r44 fun l45 =>
 (consK l45 fun v46 l47 =>
 (AV.intK .u64 v46 fun i48 =>
 (consK l47 fun v49 l50 =>
 (AV.intK .u64 v49 fun i51 =>
 (nilK l50
 ((cp F_ref02_Amount [.int .i64 x0]).bind fun r52 =>
 (AV.intK .u64 r52 fun i53 =>
 (bnd (IntKind.i64.wrap (IntKind.u64.wrap (0 - (IntKind.u64.wrap (i53 - i16))))) fun y54 =>
 (some (.tup [.agg [.int .u64 i48, .int .u64 i51], .int .i64 y54]))))))))))))
 ((cp F_ref01_Neg [.agg [.int .u64 i37, .int .u64 i40]]).bind fun r55 =>
 (AV.aggK r55 fun l56 =>
 (consK l56 fun v57 l58 =>
 (AV.intK .u64 v57 fun i59 =>
 (consK l58 fun v60 l61 =>
 (AV.intK .u64 v60 fun i62 =>
 (nilK l61
 ((cp F_ref02_Amount [.int .i64 x0]).bind fun r63 =>
 (AV.intK .u64 r63 fun i64 =>
 (some (.tup [.agg [.int .u64 i59, .int .u64 i62], .int .i64 (IntKind.i64.wrap (IntKind.u64.wrap (i64 - i16)))]))))))))))))))))))))))))))))))))))))))))))))
theorem K_ref02_Floor_15 (j : Jump) (n : Nat) (x0 : Int) (x1 : Int) (x2 : Int) (x3 : Int) (x4 : Int) : enter (topEnv C (CP C n) n F_ref02_Floor) (some j) (bodyOf C.P F_ref02_Floor) (endOf C.P F_ref02_Floor) [true, true, true] [] (S_ref02_Floor_15 x0 x1 x2 x3 x4) = T_ref02_Floor_15 (CP C n) x0 x1 x2 x3 x4 := by kernel_rfl
def J_ref02_Floor_15 (cp : FuncId → List AV → Option AV) (n : Nat) (x0 : Int) (x1 : Int) (x2 : Int) (x3 : Int) (x4 : Int) : Option AV := T_ref02_Floor_15 cp x0 x1 x2 x3 x4
theorem JE_ref02_Floor_15 (n : Nat) (x0 : Int) (x1 : Int) (x2 : Int) (x3 : Int) (x4 : Int) : jT (topEnv C (CP C n) n F_ref02_Floor) (bodyOf C.P F_ref02_Floor) (endOf C.P F_ref02_Floor) [true, true, true] [] (S_ref02_Floor_15 x0 x1 x2 x3 x4) = J_ref02_Floor_15 (CP C n) n x0 x1 x2 x3 x4 :=
  (jT_eq _ _ _ _ _ _).trans ((K_ref02_Floor_15 _ n x0 x1 x2 x3 x4).trans (rfl))
def T_ref02_Floor_1 (cp : FuncId → List AV → Option AV) (a0_0 : Int) (a0_1 : Int) (a1 : Int) (j15 : Int → Int → Int → Int → Int → Option AV) : Option AV :=
 ((cp F_ref01_Below [.agg [.int .u64 a0_0, .int .u64 a0_1]]).bind fun r1 =>
 (AV.boolK r1 fun b2 =>
 (cond b2
 ((cp F_ref01_Neg [.agg [.int .u64 a0_0, .int .u64 a0_1]]).bind fun r3 =>
 (AV.aggK r3 fun l4 =>
 (consK l4 fun v5 l6 =>
 (AV.intK .u64 v5 fun i7 =>
 (consK l6 fun v8 l9 =>
 (AV.intK .u64 v8 fun i10 =>
 (nilK l9
 (j15 a1 a0_0 a0_1 i7 i10))))))))
 (j15 a1 a0_0 a0_1 a0_0 a0_1))))
theorem K_ref02_Floor_1 (j : Jump) (n : Nat) (a0_0 : Int) (a0_1 : Int) (a1 : Int) : ex (topEnv C (CP C n) n F_ref02_Floor) (some j) (bodyOf C.P F_ref02_Floor) 1 [] [] (endOf C.P F_ref02_Floor) (startOf C.P F_ref02_Floor [.agg [.int .u64 a0_0, .int .u64 a0_1], .int .i64 a1]) = T_ref02_Floor_1 (CP C n) a0_0 a0_1 a1 (fun x0 x1 x2 x3 x4 => j [true, true, true] [] (S_ref02_Floor_15 x0 x1 x2 x3 x4)) := by kernel_rfl
def R_ref02_Floor (cp : FuncId → List AV → Option AV) (n : Nat) (a0_0 : Int) (a0_1 : Int) (a1 : Int) : Option AV := T_ref02_Floor_1 cp a0_0 a0_1 a1 (J_ref02_Floor_15 cp n)
theorem eq_ref02_Floor (n : Nat) (a0_0 : Int) (a0_1 : Int) (a1 : Int) : CP C (n + 1) F_ref02_Floor [.agg [.int .u64 a0_0, .int .u64 a0_1], .int .i64 a1] = R_ref02_Floor (CP C n) n a0_0 a0_1 a1 :=
  (CP_pure C n F_ref02_Floor _ (by kernel_rfl) (by kernel_rfl)).trans ((K_ref02_Floor_1 _ n a0_0 a0_1 a1).trans (congrArg (T_ref02_Floor_1 (CP C n) a0_0 a0_1 a1) (funext fun x0 => (funext fun x1 => (funext fun x2 => (funext fun x3 => (funext fun x4 => (JE_ref02_Floor_15 n) x0 x1 x2 x3 x4)))))))
-- ref02_FloorDiv
def R_ref02_FloorDiv (cp : FuncId → List AV → Option AV) (_n : Nat) (a0 : Int) (a1 : Int) : Option AV :=
 (cond (a1 == 0)
 (some (.tup [.int .i64 0, .int .i64 5]))
 ((cp F_ref01_Of [.int .i64 a0]).bind fun r1 =>
 (AV.aggK r1 fun l2 =>
 (consK l2 fun v3 l4 =>
 (AV.intK .u64 v3 fun i5 =>
 (consK l4 fun v6 l7 =>
 (AV.intK .u64 v6 fun i8 =>
 (nilK l7
 ((cp F_ref02_Floor [.agg [.int .u64 i5, .int .u64 i8], .int .i64 a1]).bind fun r9 =>
 (AV.tupK r9 fun l10 =>
 (consK l10 fun v11 l12 =>
 (AV.aggK v11 fun l13 =>
 (consK l13 fun v14 l15 =>
 (AV.intK .u64 v14 fun i16 =>
 (consK l15 fun v17 l18 =>
 (AV.intK .u64 v17 fun i19 =>
 (nilK l18
 (consK l12 fun v20 l21 =>
 (AV.intK .i64 v20 fun i22 =>
 (nilK l21
 ((cp F_ref01_Int [.agg [.int .u64 i16, .int .u64 i19]]).bind fun r23 =>
 (AV.tupK r23 fun l24 =>
 (consK l24 fun v25 l26 =>
 (AV.intK .i64 v25 fun i27 =>
 (consK l26 fun v28 l29 =>
 (AV.intK .i64 v28 fun i30 =>
 (nilK l29
 (some (.tup [.int .i64 i27, .int .i64 i30])))))))))))))))))))))))))))))
theorem eq_ref02_FloorDiv (n : Nat) (a0 : Int) (a1 : Int) : CP C (n + 1) F_ref02_FloorDiv [.int .i64 a0, .int .i64 a1] = R_ref02_FloorDiv (CP C n) n a0 a1 := by kernel_rfl
-- ref02_FloorMod
def R_ref02_FloorMod (cp : FuncId → List AV → Option AV) (_n : Nat) (a0 : Int) (a1 : Int) : Option AV :=
 (cond (a1 == 0)
 (some (.tup [.int .i64 0, .int .i64 5]))
 ((cp F_ref01_Of [.int .i64 a0]).bind fun r1 =>
 (AV.aggK r1 fun l2 =>
 (consK l2 fun v3 l4 =>
 (AV.intK .u64 v3 fun i5 =>
 (consK l4 fun v6 l7 =>
 (AV.intK .u64 v6 fun i8 =>
 (nilK l7
 ((cp F_ref02_Floor [.agg [.int .u64 i5, .int .u64 i8], .int .i64 a1]).bind fun r9 =>
 (AV.tupK r9 fun l10 =>
 (consK l10 fun v11 l12 =>
 (AV.aggK v11 fun l13 =>
 (consK l13 fun v14 l15 =>
 (AV.intK .u64 v14 fun i16 =>
 (consK l15 fun v17 l18 =>
 (AV.intK .u64 v17 fun i19 =>
 (nilK l18
 (consK l12 fun v20 l21 =>
 (AV.intK .i64 v20 fun i22 =>
 (nilK l21
 (some (.tup [.int .i64 i22, .int .i64 0]))))))))))))))))))))))
theorem eq_ref02_FloorMod (n : Nat) (a0 : Int) (a1 : Int) : CP C (n + 1) F_ref02_FloorMod [.int .i64 a0, .int .i64 a1] = R_ref02_FloorMod (CP C n) n a0 a1 := by kernel_rfl
-- ref11_Add
def S_ref11_Add_1021 (x0 : Int) (x1 : Int) (x2 : Int) (b3 : Bool) (x4 : Int) (x5 : Int) (x6 : Int) : St := ⟨[.junk, .junk, .int .i64 x0, .ptr (some (0, 0)), .junk, .junk, .ptr (some (1, 0)), .junk, .junk, .junk, .junk, .int .i64 x1, .junk, .int .i64 x2, .junk, .junk, .junk, .junk, .junk, .junk, .junk, .junk, .junk, .junk, .junk, .junk, .junk, .junk, .junk, .junk, .junk, .junk, .junk, .junk, .junk, .junk, .junk, .junk, .junk, .junk, .junk, .junk, .junk, .junk, .junk, .junk, .junk, .junk, .junk, .junk, .junk, .junk, .junk, .junk, .junk, .junk, .junk, .junk, .junk, .junk, .bool b3, .junk, .junk, .junk, .junk, .junk, .junk, .junk, .junk, .junk, .junk, .junk, .junk, .junk, .junk, .junk, .junk, .junk, .junk, .junk, .junk, .junk, .junk], [.cells 23 [.int .i64 x4, .int .i64 x5, .int .i64 x6], .cells 23 [.int .i64 0, .int .i64 0, .int .i64 0]]⟩
def T_ref11_Add_1021 (cp : FuncId → List AV → Option AV) (x0 : Int) (x1 : Int) (x2 : Int) (b3 : Bool) (x4 : Int) (x5 : Int) (x6 : Int) : Option AV :=
 (cond b3
 (some (.tup [.agg [.int .i64 0, .int .i64 0, .int .i64 0], .int .i64 8]))
 ((cp F_ref06_MonthDays [.int .i64 x1, .int .i64 (IntKind.i64.wrap (x2 + 1))]).bind fun r1 =>
 (AV.intK .i64 r1 fun i2 =>
 (cond (decide (x6 > i2))
 (cond (x0 == 1)
 (some (.tup [.agg [.int .i64 0, .int .i64 0, .int .i64 0], .int .i64 7]))
 (some (.tup [.agg [.int .i64 x1, .int .i64 (IntKind.i64.wrap (x2 + 1)), .int .i64 i2], .int .i64 0])))
 (some (.tup [.agg [.int .i64 x1, .int .i64 (IntKind.i64.wrap (x2 + 1)), .int .i64 x6], .int .i64 0]))))))
theorem K_ref11_Add_1021 (j : Jump) (n : Nat) (x0 : Int) (x1 : Int) (x2 : Int) (b3 : Bool) (x4 : Int) (x5 : Int) (x6 : Int) : enter (topEnv C (CP C n) n F_ref11_Add) (some j) (bodyOf C.P F_ref11_Add) (endOf C.P F_ref11_Add) [true, false, true, true, true, true, true, true, true] [] (S_ref11_Add_1021 x0 x1 x2 b3 x4 x5 x6) = T_ref11_Add_1021 (CP C n) x0 x1 x2 b3 x4 x5 x6 := by kernel_rfl
def J_ref11_Add_1021 (cp : FuncId → List AV → Option AV) (n : Nat) (x0 : Int) (x1 : Int) (x2 : Int) (b3 : Bool) (x4 : Int) (x5 : Int) (x6 : Int) : Option AV := T_ref11_Add_1021 cp x0 x1 x2 b3 x4 x5 x6
theorem JE_ref11_Add_1021 (n : Nat) (x0 : Int) (x1 : Int) (x2 : Int) (b3 : Bool) (x4 : Int) (x5 : Int) (x6 : Int) : jT (topEnv C (CP C n) n F_ref11_Add) (bodyOf C.P F_ref11_Add) (endOf C.P F_ref11_Add) [true, false, true, true, true, true, true, true, true] [] (S_ref11_Add_1021 x0 x1 x2 b3 x4 x5 x6) = J_ref11_Add_1021 (CP C n) n x0 x1 x2 b3 x4 x5 x6 :=
  (jT_eq _ _ _ _ _ _).trans ((K_ref11_Add_1021 _ n x0 x1 x2 b3 x4 x5 x6).trans (rfl))
def T_ref11_Add_1 (cp : FuncId → List AV → Option AV) (a0_0 : Int) (a0_1 : Int) (a0_2 : Int) (a1 : Int) (a2 : Int) (j1021 : Int → Int → Int → Bool → Int → Int → Int → Option AV) : Option AV :=
 (cond (a2 != 0)
 (cond (a2 != 1)
 (some (.tup [.agg [.int .i64 0, .int .i64 0, .int .i64 0], .int .i64 5]))
 ((cp F_ref06_Check [.agg [.int .i64 a0_0, .int .i64 a0_1, .int .i64 a0_2]]).bind fun r1 =>
 (AV.intK .i64 r1 fun i2 =>
 (cond (i2 != 0)
 (some (.tup [.agg [.int .i64 0, .int .i64 0, .int .i64 0], .int .i64 i2]))
 (bnd (IntKind.i64.wrap ((IntKind.i64.wrap ((IntKind.i64.wrap (12 * a0_0)) + a0_1)) - 1)) fun y3 =>
 ((cp F_ref02_Add [.int .i64 y3, .int .i64 a1]).bind fun r4 =>
 (AV.tupK r4 fun l5 =>
 (consK l5 fun v6 l7 =>
 (AV.intK .i64 v6 fun i8 =>
 (consK l7 fun v9 l10 =>
 (AV.intK .i64 v9 fun i11 =>
 (nilK l10
 (cond (i11 != 0)
 (some (.tup [.agg [.int .i64 0, .int .i64 0, .int .i64 0], .int .i64 8]))
 ((cp F_ref02_FloorDiv [.int .i64 i8, .int .i64 12]).bind fun r12 =>
 (AV.tupK r12 fun l13 =>
 (consK l13 fun v14 l15 =>
 (AV.intK .i64 v14 fun i16 =>
 (consK l15 fun v17 l18 =>
 (AV.intK .i64 v17 fun i19 =>
 (nilK l18
 ((cp F_ref02_FloorMod [.int .i64 i8, .int .i64 12]).bind fun r20 =>
 (AV.tupK r20 fun l21 =>
 (consK l21 fun v22 l23 =>
 (AV.intK .i64 v22 fun i24 =>
 (consK l23 fun v25 l26 =>
 (AV.intK .i64 v25 fun i27 =>
 (nilK l26
 (cond (decide (i16 < (-9999)))
 (j1021 a2 i16 i24 true a0_0 a0_1 a0_2)
 (j1021 a2 i16 i24 (decide (i16 > 9999)) a0_0 a0_1 a0_2)))))))))))))))))))))))))))))
 ((cp F_ref06_Check [.agg [.int .i64 a0_0, .int .i64 a0_1, .int .i64 a0_2]]).bind fun r28 =>
 (AV.intK .i64 r28 fun i29 =>
 (cond (i29 != 0)
 (some (.tup [.agg [.int .i64 0, .int .i64 0, .int .i64 0], .int .i64 i29]))
 (bnd (IntKind.i64.wrap ((IntKind.i64.wrap ((IntKind.i64.wrap (12 * a0_0)) + a0_1)) - 1)) fun y30 =>
 ((cp F_ref02_Add [.int .i64 y30, .int .i64 a1]).bind fun r31 =>
 (AV.tupK r31 fun l32 =>
 (consK l32 fun v33 l34 =>
 (AV.intK .i64 v33 fun i35 =>
 (consK l34 fun v36 l37 =>
 (AV.intK .i64 v36 fun i38 =>
 (nilK l37
 (cond (i38 != 0)
 (some (.tup [.agg [.int .i64 0, .int .i64 0, .int .i64 0], .int .i64 8]))
 ((cp F_ref02_FloorDiv [.int .i64 i35, .int .i64 12]).bind fun r39 =>
 (AV.tupK r39 fun l40 =>
 (consK l40 fun v41 l42 =>
 (AV.intK .i64 v41 fun i43 =>
 (consK l42 fun v44 l45 =>
 (AV.intK .i64 v44 fun i46 =>
 (nilK l45
 ((cp F_ref02_FloorMod [.int .i64 i35, .int .i64 12]).bind fun r47 =>
 (AV.tupK r47 fun l48 =>
 (consK l48 fun v49 l50 =>
 (AV.intK .i64 v49 fun i51 =>
 (consK l50 fun v52 l53 =>
 (AV.intK .i64 v52 fun i54 =>
 (nilK l53
 (cond (decide (i43 < (-9999)))
 (j1021 a2 i43 i51 true a0_0 a0_1 a0_2)
 (j1021 a2 i43 i51 (decide (i43 > 9999)) a0_0 a0_1 a0_2)))))))))))))))))))))))))))))
theorem K_ref11_Add_1 (j : Jump) (n : Nat) (a0_0 : Int) (a0_1 : Int) (a0_2 : Int) (a1 : Int) (a2 : Int) : ex (topEnv C (CP C n) n F_ref11_Add) (some j) (bodyOf C.P F_ref11_Add) 1 [] [] (endOf C.P F_ref11_Add) (startOf C.P F_ref11_Add [.agg [.int .i64 a0_0, .int .i64 a0_1, .int .i64 a0_2], .int .i64 a1, .int .i64 a2]) = T_ref11_Add_1 (CP C n) a0_0 a0_1 a0_2 a1 a2 (fun x0 x1 x2 b3 x4 x5 x6 => j [true, false, true, true, true, true, true, true, true] [] (S_ref11_Add_1021 x0 x1 x2 b3 x4 x5 x6)) := by kernel_rfl
def R_ref11_Add (cp : FuncId → List AV → Option AV) (n : Nat) (a0_0 : Int) (a0_1 : Int) (a0_2 : Int) (a1 : Int) (a2 : Int) : Option AV := T_ref11_Add_1 cp a0_0 a0_1 a0_2 a1 a2 (J_ref11_Add_1021 cp n)
theorem eq_ref11_Add (n : Nat) (a0_0 : Int) (a0_1 : Int) (a0_2 : Int) (a1 : Int) (a2 : Int) : CP C (n + 1) F_ref11_Add [.agg [.int .i64 a0_0, .int .i64 a0_1, .int .i64 a0_2], .int .i64 a1, .int .i64 a2] = R_ref11_Add (CP C n) n a0_0 a0_1 a0_2 a1 a2 :=
  (CP_pure C n F_ref11_Add _ (by kernel_rfl) (by kernel_rfl)).trans ((K_ref11_Add_1 _ n a0_0 a0_1 a0_2 a1 a2).trans (congrArg (T_ref11_Add_1 (CP C n) a0_0 a0_1 a0_2 a1 a2) (funext fun x0 => (funext fun x1 => (funext fun x2 => (funext fun b3 => (funext fun x4 => (funext fun x5 => (funext fun x6 => (JE_ref11_Add_1021 n) x0 x1 x2 b3 x4 x5 x6)))))))))
-- ref12_fits
def R_ref12_fits (cp : FuncId → List AV → Option AV) (_n : Nat) (a0_0 : Int) (a0_1 : Int) (a0_2 : Int) (a1_0 : Int) (a1_1 : Int) (a1_2 : Int) (a2 : Int) : Option AV :=
 ((cp F_ref11_Add [.agg [.int .i64 a0_0, .int .i64 a0_1, .int .i64 a0_2], .int .i64 a2, .int .i64 0]).bind fun r1 =>
 (AV.tupK r1 fun l2 =>
 (consK l2 fun v3 l4 =>
 (AV.aggK v3 fun l5 =>
 (consK l5 fun v6 l7 =>
 (AV.intK .i64 v6 fun i8 =>
 (consK l7 fun v9 l10 =>
 (AV.intK .i64 v9 fun i11 =>
 (consK l10 fun v12 l13 =>
 (AV.intK .i64 v12 fun i14 =>
 (nilK l13
 (consK l4 fun v15 l16 =>
 (AV.intK .i64 v15 fun i17 =>
 (nilK l16
 (cond (i17 != 0)
 (some (.bool false))
 ((cp F_ref06_Cmp [.agg [.int .i64 a0_0, .int .i64 a0_1, .int .i64 a0_2], .agg [.int .i64 a1_0, .int .i64 a1_1, .int .i64 a1_2]]).bind fun r18 =>
 (AV.intK .i64 r18 fun i19 =>
 (cond (decide (i19 ≤ 0))
 ((cp F_ref06_Cmp [.agg [.int .i64 i8, .int .i64 i11, .int .i64 i14], .agg [.int .i64 a1_0, .int .i64 a1_1, .int .i64 a1_2]]).bind fun r20 =>
 (AV.intK .i64 r20 fun i21 =>
 (some (.bool (decide (i21 ≤ 0))))))
 ((cp F_ref06_Cmp [.agg [.int .i64 i8, .int .i64 i11, .int .i64 i14], .agg [.int .i64 a1_0, .int .i64 a1_1, .int .i64 a1_2]]).bind fun r22 =>
 (AV.intK .i64 r22 fun i23 =>
 (some (.bool (decide (i23 ≥ 0))))))))))))))))))))))))
theorem eq_ref12_fits (n : Nat) (a0_0 : Int) (a0_1 : Int) (a0_2 : Int) (a1_0 : Int) (a1_1 : Int) (a1_2 : Int) (a2 : Int) : CP C (n + 1) F_ref12_fits [.agg [.int .i64 a0_0, .int .i64 a0_1, .int .i64 a0_2], .agg [.int .i64 a1_0, .int .i64 a1_1, .int .i64 a1_2], .int .i64 a2] = R_ref12_fits (CP C n) n a0_0 a0_1 a0_2 a1_0 a1_1 a1_2 a2 := by kernel_rfl
-- ref12_Months
def S_ref12_Months_4084 (x0 : Int) (x1 : Int) (x2 : Int) (x3 : Int) (x4 : Int) (x5 : Int) (x6 : Int) (x7 : Int) : St := ⟨[.junk, .junk, .ptr (some (0, 0)), .ptr (some (1, 0)), .junk, .junk, .junk, .junk, .int .i64 x0, .int .i64 x1, .junk, .junk, .junk, .junk, .junk, .junk, .junk, .junk, .junk, .junk, .junk, .junk, .junk, .junk, .junk, .junk, .junk, .junk, .junk, .junk, .junk, .junk, .junk, .junk, .junk, .junk, .junk, .junk, .junk, .junk, .junk, .junk, .junk, .junk, .junk, .junk, .junk, .junk, .junk, .junk, .junk, .junk, .junk, .junk, .junk], [.cells 23 [.int .i64 x2, .int .i64 x3, .int .i64 x4], .cells 23 [.int .i64 x5, .int .i64 x6, .int .i64 x7]]⟩
def T_ref12_Months_4084 (cp : FuncId → List AV → Option AV) (x0 : Int) (x1 : Int) (x2 : Int) (x3 : Int) (x4 : Int) (x5 : Int) (x6 : Int) (x7 : Int) (r4084 : Int → Int → Int → Int → Int → Int → Int → Int → Option AV) : Option AV :=
 (cond (decide (x1 > 0))
 ((cp F_ref12_fits [.agg [.int .i64 x2, .int .i64 x3, .int .i64 x4], .agg [.int .i64 x5, .int .i64 x6, .int .i64 x7], .int .i64 (IntKind.i64.wrap (x0 * x1))]).bind fun r1 =>
 (AV.boolK r1 fun b2 =>
 (cond b2
 (some (.tup [.int .i64 (IntKind.i64.wrap (x0 * x1)), .int .i64 0]))
 (r4084 x0 (IntKind.i64.wrap (x1 - 1)) x2 x3 x4 x5 x6 x7))))
 (some (.tup [.int .i64 0, .int .i64 0])))
theorem K_ref12_Months_4084 (j : Jump) (n : Nat) (m4084 : Nat) (x0 : Int) (x1 : Int) (x2 : Int) (x3 : Int) (x4 : Int) (x5 : Int) (x6 : Int) (x7 : Int) : enter (topEnv C (CP C n) n F_ref12_Months) (some j) (bodyOf C.P F_ref12_Months) (endOf C.P F_ref12_Months) [false, false, true, false, true, true, true, true, true, true, true] [(m4084 + 1)] (S_ref12_Months_4084 x0 x1 x2 x3 x4 x5 x6 x7) = T_ref12_Months_4084 (CP C n) x0 x1 x2 x3 x4 x5 x6 x7 (fun x0 x1 x2 x3 x4 x5 x6 x7 => j [false, false, true, false, true, true, true, true, true, true, true] [m4084] (S_ref12_Months_4084 x0 x1 x2 x3 x4 x5 x6 x7)) := by kernel_rfl
def J_ref12_Months_4084 (cp : FuncId → List AV → Option AV) (n : Nat) : Nat → Int → Int → Int → Int → Int → Int → Int → Int → Option AV
  | 0 => (fun x0 x1 x2 x3 x4 x5 x6 x7 => none)
  | m + 1 => (fun x0 x1 x2 x3 x4 x5 x6 x7 => T_ref12_Months_4084 cp x0 x1 x2 x3 x4 x5 x6 x7 (J_ref12_Months_4084 cp n m))
theorem Js_ref12_Months_4084 (cp : FuncId → List AV → Option AV) (n : Nat) (m : Nat) (x0 : Int) (x1 : Int) (x2 : Int) (x3 : Int) (x4 : Int) (x5 : Int) (x6 : Int) (x7 : Int) : J_ref12_Months_4084 cp n (m + 1) x0 x1 x2 x3 x4 x5 x6 x7 = T_ref12_Months_4084 cp x0 x1 x2 x3 x4 x5 x6 x7 (J_ref12_Months_4084 cp n m) := of_eq_true (eq_self _)
theorem JE_ref12_Months_4084 (n : Nat) : ∀ (m : Nat) (x0 : Int) (x1 : Int) (x2 : Int) (x3 : Int) (x4 : Int) (x5 : Int) (x6 : Int) (x7 : Int), jT (topEnv C (CP C n) n F_ref12_Months) (bodyOf C.P F_ref12_Months) (endOf C.P F_ref12_Months) [false, false, true, false, true, true, true, true, true, true, true] [m] (S_ref12_Months_4084 x0 x1 x2 x3 x4 x5 x6 x7) = J_ref12_Months_4084 (CP C n) n m x0 x1 x2 x3 x4 x5 x6 x7
  | 0, x0, x1, x2, x3, x4, x5, x6, x7 => (jT_eq _ _ _ _ _ _).trans (by kernel_rfl)
  | m + 1, x0, x1, x2, x3, x4, x5, x6, x7 => (jT_eq _ _ _ _ _ _).trans ((K_ref12_Months_4084 _ n m x0 x1 x2 x3 x4 x5 x6 x7).trans (congrArg (T_ref12_Months_4084 (CP C n) x0 x1 x2 x3 x4 x5 x6 x7) (funext fun x0 => (funext fun x1 => (funext fun x2 => (funext fun x3 => (funext fun x4 => (funext fun x5 => (funext fun x6 => (funext fun x7 => (JE_ref12_Months_4084 n m) x0 x1 x2 x3 x4 x5 x6 x7))))))))))
def T_ref12_Months_1 (cp : FuncId → List AV → Option AV) (a0_0 : Int) (a0_1 : Int) (a0_2 : Int) (a1_0 : Int) (a1_1 : Int) (a1_2 : Int) (j4084 : Int → Int → Int → Int → Int → Int → Int → Int → Option AV) : Option AV :=
 ((cp F_ref06_Check [.agg [.int .i64 a0_0, .int .i64 a0_1, .int .i64 a0_2]]).bind fun r1 =>
 (AV.intK .i64 r1 fun i2 =>
 (cond (i2 != 0)
 (some (.tup [.int .i64 0, .int .i64 i2]))
 ((cp F_ref06_Check [.agg [.int .i64 a1_0, .int .i64 a1_1, .int .i64 a1_2]]).bind fun r3 =>
 (AV.intK .i64 r3 fun i4 =>
 (cond (i4 != 0)
 (some (.tup [.int .i64 0, .int .i64 i4]))
 ((cp F_ref06_Cmp [.agg [.int .i64 a0_0, .int .i64 a0_1, .int .i64 a0_2], .agg [.int .i64 a1_0, .int .i64 a1_1, .int .i64 a1_2]]).bind fun r5 =>
 (AV.intK .i64 r5 fun i6 =>
 (cond (decide (i6 > 0))
 (bnd (IntKind.i64.wrap ((IntKind.i64.wrap (12 * (IntKind.i64.wrap (a1_0 - a0_0)))) + a1_1)) fun y7 =>
 (cond (decide ((IntKind.i64.wrap (y7 - a0_1)) < 0))
 (bnd (IntKind.i64.wrap ((IntKind.i64.wrap (0 - (IntKind.i64.wrap (y7 - a0_1)))) + 1)) fun y8 =>
 (j4084 (-1) y8 a0_0 a0_1 a0_2 a1_0 a1_1 a1_2))
 (j4084 (-1) (IntKind.i64.wrap ((IntKind.i64.wrap (y7 - a0_1)) + 1)) a0_0 a0_1 a0_2 a1_0 a1_1 a1_2)))
 (bnd (IntKind.i64.wrap ((IntKind.i64.wrap (12 * (IntKind.i64.wrap (a1_0 - a0_0)))) + a1_1)) fun y9 =>
 (cond (decide ((IntKind.i64.wrap (y9 - a0_1)) < 0))
 (bnd (IntKind.i64.wrap ((IntKind.i64.wrap (0 - (IntKind.i64.wrap (y9 - a0_1)))) + 1)) fun y10 =>
 (j4084 1 y10 a0_0 a0_1 a0_2 a1_0 a1_1 a1_2))
 (j4084 1 (IntKind.i64.wrap ((IntKind.i64.wrap (y9 - a0_1)) + 1)) a0_0 a0_1 a0_2 a1_0 a1_1 a1_2))))))))))))
theorem K_ref12_Months_1 (j : Jump) (n : Nat) (a0_0 : Int) (a0_1 : Int) (a0_2 : Int) (a1_0 : Int) (a1_1 : Int) (a1_2 : Int) : ex (topEnv C (CP C n) n F_ref12_Months) (some j) (bodyOf C.P F_ref12_Months) 1 [] [] (endOf C.P F_ref12_Months) (startOf C.P F_ref12_Months [.agg [.int .i64 a0_0, .int .i64 a0_1, .int .i64 a0_2], .agg [.int .i64 a1_0, .int .i64 a1_1, .int .i64 a1_2]]) = T_ref12_Months_1 (CP C n) a0_0 a0_1 a0_2 a1_0 a1_1 a1_2 (fun x0 x1 x2 x3 x4 x5 x6 x7 => j [false, false, true, false, true, true, true, true, true, true, true] [(n + 300)] (S_ref12_Months_4084 x0 x1 x2 x3 x4 x5 x6 x7)) := by kernel_rfl
def R_ref12_Months (cp : FuncId → List AV → Option AV) (n : Nat) (a0_0 : Int) (a0_1 : Int) (a0_2 : Int) (a1_0 : Int) (a1_1 : Int) (a1_2 : Int) : Option AV := T_ref12_Months_1 cp a0_0 a0_1 a0_2 a1_0 a1_1 a1_2 (J_ref12_Months_4084 cp n (n + 300))
theorem eq_ref12_Months (n : Nat) (a0_0 : Int) (a0_1 : Int) (a0_2 : Int) (a1_0 : Int) (a1_1 : Int) (a1_2 : Int) : CP C (n + 1) F_ref12_Months [.agg [.int .i64 a0_0, .int .i64 a0_1, .int .i64 a0_2], .agg [.int .i64 a1_0, .int .i64 a1_1, .int .i64 a1_2]] = R_ref12_Months (CP C n) n a0_0 a0_1 a0_2 a1_0 a1_1 a1_2 :=
  (CP_pure C n F_ref12_Months _ (by kernel_rfl) (by kernel_rfl)).trans ((K_ref12_Months_1 _ n a0_0 a0_1 a0_2 a1_0 a1_1 a1_2).trans (congrArg (T_ref12_Months_1 (CP C n) a0_0 a0_1 a0_2 a1_0 a1_1 a1_2) (funext fun x0 => (funext fun x1 => (funext fun x2 => (funext fun x3 => (funext fun x4 => (funext fun x5 => (funext fun x6 => (funext fun x7 => (JE_ref12_Months_4084 n (n + 300)) x0 x1 x2 x3 x4 x5 x6 x7))))))))))
-- ref06_YearDays
def R_ref06_YearDays (cp : FuncId → List AV → Option AV) (_n : Nat) (a0 : Int) : Option AV :=
 ((cp F_ref06_Leap [.int .i64 a0]).bind fun r1 =>
 (AV.boolK r1 fun b2 =>
 (cond b2
 (some (.int .i64 366))
 (some (.int .i64 365)))))
theorem eq_ref06_YearDays (n : Nat) (a0 : Int) : CP C (n + 1) F_ref06_YearDays [.int .i64 a0] = R_ref06_YearDays (CP C n) n a0 := by kernel_rfl
-- ref06_start
def S_ref06_start_120 (x0 : Int) (x1 : Int) (x2 : Int) : St := ⟨[.int .i64 x0, .junk, .junk, .int .i64 x1, .int .i64 x2, .junk, .junk, .junk, .junk, .junk, .junk, .junk, .junk, .junk, .junk, .junk, .junk, .junk, .junk, .junk, .junk, .junk, .junk, .junk, .junk, .junk, .junk, .junk, .junk, .junk], []⟩
def S_ref06_start_248 (x0 : Int) (x1 : Int) (x2 : Int) : St := ⟨[.int .i64 x0, .junk, .junk, .int .i64 x1, .int .i64 x2, .junk, .junk, .junk, .junk, .junk, .junk, .junk, .junk, .junk, .junk, .junk, .junk, .junk, .junk, .junk, .junk, .junk, .junk, .junk, .junk, .junk, .junk, .junk, .junk, .junk], []⟩
def S_ref06_start_504 (x0 : Int) (x1 : Int) (x2 : Int) : St := ⟨[.int .i64 x0, .junk, .junk, .int .i64 x1, .int .i64 x2, .junk, .junk, .junk, .junk, .junk, .junk, .junk, .junk, .junk, .junk, .junk, .junk, .junk, .junk, .junk, .junk, .junk, .junk, .junk, .junk, .junk, .junk, .junk, .junk, .junk], []⟩
def T_ref06_start_504 (cp : FuncId → List AV → Option AV) (x0 : Int) (x1 : Int) (x2 : Int) (r504 : Int → Int → Int → Option AV) : Option AV :=
 (cond (decide (x2 < x0))
 ((cp F_ref06_YearDays [.int .i64 x2]).bind fun r1 =>
 (AV.intK .i64 r1 fun i2 =>
 (r504 x0 (IntKind.i64.wrap (x1 + i2)) (IntKind.i64.wrap (x2 + 1)))))
 (some (.int .i64 x1)))
theorem K_ref06_start_504 (j : Jump) (n : Nat) (m504 : Nat) (x0 : Int) (x1 : Int) (x2 : Int) : enter (topEnv C (CP C n) n F_ref06_start) (some j) (bodyOf C.P F_ref06_start) (endOf C.P F_ref06_start) [false, false, false, true, true, true, true, true] [(m504 + 1)] (S_ref06_start_504 x0 x1 x2) = T_ref06_start_504 (CP C n) x0 x1 x2 (fun x0 x1 x2 => j [false, false, false, true, true, true, true, true] [m504] (S_ref06_start_504 x0 x1 x2)) := by kernel_rfl
def J_ref06_start_504 (cp : FuncId → List AV → Option AV) (n : Nat) : Nat → Int → Int → Int → Option AV
  | 0 => (fun x0 x1 x2 => none)
  | m + 1 => (fun x0 x1 x2 => T_ref06_start_504 cp x0 x1 x2 (J_ref06_start_504 cp n m))
theorem Js_ref06_start_504 (cp : FuncId → List AV → Option AV) (n : Nat) (m : Nat) (x0 : Int) (x1 : Int) (x2 : Int) : J_ref06_start_504 cp n (m + 1) x0 x1 x2 = T_ref06_start_504 cp x0 x1 x2 (J_ref06_start_504 cp n m) := of_eq_true (eq_self _)
theorem JE_ref06_start_504 (n : Nat) : ∀ (m : Nat) (x0 : Int) (x1 : Int) (x2 : Int), jT (topEnv C (CP C n) n F_ref06_start) (bodyOf C.P F_ref06_start) (endOf C.P F_ref06_start) [false, false, false, true, true, true, true, true] [m] (S_ref06_start_504 x0 x1 x2) = J_ref06_start_504 (CP C n) n m x0 x1 x2
  | 0, x0, x1, x2 => (jT_eq _ _ _ _ _ _).trans (by kernel_rfl)
  | m + 1, x0, x1, x2 => (jT_eq _ _ _ _ _ _).trans ((K_ref06_start_504 _ n m x0 x1 x2).trans (congrArg (T_ref06_start_504 (CP C n) x0 x1 x2) (funext fun x0 => (funext fun x1 => (funext fun x2 => (JE_ref06_start_504 n m) x0 x1 x2)))))
def T_ref06_start_248 (cp : FuncId → List AV → Option AV) (x0 : Int) (x1 : Int) (x2 : Int) (r248 : Int → Int → Int → Option AV) (j504 : Int → Int → Int → Option AV) : Option AV :=
 (cond (decide (x2 > x0))
 (r248 x0 (IntKind.i64.wrap (x1 - 146097)) (IntKind.i64.wrap (x2 - 400)))
 (j504 x0 x1 x2))
theorem K_ref06_start_248 (j : Jump) (n : Nat) (m248 : Nat) (x0 : Int) (x1 : Int) (x2 : Int) : enter (topEnv C (CP C n) n F_ref06_start) (some j) (bodyOf C.P F_ref06_start) (endOf C.P F_ref06_start) [false, false, false, true, true, true, true] [(m248 + 1)] (S_ref06_start_248 x0 x1 x2) = T_ref06_start_248 (CP C n) x0 x1 x2 (fun x0 x1 x2 => j [false, false, false, true, true, true, true] [m248] (S_ref06_start_248 x0 x1 x2)) (fun x0 x1 x2 => j [false, false, false, true, true, true, true, true] [(n + 300)] (S_ref06_start_504 x0 x1 x2)) := by kernel_rfl
def J_ref06_start_248 (cp : FuncId → List AV → Option AV) (n : Nat) : Nat → Int → Int → Int → Option AV
  | 0 => (fun x0 x1 x2 => none)
  | m + 1 => (fun x0 x1 x2 => T_ref06_start_248 cp x0 x1 x2 (J_ref06_start_248 cp n m) (J_ref06_start_504 cp n (n + 300)))
theorem Js_ref06_start_248 (cp : FuncId → List AV → Option AV) (n : Nat) (m : Nat) (x0 : Int) (x1 : Int) (x2 : Int) : J_ref06_start_248 cp n (m + 1) x0 x1 x2 = T_ref06_start_248 cp x0 x1 x2 (J_ref06_start_248 cp n m) (J_ref06_start_504 cp n (n + 300)) := of_eq_true (eq_self _)
theorem JE_ref06_start_248 (n : Nat) : ∀ (m : Nat) (x0 : Int) (x1 : Int) (x2 : Int), jT (topEnv C (CP C n) n F_ref06_start) (bodyOf C.P F_ref06_start) (endOf C.P F_ref06_start) [false, false, false, true, true, true, true] [m] (S_ref06_start_248 x0 x1 x2) = J_ref06_start_248 (CP C n) n m x0 x1 x2
  | 0, x0, x1, x2 => (jT_eq _ _ _ _ _ _).trans (by kernel_rfl)
  | m + 1, x0, x1, x2 => (jT_eq _ _ _ _ _ _).trans ((K_ref06_start_248 _ n m x0 x1 x2).trans (congr (congrArg (T_ref06_start_248 (CP C n) x0 x1 x2) (funext fun x0 => (funext fun x1 => (funext fun x2 => (JE_ref06_start_248 n m) x0 x1 x2)))) (funext fun x0 => (funext fun x1 => (funext fun x2 => (JE_ref06_start_504 n (n + 300)) x0 x1 x2)))))
def T_ref06_start_120 (cp : FuncId → List AV → Option AV) (x0 : Int) (x1 : Int) (x2 : Int) (r120 : Int → Int → Int → Option AV) (j248 : Int → Int → Int → Option AV) : Option AV :=
 (cond (decide ((IntKind.i64.wrap (x2 + 400)) ≤ x0))
 (r120 x0 (IntKind.i64.wrap (x1 + 146097)) (IntKind.i64.wrap (x2 + 400)))
 (j248 x0 x1 x2))
theorem K_ref06_start_120 (j : Jump) (n : Nat) (m120 : Nat) (x0 : Int) (x1 : Int) (x2 : Int) : enter (topEnv C (CP C n) n F_ref06_start) (some j) (bodyOf C.P F_ref06_start) (endOf C.P F_ref06_start) [false, false, false, true, true, true] [(m120 + 1)] (S_ref06_start_120 x0 x1 x2) = T_ref06_start_120 (CP C n) x0 x1 x2 (fun x0 x1 x2 => j [false, false, false, true, true, true] [m120] (S_ref06_start_120 x0 x1 x2)) (fun x0 x1 x2 => j [false, false, false, true, true, true, true] [(n + 300)] (S_ref06_start_248 x0 x1 x2)) := by kernel_rfl
def J_ref06_start_120 (cp : FuncId → List AV → Option AV) (n : Nat) : Nat → Int → Int → Int → Option AV
  | 0 => (fun x0 x1 x2 => none)
  | m + 1 => (fun x0 x1 x2 => T_ref06_start_120 cp x0 x1 x2 (J_ref06_start_120 cp n m) (J_ref06_start_248 cp n (n + 300)))
theorem Js_ref06_start_120 (cp : FuncId → List AV → Option AV) (n : Nat) (m : Nat) (x0 : Int) (x1 : Int) (x2 : Int) : J_ref06_start_120 cp n (m + 1) x0 x1 x2 = T_ref06_start_120 cp x0 x1 x2 (J_ref06_start_120 cp n m) (J_ref06_start_248 cp n (n + 300)) := of_eq_true (eq_self _)
theorem JE_ref06_start_120 (n : Nat) : ∀ (m : Nat) (x0 : Int) (x1 : Int) (x2 : Int), jT (topEnv C (CP C n) n F_ref06_start) (bodyOf C.P F_ref06_start) (endOf C.P F_ref06_start) [false, false, false, true, true, true] [m] (S_ref06_start_120 x0 x1 x2) = J_ref06_start_120 (CP C n) n m x0 x1 x2
  | 0, x0, x1, x2 => (jT_eq _ _ _ _ _ _).trans (by kernel_rfl)
  | m + 1, x0, x1, x2 => (jT_eq _ _ _ _ _ _).trans ((K_ref06_start_120 _ n m x0 x1 x2).trans (congr (congrArg (T_ref06_start_120 (CP C n) x0 x1 x2) (funext fun x0 => (funext fun x1 => (funext fun x2 => (JE_ref06_start_120 n m) x0 x1 x2)))) (funext fun x0 => (funext fun x1 => (funext fun x2 => (JE_ref06_start_248 n (n + 300)) x0 x1 x2)))))
def T_ref06_start_1 (cp : FuncId → List AV → Option AV) (a0 : Int) (j120 : Int → Int → Int → Option AV) : Option AV :=
 (j120 a0 10957 2000)
theorem K_ref06_start_1 (j : Jump) (n : Nat) (a0 : Int) : ex (topEnv C (CP C n) n F_ref06_start) (some j) (bodyOf C.P F_ref06_start) 1 [] [] (endOf C.P F_ref06_start) (startOf C.P F_ref06_start [.int .i64 a0]) = T_ref06_start_1 (CP C n) a0 (fun x0 x1 x2 => j [false, false, false, true, true, true] [(n + 300)] (S_ref06_start_120 x0 x1 x2)) := by kernel_rfl
def R_ref06_start (cp : FuncId → List AV → Option AV) (n : Nat) (a0 : Int) : Option AV := T_ref06_start_1 cp a0 (J_ref06_start_120 cp n (n + 300))
theorem eq_ref06_start (n : Nat) (a0 : Int) : CP C (n + 1) F_ref06_start [.int .i64 a0] = R_ref06_start (CP C n) n a0 :=
  (CP_pure C n F_ref06_start _ (by kernel_rfl) (by kernel_rfl)).trans ((K_ref06_start_1 _ n a0).trans (congrArg (T_ref06_start_1 (CP C n) a0) (funext fun x0 => (funext fun x1 => (funext fun x2 => (JE_ref06_start_120 n (n + 300)) x0 x1 x2)))))
-- ref06_Number
def S_ref06_Number_116 (x0 : Int) (x1 : Int) (x2 : Int) (x3 : Int) (x4 : Int) : St := ⟨[.junk, .ptr (some (0, 0)), .junk, .int .i64 x0, .int .i64 x1, .junk, .junk, .junk, .junk, .junk, .junk, .junk, .junk, .junk, .junk, .junk, .junk, .junk, .junk, .junk, .junk, .junk, .junk, .junk, .junk], [.cells 23 [.int .i64 x2, .int .i64 x3, .int .i64 x4]]⟩
def T_ref06_Number_116 (cp : FuncId → List AV → Option AV) (x0 : Int) (x1 : Int) (x2 : Int) (x3 : Int) (x4 : Int) (r116 : Int → Int → Int → Int → Int → Option AV) : Option AV :=
 (cond (decide (x1 < x3))
 ((cp F_ref06_MonthDays [.int .i64 x2, .int .i64 x1]).bind fun r1 =>
 (AV.intK .i64 r1 fun i2 =>
 (r116 (IntKind.i64.wrap (x0 + i2)) (IntKind.i64.wrap (x1 + 1)) x2 x3 x4)))
 (some (.int .i64 (IntKind.i64.wrap ((IntKind.i64.wrap (x0 + x4)) - 1)))))
theorem K_ref06_Number_116 (j : Jump) (n : Nat) (m116 : Nat) (x0 : Int) (x1 : Int) (x2 : Int) (x3 : Int) (x4 : Int) : enter (topEnv C (CP C n) n F_ref06_Number) (some j) (bodyOf C.P F_ref06_Number) (endOf C.P F_ref06_Number) [false, false, true, false, true, true] [(m116 + 1)] (S_ref06_Number_116 x0 x1 x2 x3 x4) = T_ref06_Number_116 (CP C n) x0 x1 x2 x3 x4 (fun x0 x1 x2 x3 x4 => j [false, false, true, false, true, true] [m116] (S_ref06_Number_116 x0 x1 x2 x3 x4)) := by kernel_rfl
def J_ref06_Number_116 (cp : FuncId → List AV → Option AV) (n : Nat) : Nat → Int → Int → Int → Int → Int → Option AV
  | 0 => (fun x0 x1 x2 x3 x4 => none)
  | m + 1 => (fun x0 x1 x2 x3 x4 => T_ref06_Number_116 cp x0 x1 x2 x3 x4 (J_ref06_Number_116 cp n m))
theorem Js_ref06_Number_116 (cp : FuncId → List AV → Option AV) (n : Nat) (m : Nat) (x0 : Int) (x1 : Int) (x2 : Int) (x3 : Int) (x4 : Int) : J_ref06_Number_116 cp n (m + 1) x0 x1 x2 x3 x4 = T_ref06_Number_116 cp x0 x1 x2 x3 x4 (J_ref06_Number_116 cp n m) := of_eq_true (eq_self _)
theorem JE_ref06_Number_116 (n : Nat) : ∀ (m : Nat) (x0 : Int) (x1 : Int) (x2 : Int) (x3 : Int) (x4 : Int), jT (topEnv C (CP C n) n F_ref06_Number) (bodyOf C.P F_ref06_Number) (endOf C.P F_ref06_Number) [false, false, true, false, true, true] [m] (S_ref06_Number_116 x0 x1 x2 x3 x4) = J_ref06_Number_116 (CP C n) n m x0 x1 x2 x3 x4
  | 0, x0, x1, x2, x3, x4 => (jT_eq _ _ _ _ _ _).trans (by kernel_rfl)
  | m + 1, x0, x1, x2, x3, x4 => (jT_eq _ _ _ _ _ _).trans ((K_ref06_Number_116 _ n m x0 x1 x2 x3 x4).trans (congrArg (T_ref06_Number_116 (CP C n) x0 x1 x2 x3 x4) (funext fun x0 => (funext fun x1 => (funext fun x2 => (funext fun x3 => (funext fun x4 => (JE_ref06_Number_116 n m) x0 x1 x2 x3 x4)))))))
def T_ref06_Number_1 (cp : FuncId → List AV → Option AV) (a0_0 : Int) (a0_1 : Int) (a0_2 : Int) (j116 : Int → Int → Int → Int → Int → Option AV) : Option AV :=
 ((cp F_ref06_start [.int .i64 a0_0]).bind fun r1 =>
 (AV.intK .i64 r1 fun i2 =>
 (j116 i2 1 a0_0 a0_1 a0_2)))
theorem K_ref06_Number_1 (j : Jump) (n : Nat) (a0_0 : Int) (a0_1 : Int) (a0_2 : Int) : ex (topEnv C (CP C n) n F_ref06_Number) (some j) (bodyOf C.P F_ref06_Number) 1 [] [] (endOf C.P F_ref06_Number) (startOf C.P F_ref06_Number [.agg [.int .i64 a0_0, .int .i64 a0_1, .int .i64 a0_2]]) = T_ref06_Number_1 (CP C n) a0_0 a0_1 a0_2 (fun x0 x1 x2 x3 x4 => j [false, false, true, false, true, true] [(n + 300)] (S_ref06_Number_116 x0 x1 x2 x3 x4)) := by kernel_rfl
def R_ref06_Number (cp : FuncId → List AV → Option AV) (n : Nat) (a0_0 : Int) (a0_1 : Int) (a0_2 : Int) : Option AV := T_ref06_Number_1 cp a0_0 a0_1 a0_2 (J_ref06_Number_116 cp n (n + 300))
theorem eq_ref06_Number (n : Nat) (a0_0 : Int) (a0_1 : Int) (a0_2 : Int) : CP C (n + 1) F_ref06_Number [.agg [.int .i64 a0_0, .int .i64 a0_1, .int .i64 a0_2]] = R_ref06_Number (CP C n) n a0_0 a0_1 a0_2 :=
  (CP_pure C n F_ref06_Number _ (by kernel_rfl) (by kernel_rfl)).trans ((K_ref06_Number_1 _ n a0_0 a0_1 a0_2).trans (congrArg (T_ref06_Number_1 (CP C n) a0_0 a0_1 a0_2) (funext fun x0 => (funext fun x1 => (funext fun x2 => (funext fun x3 => (funext fun x4 => (JE_ref06_Number_116 n (n + 300)) x0 x1 x2 x3 x4)))))))
-- ref12_Until
def R_ref12_Until (cp : FuncId → List AV → Option AV) (_n : Nat) (a0_0 : Int) (a0_1 : Int) (a0_2 : Int) (a1_0 : Int) (a1_1 : Int) (a1_2 : Int) : Option AV :=
 ((cp F_ref12_Months [.agg [.int .i64 a0_0, .int .i64 a0_1, .int .i64 a0_2], .agg [.int .i64 a1_0, .int .i64 a1_1, .int .i64 a1_2]]).bind fun r1 =>
 (AV.tupK r1 fun l2 =>
 (consK l2 fun v3 l4 =>
 (AV.intK .i64 v3 fun i5 =>
 (consK l4 fun v6 l7 =>
 (AV.intK .i64 v6 fun i8 =>
 (nilK l7
 (cond (i8 != 0)
 (some (.tup [.agg [.int .i64 0, .int .i64 0, .int .i64 0], .int .i64 i8]))
 ((cp F_ref11_Add [.agg [.int .i64 a0_0, .int .i64 a0_1, .int .i64 a0_2], .int .i64 i5, .int .i64 0]).bind fun r9 =>
 (AV.tupK r9 fun l10 =>
 (consK l10 fun v11 l12 =>
 (AV.aggK v11 fun l13 =>
 (consK l13 fun v14 l15 =>
 (AV.intK .i64 v14 fun i16 =>
 (consK l15 fun v17 l18 =>
 (AV.intK .i64 v17 fun i19 =>
 (consK l18 fun v20 l21 =>
 (AV.intK .i64 v20 fun i22 =>
 (nilK l21
 (consK l12 fun v23 l24 =>
 (AV.intK .i64 v23 fun i25 =>
 (nilK l24
 ((cp F_ref06_Number [.agg [.int .i64 a1_0, .int .i64 a1_1, .int .i64 a1_2]]).bind fun r26 =>
 (AV.intK .i64 r26 fun i27 =>
 ((cp F_ref06_Number [.agg [.int .i64 i16, .int .i64 i19, .int .i64 i22]]).bind fun r28 =>
 (AV.intK .i64 r28 fun i29 =>
 (some (.tup [.agg [.int .i64 (IntKind.i64.wrap (Int.tdiv i5 12)), .int .i64 (Int.tmod i5 12), .int .i64 (IntKind.i64.wrap (i27 - i29))], .int .i64 0]))))))))))))))))))))))))))))
theorem eq_ref12_Until (n : Nat) (a0_0 : Int) (a0_1 : Int) (a0_2 : Int) (a1_0 : Int) (a1_1 : Int) (a1_2 : Int) : CP C (n + 1) F_ref12_Until [.agg [.int .i64 a0_0, .int .i64 a0_1, .int .i64 a0_2], .agg [.int .i64 a1_0, .int .i64 a1_1, .int .i64 a1_2]] = R_ref12_Until (CP C n) n a0_0 a0_1 a0_2 a1_0 a1_1 a1_2 := by kernel_rfl
-- law12_awake
def R_law12_awake (cp : FuncId → List AV → Option AV) (_n : Nat) : Option AV :=
 ((cp F_until_Until [.agg [.int .i64 2024, .int .i64 1, .int .i64 31], .agg [.int .i64 2024, .int .i64 3, .int .i64 1]]).bind fun r1 =>
 (AV.tupK r1 fun l2 =>
 (consK l2 fun v3 l4 =>
 (AV.aggK v3 fun l5 =>
 (consK l5 fun v6 l7 =>
 (AV.intK .i64 v6 fun i8 =>
 (consK l7 fun v9 l10 =>
 (AV.intK .i64 v9 fun i11 =>
 (consK l10 fun v12 l13 =>
 (AV.intK .i64 v12 fun i14 =>
 (nilK l13
 (consK l4 fun v15 l16 =>
 (AV.intK .i64 v15 fun i17 =>
 (nilK l16
 ((cp F_until_Until [.agg [.int .i64 2024, .int .i64 3, .int .i64 31], .agg [.int .i64 2024, .int .i64 2, .int .i64 29]]).bind fun r18 =>
 (AV.tupK r18 fun l19 =>
 (consK l19 fun v20 l21 =>
 (AV.aggK v20 fun l22 =>
 (consK l22 fun v23 l24 =>
 (AV.intK .i64 v23 fun i25 =>
 (consK l24 fun v26 l27 =>
 (AV.intK .i64 v26 fun i28 =>
 (consK l27 fun v29 l30 =>
 (AV.intK .i64 v29 fun i31 =>
 (nilK l30
 (consK l21 fun v32 l33 =>
 (AV.intK .i64 v32 fun i34 =>
 (nilK l33
 ((cp F_until_Until [.agg [.int .i64 2020, .int .i64 2, .int .i64 29], .agg [.int .i64 2021, .int .i64 2, .int .i64 28]]).bind fun r35 =>
 (AV.tupK r35 fun l36 =>
 (consK l36 fun v37 l38 =>
 (AV.aggK v37 fun l39 =>
 (consK l39 fun v40 l41 =>
 (AV.intK .i64 v40 fun i42 =>
 (consK l41 fun v43 l44 =>
 (AV.intK .i64 v43 fun i45 =>
 (consK l44 fun v46 l47 =>
 (AV.intK .i64 v46 fun i48 =>
 (nilK l47
 (consK l38 fun v49 l50 =>
 (AV.intK .i64 v49 fun i51 =>
 (nilK l50
 (cond ((i8 == 0) && ((i11 == 1) && ((i14 == 1) && true)))
 (cond (i17 == 0)
 (cond ((i25 == 0) && ((i28 == (-1)) && ((i31 == 0) && true)))
 (cond (i34 == 0)
 (cond ((i42 == 1) && ((i45 == 0) && ((i48 == 0) && true)))
 (some (.bool (i51 == 0)))
 (some (.bool false)))
 (some (.bool false)))
 (some (.bool false)))
 (some (.bool false)))
 (some (.bool false)))))))))))))))))))))))))))))))))))))))))))))
theorem eq_law12_awake (n : Nat) : CP C (n + 1) F_law12_awake [] = R_law12_awake (CP C n) n := by kernel_rfl
-- law12_UntilDates
def R_law12_UntilDates (cp : FuncId → List AV → Option AV) (_n : Nat) (a0_0 : Int) (a0_1 : Int) (a0_2 : Int) (a1_0 : Int) (a1_1 : Int) (a1_2 : Int) : Option AV :=
 ((cp F_until_Until [.agg [.int .i64 a0_0, .int .i64 a0_1, .int .i64 a0_2], .agg [.int .i64 a1_0, .int .i64 a1_1, .int .i64 a1_2]]).bind fun r1 =>
 (AV.tupK r1 fun l2 =>
 (consK l2 fun v3 l4 =>
 (AV.aggK v3 fun l5 =>
 (consK l5 fun v6 l7 =>
 (AV.intK .i64 v6 fun i8 =>
 (consK l7 fun v9 l10 =>
 (AV.intK .i64 v9 fun i11 =>
 (consK l10 fun v12 l13 =>
 (AV.intK .i64 v12 fun i14 =>
 (nilK l13
 (consK l4 fun v15 l16 =>
 (AV.intK .i64 v15 fun i17 =>
 (nilK l16
 ((cp F_ref12_Until [.agg [.int .i64 a0_0, .int .i64 a0_1, .int .i64 a0_2], .agg [.int .i64 a1_0, .int .i64 a1_1, .int .i64 a1_2]]).bind fun r18 =>
 (AV.tupK r18 fun l19 =>
 (consK l19 fun v20 l21 =>
 (AV.aggK v20 fun l22 =>
 (consK l22 fun v23 l24 =>
 (AV.intK .i64 v23 fun i25 =>
 (consK l24 fun v26 l27 =>
 (AV.intK .i64 v26 fun i28 =>
 (consK l27 fun v29 l30 =>
 (AV.intK .i64 v29 fun i31 =>
 (nilK l30
 (consK l21 fun v32 l33 =>
 (AV.intK .i64 v32 fun i34 =>
 (nilK l33
 ((cp F_until_Months [.agg [.int .i64 a0_0, .int .i64 a0_1, .int .i64 a0_2], .agg [.int .i64 a1_0, .int .i64 a1_1, .int .i64 a1_2]]).bind fun r35 =>
 (AV.tupK r35 fun l36 =>
 (consK l36 fun v37 l38 =>
 (AV.intK .i64 v37 fun i39 =>
 (consK l38 fun v40 l41 =>
 (AV.intK .i64 v40 fun i42 =>
 (nilK l41
 ((cp F_ref12_Months [.agg [.int .i64 a0_0, .int .i64 a0_1, .int .i64 a0_2], .agg [.int .i64 a1_0, .int .i64 a1_1, .int .i64 a1_2]]).bind fun r43 =>
 (AV.tupK r43 fun l44 =>
 (consK l44 fun v45 l46 =>
 (AV.intK .i64 v45 fun i47 =>
 (consK l46 fun v48 l49 =>
 (AV.intK .i64 v48 fun i50 =>
 (nilK l49
 (cond ((i8 == i25) && ((i11 == i28) && ((i14 == i31) && true)))
 (cond (i17 == i34)
 (cond (i39 == i47)
 (cond (i42 == i50)
 ((cp F_law12_awake []).bind fun r51 =>
 (AV.boolK r51 fun b52 =>
 (some (.bool b52))))
 (some (.bool false)))
 (some (.bool false)))
 (some (.bool false)))
 (some (.bool false)))))))))))))))))))))))))))))))))))))))))))))
theorem eq_law12_UntilDates (n : Nat) (a0_0 : Int) (a0_1 : Int) (a0_2 : Int) (a1_0 : Int) (a1_1 : Int) (a1_2 : Int) : CP C (n + 1) F_law12_UntilDates [.agg [.int .i64 a0_0, .int .i64 a0_1, .int .i64 a0_2], .agg [.int .i64 a1_0, .int .i64 a1_1, .int .i64 a1_2]] = R_law12_UntilDates (CP C n) n a0_0 a0_1 a0_2 a1_0 a1_1 a1_2 := by kernel_rfl
-- ref06_DateOf
def S_ref06_DateOf_248 (x0 : Int) (x1 : Int) : St := ⟨[.junk, .junk, .ptr (some (0, 0)), .junk, .int .i64 x0, .int .i64 x1, .junk, .junk, .junk, .junk, .junk, .junk, .junk, .junk, .junk, .junk, .junk, .junk, .junk, .junk, .junk, .junk, .junk, .junk, .junk, .junk, .junk, .junk, .junk, .junk, .junk, .junk, .junk, .junk, .junk, .junk, .junk, .junk, .junk, .junk, .junk, .junk, .junk, .junk, .junk, .junk, .junk, .junk, .junk, .junk, .junk, .junk, .junk, .junk, .junk], [.cells 23 [.int .i64 0, .int .i64 0, .int .i64 0]]⟩
def S_ref06_DateOf_504 (x0 : Int) (x1 : Int) : St := ⟨[.junk, .junk, .ptr (some (0, 0)), .junk, .int .i64 x0, .int .i64 x1, .junk, .junk, .junk, .junk, .junk, .junk, .junk, .junk, .junk, .junk, .junk, .junk, .junk, .junk, .junk, .junk, .junk, .junk, .junk, .junk, .junk, .junk, .junk, .junk, .junk, .junk, .junk, .junk, .junk, .junk, .junk, .junk, .junk, .junk, .junk, .junk, .junk, .junk, .junk, .junk, .junk, .junk, .junk, .junk, .junk, .junk, .junk, .junk, .junk], [.cells 23 [.int .i64 0, .int .i64 0, .int .i64 0]]⟩
def S_ref06_DateOf_1016 (x0 : Int) (x1 : Int) : St := ⟨[.junk, .junk, .ptr (some (0, 0)), .junk, .int .i64 x0, .int .i64 x1, .junk, .junk, .junk, .junk, .junk, .junk, .junk, .junk, .junk, .junk, .junk, .junk, .junk, .junk, .junk, .junk, .junk, .junk, .junk, .junk, .junk, .junk, .junk, .junk, .junk, .junk, .junk, .junk, .junk, .junk, .junk, .junk, .junk, .junk, .junk, .junk, .junk, .junk, .junk, .junk, .junk, .junk, .junk, .junk, .junk, .junk, .junk, .junk, .junk], [.cells 23 [.int .i64 0, .int .i64 0, .int .i64 0]]⟩
def S_ref06_DateOf_4088 (x0 : Int) (x1 : Int) (x2 : Int) : St := ⟨[.junk, .junk, .ptr (some (0, 0)), .junk, .int .i64 x0, .int .i64 x1, .int .i64 x2, .junk, .junk, .junk, .junk, .junk, .junk, .junk, .junk, .junk, .junk, .junk, .junk, .junk, .junk, .junk, .junk, .junk, .junk, .junk, .junk, .junk, .junk, .junk, .junk, .junk, .junk, .junk, .junk, .junk, .junk, .junk, .junk, .junk, .junk, .junk, .junk, .junk, .junk, .junk, .junk, .junk, .junk, .junk, .junk, .junk, .junk, .junk, .junk], [.cells 23 [.int .i64 0, .int .i64 0, .int .i64 0]]⟩
def T_ref06_DateOf_4088 (cp : FuncId → List AV → Option AV) (x0 : Int) (x1 : Int) (x2 : Int) (r4088 : Int → Int → Int → Option AV) : Option AV :=
 ((cp F_ref06_MonthDays [.int .i64 x0, .int .i64 x2]).bind fun r1 =>
 (AV.intK .i64 r1 fun i2 =>
 (cond (decide (x1 ≥ i2))
 ((cp F_ref06_MonthDays [.int .i64 x0, .int .i64 x2]).bind fun r3 =>
 (AV.intK .i64 r3 fun i4 =>
 (r4088 x0 (IntKind.i64.wrap (x1 - i4)) (IntKind.i64.wrap (x2 + 1)))))
 (some (.tup [.agg [.int .i64 x0, .int .i64 x2, .int .i64 (IntKind.i64.wrap (x1 + 1))], .int .i64 0])))))
theorem K_ref06_DateOf_4088 (j : Jump) (n : Nat) (m4088 : Nat) (x0 : Int) (x1 : Int) (x2 : Int) : enter (topEnv C (CP C n) n F_ref06_DateOf) (some j) (bodyOf C.P F_ref06_DateOf) (endOf C.P F_ref06_DateOf) [false, false, false, true, true, true, true, true, true, true, true] [(m4088 + 1)] (S_ref06_DateOf_4088 x0 x1 x2) = T_ref06_DateOf_4088 (CP C n) x0 x1 x2 (fun x0 x1 x2 => j [false, false, false, true, true, true, true, true, true, true, true] [m4088] (S_ref06_DateOf_4088 x0 x1 x2)) := by kernel_rfl
def J_ref06_DateOf_4088 (cp : FuncId → List AV → Option AV) (n : Nat) : Nat → Int → Int → Int → Option AV
  | 0 => (fun x0 x1 x2 => none)
  | m + 1 => (fun x0 x1 x2 => T_ref06_DateOf_4088 cp x0 x1 x2 (J_ref06_DateOf_4088 cp n m))
theorem Js_ref06_DateOf_4088 (cp : FuncId → List AV → Option AV) (n : Nat) (m : Nat) (x0 : Int) (x1 : Int) (x2 : Int) : J_ref06_DateOf_4088 cp n (m + 1) x0 x1 x2 = T_ref06_DateOf_4088 cp x0 x1 x2 (J_ref06_DateOf_4088 cp n m) := of_eq_true (eq_self _)
theorem JE_ref06_DateOf_4088 (n : Nat) : ∀ (m : Nat) (x0 : Int) (x1 : Int) (x2 : Int), jT (topEnv C (CP C n) n F_ref06_DateOf) (bodyOf C.P F_ref06_DateOf) (endOf C.P F_ref06_DateOf) [false, false, false, true, true, true, true, true, true, true, true] [m] (S_ref06_DateOf_4088 x0 x1 x2) = J_ref06_DateOf_4088 (CP C n) n m x0 x1 x2
  | 0, x0, x1, x2 => (jT_eq _ _ _ _ _ _).trans (by kernel_rfl)
  | m + 1, x0, x1, x2 => (jT_eq _ _ _ _ _ _).trans ((K_ref06_DateOf_4088 _ n m x0 x1 x2).trans (congrArg (T_ref06_DateOf_4088 (CP C n) x0 x1 x2) (funext fun x0 => (funext fun x1 => (funext fun x2 => (JE_ref06_DateOf_4088 n m) x0 x1 x2)))))
def T_ref06_DateOf_1016 (cp : FuncId → List AV → Option AV) (x0 : Int) (x1 : Int) (r1016 : Int → Int → Option AV) (j4088 : Int → Int → Int → Option AV) : Option AV :=
 ((cp F_ref06_YearDays [.int .i64 x0]).bind fun r1 =>
 (AV.intK .i64 r1 fun i2 =>
 (cond (decide (x1 ≥ i2))
 ((cp F_ref06_YearDays [.int .i64 x0]).bind fun r3 =>
 (AV.intK .i64 r3 fun i4 =>
 (r1016 (IntKind.i64.wrap (x0 + 1)) (IntKind.i64.wrap (x1 - i4)))))
 (j4088 x0 x1 1))))
theorem K_ref06_DateOf_1016 (j : Jump) (n : Nat) (m1016 : Nat) (x0 : Int) (x1 : Int) : enter (topEnv C (CP C n) n F_ref06_DateOf) (some j) (bodyOf C.P F_ref06_DateOf) (endOf C.P F_ref06_DateOf) [false, false, false, true, true, true, true, true, true] [(m1016 + 1)] (S_ref06_DateOf_1016 x0 x1) = T_ref06_DateOf_1016 (CP C n) x0 x1 (fun x0 x1 => j [false, false, false, true, true, true, true, true, true] [m1016] (S_ref06_DateOf_1016 x0 x1)) (fun x0 x1 x2 => j [false, false, false, true, true, true, true, true, true, true, true] [(n + 300)] (S_ref06_DateOf_4088 x0 x1 x2)) := by kernel_rfl
def J_ref06_DateOf_1016 (cp : FuncId → List AV → Option AV) (n : Nat) : Nat → Int → Int → Option AV
  | 0 => (fun x0 x1 => none)
  | m + 1 => (fun x0 x1 => T_ref06_DateOf_1016 cp x0 x1 (J_ref06_DateOf_1016 cp n m) (J_ref06_DateOf_4088 cp n (n + 300)))
theorem Js_ref06_DateOf_1016 (cp : FuncId → List AV → Option AV) (n : Nat) (m : Nat) (x0 : Int) (x1 : Int) : J_ref06_DateOf_1016 cp n (m + 1) x0 x1 = T_ref06_DateOf_1016 cp x0 x1 (J_ref06_DateOf_1016 cp n m) (J_ref06_DateOf_4088 cp n (n + 300)) := of_eq_true (eq_self _)
theorem JE_ref06_DateOf_1016 (n : Nat) : ∀ (m : Nat) (x0 : Int) (x1 : Int), jT (topEnv C (CP C n) n F_ref06_DateOf) (bodyOf C.P F_ref06_DateOf) (endOf C.P F_ref06_DateOf) [false, false, false, true, true, true, true, true, true] [m] (S_ref06_DateOf_1016 x0 x1) = J_ref06_DateOf_1016 (CP C n) n m x0 x1
  | 0, x0, x1 => (jT_eq _ _ _ _ _ _).trans (by kernel_rfl)
  | m + 1, x0, x1 => (jT_eq _ _ _ _ _ _).trans ((K_ref06_DateOf_1016 _ n m x0 x1).trans (congr (congrArg (T_ref06_DateOf_1016 (CP C n) x0 x1) (funext fun x0 => (funext fun x1 => (JE_ref06_DateOf_1016 n m) x0 x1))) (funext fun x0 => (funext fun x1 => (funext fun x2 => (JE_ref06_DateOf_4088 n (n + 300)) x0 x1 x2)))))
def T_ref06_DateOf_504 (cp : FuncId → List AV → Option AV) (x0 : Int) (x1 : Int) (r504 : Int → Int → Option AV) (j1016 : Int → Int → Option AV) : Option AV :=
 (cond (decide (x1 ≥ 146097))
 (r504 (IntKind.i64.wrap (x0 + 400)) (IntKind.i64.wrap (x1 - 146097)))
 (j1016 x0 x1))
theorem K_ref06_DateOf_504 (j : Jump) (n : Nat) (m504 : Nat) (x0 : Int) (x1 : Int) : enter (topEnv C (CP C n) n F_ref06_DateOf) (some j) (bodyOf C.P F_ref06_DateOf) (endOf C.P F_ref06_DateOf) [false, false, false, true, true, true, true, true] [(m504 + 1)] (S_ref06_DateOf_504 x0 x1) = T_ref06_DateOf_504 (CP C n) x0 x1 (fun x0 x1 => j [false, false, false, true, true, true, true, true] [m504] (S_ref06_DateOf_504 x0 x1)) (fun x0 x1 => j [false, false, false, true, true, true, true, true, true] [(n + 300)] (S_ref06_DateOf_1016 x0 x1)) := by kernel_rfl
def J_ref06_DateOf_504 (cp : FuncId → List AV → Option AV) (n : Nat) : Nat → Int → Int → Option AV
  | 0 => (fun x0 x1 => none)
  | m + 1 => (fun x0 x1 => T_ref06_DateOf_504 cp x0 x1 (J_ref06_DateOf_504 cp n m) (J_ref06_DateOf_1016 cp n (n + 300)))
theorem Js_ref06_DateOf_504 (cp : FuncId → List AV → Option AV) (n : Nat) (m : Nat) (x0 : Int) (x1 : Int) : J_ref06_DateOf_504 cp n (m + 1) x0 x1 = T_ref06_DateOf_504 cp x0 x1 (J_ref06_DateOf_504 cp n m) (J_ref06_DateOf_1016 cp n (n + 300)) := of_eq_true (eq_self _)
theorem JE_ref06_DateOf_504 (n : Nat) : ∀ (m : Nat) (x0 : Int) (x1 : Int), jT (topEnv C (CP C n) n F_ref06_DateOf) (bodyOf C.P F_ref06_DateOf) (endOf C.P F_ref06_DateOf) [false, false, false, true, true, true, true, true] [m] (S_ref06_DateOf_504 x0 x1) = J_ref06_DateOf_504 (CP C n) n m x0 x1
  | 0, x0, x1 => (jT_eq _ _ _ _ _ _).trans (by kernel_rfl)
  | m + 1, x0, x1 => (jT_eq _ _ _ _ _ _).trans ((K_ref06_DateOf_504 _ n m x0 x1).trans (congr (congrArg (T_ref06_DateOf_504 (CP C n) x0 x1) (funext fun x0 => (funext fun x1 => (JE_ref06_DateOf_504 n m) x0 x1))) (funext fun x0 => (funext fun x1 => (JE_ref06_DateOf_1016 n (n + 300)) x0 x1))))
def T_ref06_DateOf_248 (cp : FuncId → List AV → Option AV) (x0 : Int) (x1 : Int) (r248 : Int → Int → Option AV) (j504 : Int → Int → Option AV) : Option AV :=
 (cond (decide (x1 < 0))
 (r248 (IntKind.i64.wrap (x0 - 400)) (IntKind.i64.wrap (x1 + 146097)))
 (j504 x0 x1))
theorem K_ref06_DateOf_248 (j : Jump) (n : Nat) (m248 : Nat) (x0 : Int) (x1 : Int) : enter (topEnv C (CP C n) n F_ref06_DateOf) (some j) (bodyOf C.P F_ref06_DateOf) (endOf C.P F_ref06_DateOf) [false, false, false, true, true, true, true] [(m248 + 1)] (S_ref06_DateOf_248 x0 x1) = T_ref06_DateOf_248 (CP C n) x0 x1 (fun x0 x1 => j [false, false, false, true, true, true, true] [m248] (S_ref06_DateOf_248 x0 x1)) (fun x0 x1 => j [false, false, false, true, true, true, true, true] [(n + 300)] (S_ref06_DateOf_504 x0 x1)) := by kernel_rfl
def J_ref06_DateOf_248 (cp : FuncId → List AV → Option AV) (n : Nat) : Nat → Int → Int → Option AV
  | 0 => (fun x0 x1 => none)
  | m + 1 => (fun x0 x1 => T_ref06_DateOf_248 cp x0 x1 (J_ref06_DateOf_248 cp n m) (J_ref06_DateOf_504 cp n (n + 300)))
theorem Js_ref06_DateOf_248 (cp : FuncId → List AV → Option AV) (n : Nat) (m : Nat) (x0 : Int) (x1 : Int) : J_ref06_DateOf_248 cp n (m + 1) x0 x1 = T_ref06_DateOf_248 cp x0 x1 (J_ref06_DateOf_248 cp n m) (J_ref06_DateOf_504 cp n (n + 300)) := of_eq_true (eq_self _)
theorem JE_ref06_DateOf_248 (n : Nat) : ∀ (m : Nat) (x0 : Int) (x1 : Int), jT (topEnv C (CP C n) n F_ref06_DateOf) (bodyOf C.P F_ref06_DateOf) (endOf C.P F_ref06_DateOf) [false, false, false, true, true, true, true] [m] (S_ref06_DateOf_248 x0 x1) = J_ref06_DateOf_248 (CP C n) n m x0 x1
  | 0, x0, x1 => (jT_eq _ _ _ _ _ _).trans (by kernel_rfl)
  | m + 1, x0, x1 => (jT_eq _ _ _ _ _ _).trans ((K_ref06_DateOf_248 _ n m x0 x1).trans (congr (congrArg (T_ref06_DateOf_248 (CP C n) x0 x1) (funext fun x0 => (funext fun x1 => (JE_ref06_DateOf_248 n m) x0 x1))) (funext fun x0 => (funext fun x1 => (JE_ref06_DateOf_504 n (n + 300)) x0 x1))))
def T_ref06_DateOf_1 (cp : FuncId → List AV → Option AV) (a0 : Int) (j248 : Int → Int → Option AV) : Option AV :=
 (cond (decide (a0 < (-4371587)))
 (some (.tup [.agg [.int .i64 0, .int .i64 0, .int .i64 0], .int .i64 8]))
 (cond (decide (a0 > 2932896))
 (some (.tup [.agg [.int .i64 0, .int .i64 0, .int .i64 0], .int .i64 8]))
 (j248 2000 (IntKind.i64.wrap (a0 - 10957)))))
theorem K_ref06_DateOf_1 (j : Jump) (n : Nat) (a0 : Int) : ex (topEnv C (CP C n) n F_ref06_DateOf) (some j) (bodyOf C.P F_ref06_DateOf) 1 [] [] (endOf C.P F_ref06_DateOf) (startOf C.P F_ref06_DateOf [.int .i64 a0]) = T_ref06_DateOf_1 (CP C n) a0 (fun x0 x1 => j [false, false, false, true, true, true, true] [(n + 300)] (S_ref06_DateOf_248 x0 x1)) := by kernel_rfl
def R_ref06_DateOf (cp : FuncId → List AV → Option AV) (n : Nat) (a0 : Int) : Option AV := T_ref06_DateOf_1 cp a0 (J_ref06_DateOf_248 cp n (n + 300))
theorem eq_ref06_DateOf (n : Nat) (a0 : Int) : CP C (n + 1) F_ref06_DateOf [.int .i64 a0] = R_ref06_DateOf (CP C n) n a0 :=
  (CP_pure C n F_ref06_DateOf _ (by kernel_rfl) (by kernel_rfl)).trans ((K_ref06_DateOf_1 _ n a0).trans (congrArg (T_ref06_DateOf_1 (CP C n) a0) (funext fun x0 => (funext fun x1 => (JE_ref06_DateOf_248 n (n + 300)) x0 x1))))
-- ref10_in
def R_ref10_in (cp : FuncId → List AV → Option AV) (_n : Nat) (a0 : Int) : Option AV :=
 (cond (decide (a0 ≥ (-1000000)))
 (some (.bool (decide (a0 ≤ 1000000))))
 (some (.bool false)))
theorem eq_ref10_in (n : Nat) (a0 : Int) : CP C (n + 1) F_ref10_in [.int .i64 a0] = R_ref10_in (CP C n) n a0 := by kernel_rfl
-- ref10_Check
def R_ref10_Check (cp : FuncId → List AV → Option AV) (_n : Nat) (a0_0 : Int) (a0_1 : Int) (a0_2 : Int) : Option AV :=
 ((cp F_ref10_in [.int .i64 a0_0]).bind fun r1 =>
 (AV.boolK r1 fun b2 =>
 (cond (!b2)
 (some (.int .i64 8))
 ((cp F_ref10_in [.int .i64 a0_1]).bind fun r3 =>
 (AV.boolK r3 fun b4 =>
 (cond (!b4)
 (some (.int .i64 8))
 ((cp F_ref10_in [.int .i64 a0_2]).bind fun r5 =>
 (AV.boolK r5 fun b6 =>
 (cond (!b6)
 (some (.int .i64 8))
 (some (.int .i64 0)))))))))))
theorem eq_ref10_Check (n : Nat) (a0_0 : Int) (a0_1 : Int) (a0_2 : Int) : CP C (n + 1) F_ref10_Check [.agg [.int .i64 a0_0, .int .i64 a0_1, .int .i64 a0_2]] = R_ref10_Check (CP C n) n a0_0 a0_1 a0_2 := by kernel_rfl
-- ref10_Months
def R_ref10_Months (cp : FuncId → List AV → Option AV) (_n : Nat) (a0_0 : Int) (a0_1 : Int) (a0_2 : Int) : Option AV :=
 ((cp F_ref10_Check [.agg [.int .i64 a0_0, .int .i64 a0_1, .int .i64 a0_2]]).bind fun r1 =>
 (AV.intK .i64 r1 fun i2 =>
 (cond (i2 != 0)
 (some (.int .i64 0))
 (some (.int .i64 (IntKind.i64.wrap ((IntKind.i64.wrap (12 * a0_0)) + a0_1)))))))
theorem eq_ref10_Months (n : Nat) (a0_0 : Int) (a0_1 : Int) (a0_2 : Int) : CP C (n + 1) F_ref10_Months [.agg [.int .i64 a0_0, .int .i64 a0_1, .int .i64 a0_2]] = R_ref10_Months (CP C n) n a0_0 a0_1 a0_2 := by kernel_rfl
-- ref11_Plus
def S_ref11_Plus_7 (x0 : Int) (x1 : Int) (x2 : Int) (x3 : Int) (x4 : Int) (x5 : Int) (x6 : Int) : St := ⟨[.junk, .junk, .int .i64 x0, .ptr (some (0, 0)), .ptr (some (1, 0)), .junk, .ptr (some (2, 0)), .junk, .junk, .junk, .junk, .junk, .junk, .junk, .junk, .junk, .junk, .junk, .junk, .junk, .junk, .junk, .junk, .junk, .junk, .junk, .junk, .junk, .junk, .junk, .junk, .junk, .junk, .junk, .junk, .junk, .junk, .junk, .junk, .junk, .junk, .junk, .junk, .junk, .junk, .junk, .junk, .junk], [.cells 23 [.int .i64 x1, .int .i64 x2, .int .i64 x3], .cells 25 [.int .i64 x4, .int .i64 x5, .int .i64 x6], .cells 23 [.int .i64 0, .int .i64 0, .int .i64 0]]⟩
def T_ref11_Plus_7 (cp : FuncId → List AV → Option AV) (x0 : Int) (x1 : Int) (x2 : Int) (x3 : Int) (x4 : Int) (x5 : Int) (x6 : Int) : Option AV :=
 ((cp F_ref06_Check [.agg [.int .i64 x1, .int .i64 x2, .int .i64 x3]]).bind fun r1 =>
 (AV.intK .i64 r1 fun i2 =>
 (cond (i2 != 0)
 (some (.tup [.agg [.int .i64 0, .int .i64 0, .int .i64 0], .int .i64 i2]))
 ((cp F_ref10_Check [.agg [.int .i64 x4, .int .i64 x5, .int .i64 x6]]).bind fun r3 =>
 (AV.intK .i64 r3 fun i4 =>
 (cond (i4 != 0)
 (some (.tup [.agg [.int .i64 0, .int .i64 0, .int .i64 0], .int .i64 8]))
 ((cp F_ref10_Months [.agg [.int .i64 x4, .int .i64 x5, .int .i64 x6]]).bind fun r5 =>
 (AV.intK .i64 r5 fun i6 =>
 ((cp F_ref11_Add [.agg [.int .i64 x1, .int .i64 x2, .int .i64 x3], .int .i64 i6, .int .i64 x0]).bind fun r7 =>
 (AV.tupK r7 fun l8 =>
 (consK l8 fun v9 l10 =>
 (AV.aggK v9 fun l11 =>
 (consK l11 fun v12 l13 =>
 (AV.intK .i64 v12 fun i14 =>
 (consK l13 fun v15 l16 =>
 (AV.intK .i64 v15 fun i17 =>
 (consK l16 fun v18 l19 =>
 (AV.intK .i64 v18 fun i20 =>
 (nilK l19
 (consK l10 fun v21 l22 =>
 (AV.intK .i64 v21 fun i23 =>
 (nilK l22
 (cond (i23 != 0)
 (some (.tup [.agg [.int .i64 0, .int .i64 0, .int .i64 0], .int .i64 i23]))
 ((cp F_ref06_Number [.agg [.int .i64 i14, .int .i64 i17, .int .i64 i20]]).bind fun r24 =>
 (AV.intK .i64 r24 fun i25 =>
 ((cp F_ref06_DateOf [.int .i64 (IntKind.i64.wrap (i25 + x6))]).bind fun r26 =>
 (AV.tupK r26 fun l27 =>
 (consK l27 fun v28 l29 =>
 (AV.aggK v28 fun l30 =>
 (consK l30 fun v31 l32 =>
 (AV.intK .i64 v31 fun i33 =>
 (consK l32 fun v34 l35 =>
 (AV.intK .i64 v34 fun i36 =>
 (consK l35 fun v37 l38 =>
 (AV.intK .i64 v37 fun i39 =>
 (nilK l38
 (consK l29 fun v40 l41 =>
 (AV.intK .i64 v40 fun i42 =>
 (nilK l41
 (some (.tup [.agg [.int .i64 i33, .int .i64 i36, .int .i64 i39], .int .i64 i42])))))))))))))))))))))))))))))))))))))))))
theorem K_ref11_Plus_7 (j : Jump) (n : Nat) (x0 : Int) (x1 : Int) (x2 : Int) (x3 : Int) (x4 : Int) (x5 : Int) (x6 : Int) : enter (topEnv C (CP C n) n F_ref11_Plus) (some j) (bodyOf C.P F_ref11_Plus) (endOf C.P F_ref11_Plus) [true, true] [] (S_ref11_Plus_7 x0 x1 x2 x3 x4 x5 x6) = T_ref11_Plus_7 (CP C n) x0 x1 x2 x3 x4 x5 x6 := by kernel_rfl
def J_ref11_Plus_7 (cp : FuncId → List AV → Option AV) (n : Nat) (x0 : Int) (x1 : Int) (x2 : Int) (x3 : Int) (x4 : Int) (x5 : Int) (x6 : Int) : Option AV := T_ref11_Plus_7 cp x0 x1 x2 x3 x4 x5 x6
theorem JE_ref11_Plus_7 (n : Nat) (x0 : Int) (x1 : Int) (x2 : Int) (x3 : Int) (x4 : Int) (x5 : Int) (x6 : Int) : jT (topEnv C (CP C n) n F_ref11_Plus) (bodyOf C.P F_ref11_Plus) (endOf C.P F_ref11_Plus) [true, true] [] (S_ref11_Plus_7 x0 x1 x2 x3 x4 x5 x6) = J_ref11_Plus_7 (CP C n) n x0 x1 x2 x3 x4 x5 x6 :=
  (jT_eq _ _ _ _ _ _).trans ((K_ref11_Plus_7 _ n x0 x1 x2 x3 x4 x5 x6).trans (rfl))
def T_ref11_Plus_1 (cp : FuncId → List AV → Option AV) (a0_0 : Int) (a0_1 : Int) (a0_2 : Int) (a1_0 : Int) (a1_1 : Int) (a1_2 : Int) (a2 : Int) (j7 : Int → Int → Int → Int → Int → Int → Int → Option AV) : Option AV :=
 (cond (a2 != 0)
 (cond (a2 != 1)
 (some (.tup [.agg [.int .i64 0, .int .i64 0, .int .i64 0], .int .i64 5]))
 (j7 a2 a0_0 a0_1 a0_2 a1_0 a1_1 a1_2))
 (j7 a2 a0_0 a0_1 a0_2 a1_0 a1_1 a1_2))
theorem K_ref11_Plus_1 (j : Jump) (n : Nat) (a0_0 : Int) (a0_1 : Int) (a0_2 : Int) (a1_0 : Int) (a1_1 : Int) (a1_2 : Int) (a2 : Int) : ex (topEnv C (CP C n) n F_ref11_Plus) (some j) (bodyOf C.P F_ref11_Plus) 1 [] [] (endOf C.P F_ref11_Plus) (startOf C.P F_ref11_Plus [.agg [.int .i64 a0_0, .int .i64 a0_1, .int .i64 a0_2], .agg [.int .i64 a1_0, .int .i64 a1_1, .int .i64 a1_2], .int .i64 a2]) = T_ref11_Plus_1 (CP C n) a0_0 a0_1 a0_2 a1_0 a1_1 a1_2 a2 (fun x0 x1 x2 x3 x4 x5 x6 => j [true, true] [] (S_ref11_Plus_7 x0 x1 x2 x3 x4 x5 x6)) := by kernel_rfl
def R_ref11_Plus (cp : FuncId → List AV → Option AV) (n : Nat) (a0_0 : Int) (a0_1 : Int) (a0_2 : Int) (a1_0 : Int) (a1_1 : Int) (a1_2 : Int) (a2 : Int) : Option AV := T_ref11_Plus_1 cp a0_0 a0_1 a0_2 a1_0 a1_1 a1_2 a2 (J_ref11_Plus_7 cp n)
theorem eq_ref11_Plus (n : Nat) (a0_0 : Int) (a0_1 : Int) (a0_2 : Int) (a1_0 : Int) (a1_1 : Int) (a1_2 : Int) (a2 : Int) : CP C (n + 1) F_ref11_Plus [.agg [.int .i64 a0_0, .int .i64 a0_1, .int .i64 a0_2], .agg [.int .i64 a1_0, .int .i64 a1_1, .int .i64 a1_2], .int .i64 a2] = R_ref11_Plus (CP C n) n a0_0 a0_1 a0_2 a1_0 a1_1 a1_2 a2 :=
  (CP_pure C n F_ref11_Plus _ (by kernel_rfl) (by kernel_rfl)).trans ((K_ref11_Plus_1 _ n a0_0 a0_1 a0_2 a1_0 a1_1 a1_2 a2).trans (congrArg (T_ref11_Plus_1 (CP C n) a0_0 a0_1 a0_2 a1_0 a1_1 a1_2 a2) (funext fun x0 => (funext fun x1 => (funext fun x2 => (funext fun x3 => (funext fun x4 => (funext fun x5 => (funext fun x6 => (JE_ref11_Plus_7 n) x0 x1 x2 x3 x4 x5 x6)))))))))
-- law12_UntilAdds
def R_law12_UntilAdds (cp : FuncId → List AV → Option AV) (_n : Nat) (a0_0 : Int) (a0_1 : Int) (a0_2 : Int) (a1_0 : Int) (a1_1 : Int) (a1_2 : Int) : Option AV :=
 ((cp F_until_Until [.agg [.int .i64 a0_0, .int .i64 a0_1, .int .i64 a0_2], .agg [.int .i64 a1_0, .int .i64 a1_1, .int .i64 a1_2]]).bind fun r1 =>
 (AV.tupK r1 fun l2 =>
 (consK l2 fun v3 l4 =>
 (AV.aggK v3 fun l5 =>
 (consK l5 fun v6 l7 =>
 (AV.intK .i64 v6 fun i8 =>
 (consK l7 fun v9 l10 =>
 (AV.intK .i64 v9 fun i11 =>
 (consK l10 fun v12 l13 =>
 (AV.intK .i64 v12 fun i14 =>
 (nilK l13
 (consK l4 fun v15 l16 =>
 (AV.intK .i64 v15 fun i17 =>
 (nilK l16
 (cond (i17 != 0)
 (cond ((i8 == 0) && ((i11 == 0) && ((i14 == 0) && true)))
 ((cp F_law12_awake []).bind fun r18 =>
 (AV.boolK r18 fun b19 =>
 (some (.bool b19))))
 (some (.bool false)))
 ((cp F_ref11_Plus [.agg [.int .i64 a0_0, .int .i64 a0_1, .int .i64 a0_2], .agg [.int .i64 i8, .int .i64 i11, .int .i64 i14], .int .i64 0]).bind fun r20 =>
 (AV.tupK r20 fun l21 =>
 (consK l21 fun v22 l23 =>
 (AV.aggK v22 fun l24 =>
 (consK l24 fun v25 l26 =>
 (AV.intK .i64 v25 fun i27 =>
 (consK l26 fun v28 l29 =>
 (AV.intK .i64 v28 fun i30 =>
 (consK l29 fun v31 l32 =>
 (AV.intK .i64 v31 fun i33 =>
 (nilK l32
 (consK l23 fun v34 l35 =>
 (AV.intK .i64 v34 fun i36 =>
 (nilK l35
 (cond ((i27 == a1_0) && ((i30 == a1_1) && ((i33 == a1_2) && true)))
 (cond (i36 == 0)
 ((cp F_law12_awake []).bind fun r37 =>
 (AV.boolK r37 fun b38 =>
 (some (.bool b38))))
 (some (.bool false)))
 (some (.bool false))))))))))))))))))))))))))))))))
theorem eq_law12_UntilAdds (n : Nat) (a0_0 : Int) (a0_1 : Int) (a0_2 : Int) (a1_0 : Int) (a1_1 : Int) (a1_2 : Int) : CP C (n + 1) F_law12_UntilAdds [.agg [.int .i64 a0_0, .int .i64 a0_1, .int .i64 a0_2], .agg [.int .i64 a1_0, .int .i64 a1_1, .int .i64 a1_2]] = R_law12_UntilAdds (CP C n) n a0_0 a0_1 a0_2 a1_0 a1_1 a1_2 := by kernel_rfl
-- law12_UntilGreedy
def S_law12_UntilGreedy_127 (x0 : Int) (b1 : Bool) (b2 : Bool) (x3 : Int) (x4 : Int) (x5 : Int) (x6 : Int) (x7 : Int) (x8 : Int) (x9 : Int) (x10 : Int) (x11 : Int) : St := ⟨[.junk, .junk, .ptr (some (0, 0)), .ptr (some (1, 0)), .junk, .ptr (some (2, 0)), .junk, .int .i64 x0, .bool b1, .bool b2, .junk, .junk, .junk, .junk, .junk, .junk, .junk, .junk, .junk, .junk, .junk, .junk, .junk, .junk, .junk, .junk, .junk, .junk, .junk, .junk, .junk, .junk, .junk, .junk, .junk, .junk, .junk, .junk, .junk, .junk, .junk, .junk, .junk, .junk, .junk, .junk, .junk, .junk, .junk, .junk, .junk, .junk, .junk, .junk, .junk, .junk, .junk, .junk, .junk, .junk, .junk, .junk, .junk, .junk, .junk, .junk, .junk, .junk, .junk, .junk, .junk, .junk, .junk, .junk, .junk, .junk, .junk, .junk, .junk, .junk, .junk, .junk, .junk, .junk, .junk, .junk, .junk, .junk, .junk, .junk, .junk, .junk, .junk, .junk, .junk, .junk, .junk, .junk, .junk, .junk, .junk, .junk, .junk, .junk, .junk, .junk], [.cells 23 [.int .i64 x3, .int .i64 x4, .int .i64 x5], .cells 23 [.int .i64 x6, .int .i64 x7, .int .i64 x8], .cells 25 [.int .i64 x9, .int .i64 x10, .int .i64 x11]]⟩
def S_law12_UntilGreedy_509 (x0 : Int) (b1 : Bool) (x2 : Int) (x3 : Int) (x4 : Int) (x5 : Int) (x6 : Int) (x7 : Int) : St := ⟨[.junk, .junk, .ptr (some (0, 0)), .ptr (some (1, 0)), .junk, .junk, .junk, .int .i64 x0, .junk, .junk, .junk, .junk, .junk, .junk, .junk, .junk, .junk, .junk, .junk, .junk, .junk, .junk, .junk, .junk, .junk, .junk, .junk, .junk, .junk, .junk, .junk, .junk, .junk, .junk, .junk, .junk, .junk, .junk, .junk, .junk, .junk, .junk, .junk, .junk, .junk, .junk, .junk, .junk, .junk, .junk, .junk, .junk, .junk, .junk, .junk, .junk, .junk, .junk, .junk, .junk, .junk, .junk, .junk, .junk, .junk, .junk, .junk, .junk, .junk, .junk, .junk, .junk, .junk, .junk, .junk, .junk, .junk, .junk, .junk, .junk, .junk, .bool b1, .junk, .junk, .junk, .junk, .junk, .junk, .junk, .junk, .junk, .junk, .junk, .junk, .junk, .junk, .junk, .junk, .junk, .junk, .junk, .junk, .junk, .junk, .junk, .junk], [.cells 23 [.int .i64 x2, .int .i64 x3, .int .i64 x4], .cells 23 [.int .i64 x5, .int .i64 x6, .int .i64 x7], .dead]⟩
def S_law12_UntilGreedy_4095 (b0 : Bool) : St := ⟨[.junk, .junk, .junk, .junk, .bool b0, .junk, .junk, .junk, .junk, .junk, .junk, .junk, .junk, .junk, .junk, .junk, .junk, .junk, .junk, .junk, .junk, .junk, .junk, .junk, .junk, .junk, .junk, .junk, .junk, .junk, .junk, .junk, .junk, .junk, .junk, .junk, .junk, .junk, .junk, .junk, .junk, .junk, .junk, .junk, .junk, .junk, .junk, .junk, .junk, .junk, .junk, .junk, .junk, .junk, .junk, .junk, .junk, .junk, .junk, .junk, .junk, .junk, .junk, .junk, .junk, .junk, .junk, .junk, .junk, .junk, .junk, .junk, .junk, .junk, .junk, .junk, .junk, .junk, .junk, .junk, .junk, .junk, .junk, .junk, .junk, .junk, .junk, .junk, .junk, .junk, .junk, .junk, .junk, .junk, .junk, .junk, .junk, .junk, .junk, .junk, .junk, .junk, .junk, .junk, .junk, .junk], [.dead, .dead, .dead, .dead]⟩
def T_law12_UntilGreedy_4095 (cp : FuncId → List AV → Option AV) (b0 : Bool) : Option AV :=
 (some (.bool b0))
theorem K_law12_UntilGreedy_4095 (j : Jump) (n : Nat) (b0 : Bool) : enter (topEnv C (CP C n) n F_law12_UntilGreedy) (some j) (bodyOf C.P F_law12_UntilGreedy) (endOf C.P F_law12_UntilGreedy) [true, true, true, true, true, true, true, true, true, true, true] [] (S_law12_UntilGreedy_4095 b0) = T_law12_UntilGreedy_4095 (CP C n) b0 := by kernel_rfl
def J_law12_UntilGreedy_4095 (cp : FuncId → List AV → Option AV) (n : Nat) (b0 : Bool) : Option AV := T_law12_UntilGreedy_4095 cp b0
theorem JE_law12_UntilGreedy_4095 (n : Nat) (b0 : Bool) : jT (topEnv C (CP C n) n F_law12_UntilGreedy) (bodyOf C.P F_law12_UntilGreedy) (endOf C.P F_law12_UntilGreedy) [true, true, true, true, true, true, true, true, true, true, true] [] (S_law12_UntilGreedy_4095 b0) = J_law12_UntilGreedy_4095 (CP C n) n b0 :=
  (jT_eq _ _ _ _ _ _).trans ((K_law12_UntilGreedy_4095 _ n b0).trans (rfl))
def T_law12_UntilGreedy_509 (cp : FuncId → List AV → Option AV) (x0 : Int) (b1 : Bool) (x2 : Int) (x3 : Int) (x4 : Int) (x5 : Int) (x6 : Int) (x7 : Int) (j4095 : Bool → Option AV) : Option AV :=
 (cond b1
 (some (.bool false))
 ((cp F_ref06_Cmp [.agg [.int .i64 x2, .int .i64 x3, .int .i64 x4], .agg [.int .i64 x5, .int .i64 x6, .int .i64 x7]]).bind fun r1 =>
 (AV.intK .i64 r1 fun i2 =>
 (cond (decide (i2 > 0))
 ((cp F_ref11_Add [.agg [.int .i64 x2, .int .i64 x3, .int .i64 x4], .int .i64 (IntKind.i64.wrap (x0 + (-1))), .int .i64 0]).bind fun r3 =>
 (AV.tupK r3 fun l4 =>
 (consK l4 fun v5 l6 =>
 (AV.aggK v5 fun l7 =>
 (consK l7 fun v8 l9 =>
 (AV.intK .i64 v8 fun i10 =>
 (consK l9 fun v11 l12 =>
 (AV.intK .i64 v11 fun i13 =>
 (consK l12 fun v14 l15 =>
 (AV.intK .i64 v14 fun i16 =>
 (nilK l15
 (consK l6 fun v17 l18 =>
 (AV.intK .i64 v17 fun i19 =>
 (nilK l18
 (cond (i19 != 0)
 ((cp F_law12_awake []).bind fun r20 =>
 (AV.boolK r20 fun b21 =>
 (j4095 b21)))
 ((cp F_ref06_Cmp [.agg [.int .i64 i10, .int .i64 i13, .int .i64 i16], .agg [.int .i64 x5, .int .i64 x6, .int .i64 x7]]).bind fun r22 =>
 (AV.intK .i64 r22 fun i23 =>
 (cond (i23 == (-1))
 ((cp F_law12_awake []).bind fun r24 =>
 (AV.boolK r24 fun b25 =>
 (j4095 b25)))
 (j4095 false)))))))))))))))))))
 ((cp F_ref11_Add [.agg [.int .i64 x2, .int .i64 x3, .int .i64 x4], .int .i64 (IntKind.i64.wrap (x0 + 1)), .int .i64 0]).bind fun r26 =>
 (AV.tupK r26 fun l27 =>
 (consK l27 fun v28 l29 =>
 (AV.aggK v28 fun l30 =>
 (consK l30 fun v31 l32 =>
 (AV.intK .i64 v31 fun i33 =>
 (consK l32 fun v34 l35 =>
 (AV.intK .i64 v34 fun i36 =>
 (consK l35 fun v37 l38 =>
 (AV.intK .i64 v37 fun i39 =>
 (nilK l38
 (consK l29 fun v40 l41 =>
 (AV.intK .i64 v40 fun i42 =>
 (nilK l41
 (cond (i42 != 0)
 ((cp F_law12_awake []).bind fun r43 =>
 (AV.boolK r43 fun b44 =>
 (j4095 b44)))
 ((cp F_ref06_Cmp [.agg [.int .i64 i33, .int .i64 i36, .int .i64 i39], .agg [.int .i64 x5, .int .i64 x6, .int .i64 x7]]).bind fun r45 =>
 (AV.intK .i64 r45 fun i46 =>
 (cond (i46 == 1)
 ((cp F_law12_awake []).bind fun r47 =>
 (AV.boolK r47 fun b48 =>
 (j4095 b48)))
 (j4095 false)))))))))))))))))))))))
theorem K_law12_UntilGreedy_509 (j : Jump) (n : Nat) (x0 : Int) (b1 : Bool) (x2 : Int) (x3 : Int) (x4 : Int) (x5 : Int) (x6 : Int) (x7 : Int) : enter (topEnv C (CP C n) n F_law12_UntilGreedy) (some j) (bodyOf C.P F_law12_UntilGreedy) (endOf C.P F_law12_UntilGreedy) [true, false, true, true, true, true, true, true] [] (S_law12_UntilGreedy_509 x0 b1 x2 x3 x4 x5 x6 x7) = T_law12_UntilGreedy_509 (CP C n) x0 b1 x2 x3 x4 x5 x6 x7 (fun b0 => j [true, true, true, true, true, true, true, true, true, true, true] [] (S_law12_UntilGreedy_4095 b0)) := by kernel_rfl
def J_law12_UntilGreedy_509 (cp : FuncId → List AV → Option AV) (n : Nat) (x0 : Int) (b1 : Bool) (x2 : Int) (x3 : Int) (x4 : Int) (x5 : Int) (x6 : Int) (x7 : Int) : Option AV := T_law12_UntilGreedy_509 cp x0 b1 x2 x3 x4 x5 x6 x7 (J_law12_UntilGreedy_4095 cp n)
theorem JE_law12_UntilGreedy_509 (n : Nat) (x0 : Int) (b1 : Bool) (x2 : Int) (x3 : Int) (x4 : Int) (x5 : Int) (x6 : Int) (x7 : Int) : jT (topEnv C (CP C n) n F_law12_UntilGreedy) (bodyOf C.P F_law12_UntilGreedy) (endOf C.P F_law12_UntilGreedy) [true, false, true, true, true, true, true, true] [] (S_law12_UntilGreedy_509 x0 b1 x2 x3 x4 x5 x6 x7) = J_law12_UntilGreedy_509 (CP C n) n x0 b1 x2 x3 x4 x5 x6 x7 :=
  (jT_eq _ _ _ _ _ _).trans ((K_law12_UntilGreedy_509 _ n x0 b1 x2 x3 x4 x5 x6 x7).trans (congrArg (T_law12_UntilGreedy_509 (CP C n) x0 b1 x2 x3 x4 x5 x6 x7) (funext fun b0 => (JE_law12_UntilGreedy_4095 n) b0)))
def T_law12_UntilGreedy_127 (cp : FuncId → List AV → Option AV) (x0 : Int) (b1 : Bool) (b2 : Bool) (x3 : Int) (x4 : Int) (x5 : Int) (x6 : Int) (x7 : Int) (x8 : Int) (x9 : Int) (x10 : Int) (x11 : Int) (j509 : Int → Bool → Int → Int → Int → Int → Int → Int → Option AV) : Option AV :=
 ((cp F_ref06_Cmp [.agg [.int .i64 x3, .int .i64 x4, .int .i64 x5], .agg [.int .i64 x6, .int .i64 x7, .int .i64 x8]]).bind fun r1 =>
 (AV.intK .i64 r1 fun i2 =>
 (cond (decide (i2 ≤ 0))
 (cond (!b1)
 (j509 x0 true x3 x4 x5 x6 x7 x8)
 ((cp F_ref06_Cmp [.agg [.int .i64 x3, .int .i64 x4, .int .i64 x5], .agg [.int .i64 x6, .int .i64 x7, .int .i64 x8]]).bind fun r3 =>
 (AV.intK .i64 r3 fun i4 =>
 (cond (decide (i4 ≥ 0))
 (cond (!b2)
 (j509 x0 true x3 x4 x5 x6 x7 x8)
 (cond (decide (x10 ≤ (-12)))
 (j509 x0 true x3 x4 x5 x6 x7 x8)
 (j509 x0 (decide (x10 ≥ 12)) x3 x4 x5 x6 x7 x8)))
 (cond (decide (x10 ≤ (-12)))
 (j509 x0 true x3 x4 x5 x6 x7 x8)
 (j509 x0 (decide (x10 ≥ 12)) x3 x4 x5 x6 x7 x8))))))
 ((cp F_ref06_Cmp [.agg [.int .i64 x3, .int .i64 x4, .int .i64 x5], .agg [.int .i64 x6, .int .i64 x7, .int .i64 x8]]).bind fun r5 =>
 (AV.intK .i64 r5 fun i6 =>
 (cond (decide (i6 ≥ 0))
 (cond (!b2)
 (j509 x0 true x3 x4 x5 x6 x7 x8)
 (cond (decide (x10 ≤ (-12)))
 (j509 x0 true x3 x4 x5 x6 x7 x8)
 (j509 x0 (decide (x10 ≥ 12)) x3 x4 x5 x6 x7 x8)))
 (cond (decide (x10 ≤ (-12)))
 (j509 x0 true x3 x4 x5 x6 x7 x8)
 (j509 x0 (decide (x10 ≥ 12)) x3 x4 x5 x6 x7 x8))))))))
theorem K_law12_UntilGreedy_127 (j : Jump) (n : Nat) (x0 : Int) (b1 : Bool) (b2 : Bool) (x3 : Int) (x4 : Int) (x5 : Int) (x6 : Int) (x7 : Int) (x8 : Int) (x9 : Int) (x10 : Int) (x11 : Int) : enter (topEnv C (CP C n) n F_law12_UntilGreedy) (some j) (bodyOf C.P F_law12_UntilGreedy) (endOf C.P F_law12_UntilGreedy) [true, true, true, true, true, true] [] (S_law12_UntilGreedy_127 x0 b1 b2 x3 x4 x5 x6 x7 x8 x9 x10 x11) = T_law12_UntilGreedy_127 (CP C n) x0 b1 b2 x3 x4 x5 x6 x7 x8 x9 x10 x11 (fun x0 b1 x2 x3 x4 x5 x6 x7 => j [true, false, true, true, true, true, true, true] [] (S_law12_UntilGreedy_509 x0 b1 x2 x3 x4 x5 x6 x7)) := by kernel_rfl
def J_law12_UntilGreedy_127 (cp : FuncId → List AV → Option AV) (n : Nat) (x0 : Int) (b1 : Bool) (b2 : Bool) (x3 : Int) (x4 : Int) (x5 : Int) (x6 : Int) (x7 : Int) (x8 : Int) (x9 : Int) (x10 : Int) (x11 : Int) : Option AV := T_law12_UntilGreedy_127 cp x0 b1 b2 x3 x4 x5 x6 x7 x8 x9 x10 x11 (J_law12_UntilGreedy_509 cp n)
theorem JE_law12_UntilGreedy_127 (n : Nat) (x0 : Int) (b1 : Bool) (b2 : Bool) (x3 : Int) (x4 : Int) (x5 : Int) (x6 : Int) (x7 : Int) (x8 : Int) (x9 : Int) (x10 : Int) (x11 : Int) : jT (topEnv C (CP C n) n F_law12_UntilGreedy) (bodyOf C.P F_law12_UntilGreedy) (endOf C.P F_law12_UntilGreedy) [true, true, true, true, true, true] [] (S_law12_UntilGreedy_127 x0 b1 b2 x3 x4 x5 x6 x7 x8 x9 x10 x11) = J_law12_UntilGreedy_127 (CP C n) n x0 b1 b2 x3 x4 x5 x6 x7 x8 x9 x10 x11 :=
  (jT_eq _ _ _ _ _ _).trans ((K_law12_UntilGreedy_127 _ n x0 b1 b2 x3 x4 x5 x6 x7 x8 x9 x10 x11).trans (congrArg (T_law12_UntilGreedy_127 (CP C n) x0 b1 b2 x3 x4 x5 x6 x7 x8 x9 x10 x11) (funext fun x0 => (funext fun b1 => (funext fun x2 => (funext fun x3 => (funext fun x4 => (funext fun x5 => (funext fun x6 => (funext fun x7 => (JE_law12_UntilGreedy_509 n) x0 b1 x2 x3 x4 x5 x6 x7))))))))))
def T_law12_UntilGreedy_1 (cp : FuncId → List AV → Option AV) (a0_0 : Int) (a0_1 : Int) (a0_2 : Int) (a1_0 : Int) (a1_1 : Int) (a1_2 : Int) (j127 : Int → Bool → Bool → Int → Int → Int → Int → Int → Int → Int → Int → Int → Option AV) : Option AV :=
 ((cp F_until_Until [.agg [.int .i64 a0_0, .int .i64 a0_1, .int .i64 a0_2], .agg [.int .i64 a1_0, .int .i64 a1_1, .int .i64 a1_2]]).bind fun r1 =>
 (AV.tupK r1 fun l2 =>
 (consK l2 fun v3 l4 =>
 (AV.aggK v3 fun l5 =>
 (consK l5 fun v6 l7 =>
 (AV.intK .i64 v6 fun i8 =>
 (consK l7 fun v9 l10 =>
 (AV.intK .i64 v9 fun i11 =>
 (consK l10 fun v12 l13 =>
 (AV.intK .i64 v12 fun i14 =>
 (nilK l13
 (consK l4 fun v15 l16 =>
 (AV.intK .i64 v15 fun i17 =>
 (nilK l16
 (cond (i17 != 0)
 ((cp F_law12_awake []).bind fun r18 =>
 (AV.boolK r18 fun b19 =>
 (some (.bool b19))))
 (cond (decide (i8 ≥ 0))
 (cond (decide (i11 ≥ 0))
 (cond (decide (i8 ≤ 0))
 (cond (decide (i11 ≤ 0))
 (j127 (IntKind.i64.wrap ((IntKind.i64.wrap (12 * i8)) + i11)) (decide (i14 ≥ 0)) (decide (i14 ≤ 0)) a0_0 a0_1 a0_2 a1_0 a1_1 a1_2 i8 i11 i14)
 (j127 (IntKind.i64.wrap ((IntKind.i64.wrap (12 * i8)) + i11)) (decide (i14 ≥ 0)) false a0_0 a0_1 a0_2 a1_0 a1_1 a1_2 i8 i11 i14))
 (j127 (IntKind.i64.wrap ((IntKind.i64.wrap (12 * i8)) + i11)) (decide (i14 ≥ 0)) false a0_0 a0_1 a0_2 a1_0 a1_1 a1_2 i8 i11 i14))
 (cond (decide (i8 ≤ 0))
 (cond (decide (i11 ≤ 0))
 (j127 (IntKind.i64.wrap ((IntKind.i64.wrap (12 * i8)) + i11)) false (decide (i14 ≤ 0)) a0_0 a0_1 a0_2 a1_0 a1_1 a1_2 i8 i11 i14)
 (j127 (IntKind.i64.wrap ((IntKind.i64.wrap (12 * i8)) + i11)) false false a0_0 a0_1 a0_2 a1_0 a1_1 a1_2 i8 i11 i14))
 (j127 (IntKind.i64.wrap ((IntKind.i64.wrap (12 * i8)) + i11)) false false a0_0 a0_1 a0_2 a1_0 a1_1 a1_2 i8 i11 i14)))
 (cond (decide (i8 ≤ 0))
 (cond (decide (i11 ≤ 0))
 (j127 (IntKind.i64.wrap ((IntKind.i64.wrap (12 * i8)) + i11)) false (decide (i14 ≤ 0)) a0_0 a0_1 a0_2 a1_0 a1_1 a1_2 i8 i11 i14)
 (j127 (IntKind.i64.wrap ((IntKind.i64.wrap (12 * i8)) + i11)) false false a0_0 a0_1 a0_2 a1_0 a1_1 a1_2 i8 i11 i14))
 (j127 (IntKind.i64.wrap ((IntKind.i64.wrap (12 * i8)) + i11)) false false a0_0 a0_1 a0_2 a1_0 a1_1 a1_2 i8 i11 i14))))))))))))))))))
theorem K_law12_UntilGreedy_1 (j : Jump) (n : Nat) (a0_0 : Int) (a0_1 : Int) (a0_2 : Int) (a1_0 : Int) (a1_1 : Int) (a1_2 : Int) : ex (topEnv C (CP C n) n F_law12_UntilGreedy) (some j) (bodyOf C.P F_law12_UntilGreedy) 1 [] [] (endOf C.P F_law12_UntilGreedy) (startOf C.P F_law12_UntilGreedy [.agg [.int .i64 a0_0, .int .i64 a0_1, .int .i64 a0_2], .agg [.int .i64 a1_0, .int .i64 a1_1, .int .i64 a1_2]]) = T_law12_UntilGreedy_1 (CP C n) a0_0 a0_1 a0_2 a1_0 a1_1 a1_2 (fun x0 b1 b2 x3 x4 x5 x6 x7 x8 x9 x10 x11 => j [true, true, true, true, true, true] [] (S_law12_UntilGreedy_127 x0 b1 b2 x3 x4 x5 x6 x7 x8 x9 x10 x11)) := by kernel_rfl
def R_law12_UntilGreedy (cp : FuncId → List AV → Option AV) (n : Nat) (a0_0 : Int) (a0_1 : Int) (a0_2 : Int) (a1_0 : Int) (a1_1 : Int) (a1_2 : Int) : Option AV := T_law12_UntilGreedy_1 cp a0_0 a0_1 a0_2 a1_0 a1_1 a1_2 (J_law12_UntilGreedy_127 cp n)
theorem eq_law12_UntilGreedy (n : Nat) (a0_0 : Int) (a0_1 : Int) (a0_2 : Int) (a1_0 : Int) (a1_1 : Int) (a1_2 : Int) : CP C (n + 1) F_law12_UntilGreedy [.agg [.int .i64 a0_0, .int .i64 a0_1, .int .i64 a0_2], .agg [.int .i64 a1_0, .int .i64 a1_1, .int .i64 a1_2]] = R_law12_UntilGreedy (CP C n) n a0_0 a0_1 a0_2 a1_0 a1_1 a1_2 :=
  (CP_pure C n F_law12_UntilGreedy _ (by kernel_rfl) (by kernel_rfl)).trans ((K_law12_UntilGreedy_1 _ n a0_0 a0_1 a0_2 a1_0 a1_1 a1_2).trans (congrArg (T_law12_UntilGreedy_1 (CP C n) a0_0 a0_1 a0_2 a1_0 a1_1 a1_2) (funext fun x0 => (funext fun b1 => (funext fun b2 => (funext fun x3 => (funext fun x4 => (funext fun x5 => (funext fun x6 => (funext fun x7 => (funext fun x8 => (funext fun x9 => (funext fun x10 => (funext fun x11 => (JE_law12_UntilGreedy_127 n) x0 b1 b2 x3 x4 x5 x6 x7 x8 x9 x10 x11))))))))))))))
-- ref06_Days
def R_ref06_Days (cp : FuncId → List AV → Option AV) (_n : Nat) (a0_0 : Int) (a0_1 : Int) (a0_2 : Int) : Option AV :=
 ((cp F_ref06_Check [.agg [.int .i64 a0_0, .int .i64 a0_1, .int .i64 a0_2]]).bind fun r1 =>
 (AV.intK .i64 r1 fun i2 =>
 (cond (i2 != 0)
 (some (.tup [.int .i64 0, .int .i64 i2]))
 ((cp F_ref06_Number [.agg [.int .i64 a0_0, .int .i64 a0_1, .int .i64 a0_2]]).bind fun r3 =>
 (AV.intK .i64 r3 fun i4 =>
 (some (.tup [.int .i64 i4, .int .i64 0])))))))
theorem eq_ref06_Days (n : Nat) (a0_0 : Int) (a0_1 : Int) (a0_2 : Int) : CP C (n + 1) F_ref06_Days [.agg [.int .i64 a0_0, .int .i64 a0_1, .int .i64 a0_2]] = R_ref06_Days (CP C n) n a0_0 a0_1 a0_2 := by kernel_rfl
-- law12_UntilDays
def R_law12_UntilDays (cp : FuncId → List AV → Option AV) (_n : Nat) (a0_0 : Int) (a0_1 : Int) (a0_2 : Int) (a1 : Int) : Option AV :=
 ((cp F_ref06_Days [.agg [.int .i64 a0_0, .int .i64 a0_1, .int .i64 a0_2]]).bind fun r1 =>
 (AV.tupK r1 fun l2 =>
 (consK l2 fun v3 l4 =>
 (AV.intK .i64 v3 fun i5 =>
 (consK l4 fun v6 l7 =>
 (AV.intK .i64 v6 fun i8 =>
 (nilK l7
 (cond (i8 != 0)
 ((cp F_law12_awake []).bind fun r9 =>
 (AV.boolK r9 fun b10 =>
 (some (.bool b10))))
 ((cp F_ref06_DateOf [.int .i64 (IntKind.i64.wrap (i5 + (Int.tmod a1 28)))]).bind fun r11 =>
 (AV.tupK r11 fun l12 =>
 (consK l12 fun v13 l14 =>
 (AV.aggK v13 fun l15 =>
 (consK l15 fun v16 l17 =>
 (AV.intK .i64 v16 fun i18 =>
 (consK l17 fun v19 l20 =>
 (AV.intK .i64 v19 fun i21 =>
 (consK l20 fun v22 l23 =>
 (AV.intK .i64 v22 fun i24 =>
 (nilK l23
 (consK l14 fun v25 l26 =>
 (AV.intK .i64 v25 fun i27 =>
 (nilK l26
 (cond (i27 != 0)
 ((cp F_law12_awake []).bind fun r28 =>
 (AV.boolK r28 fun b29 =>
 (some (.bool b29))))
 ((cp F_until_Until [.agg [.int .i64 a0_0, .int .i64 a0_1, .int .i64 a0_2], .agg [.int .i64 i18, .int .i64 i21, .int .i64 i24]]).bind fun r30 =>
 (AV.tupK r30 fun l31 =>
 (consK l31 fun v32 l33 =>
 (AV.aggK v32 fun l34 =>
 (consK l34 fun v35 l36 =>
 (AV.intK .i64 v35 fun i37 =>
 (consK l36 fun v38 l39 =>
 (AV.intK .i64 v38 fun i40 =>
 (consK l39 fun v41 l42 =>
 (AV.intK .i64 v41 fun i43 =>
 (nilK l42
 (consK l33 fun v44 l45 =>
 (AV.intK .i64 v44 fun i46 =>
 (nilK l45
 (cond (i37 == 0)
 (cond (i40 == 0)
 (cond (i43 == (Int.tmod a1 28))
 (cond (i46 == 0)
 (cond (decide (i43 ≥ (-30)))
 (cond (decide (i43 ≤ 30))
 ((cp F_law12_awake []).bind fun r47 =>
 (AV.boolK r47 fun b48 =>
 (some (.bool b48))))
 (some (.bool false)))
 (some (.bool false)))
 (some (.bool false)))
 (cond (i40 != 0)
 (cond (decide (i40 ≥ (-1)))
 (cond (i46 == 0)
 (cond (decide (i40 ≤ 1))
 (cond (decide (i43 ≥ (-30)))
 (cond (decide (i43 ≤ 30))
 ((cp F_law12_awake []).bind fun r49 =>
 (AV.boolK r49 fun b50 =>
 (some (.bool b50))))
 (some (.bool false)))
 (some (.bool false)))
 (some (.bool false)))
 (some (.bool false)))
 (cond (i46 == 0)
 (some (.bool false))
 (some (.bool false))))
 (cond (i46 == 0)
 (some (.bool false))
 (some (.bool false)))))
 (cond (i40 != 0)
 (cond (decide (i40 ≥ (-1)))
 (cond (i46 == 0)
 (cond (decide (i40 ≤ 1))
 (cond (decide (i43 ≥ (-30)))
 (cond (decide (i43 ≤ 30))
 ((cp F_law12_awake []).bind fun r51 =>
 (AV.boolK r51 fun b52 =>
 (some (.bool b52))))
 (some (.bool false)))
 (some (.bool false)))
 (some (.bool false)))
 (some (.bool false)))
 (cond (i46 == 0)
 (some (.bool false))
 (some (.bool false))))
 (cond (i46 == 0)
 (some (.bool false))
 (some (.bool false)))))
 (cond (i46 == 0)
 (some (.bool false))
 (some (.bool false)))))))))))))))))))))))))))))))))))))))))
theorem eq_law12_UntilDays (n : Nat) (a0_0 : Int) (a0_1 : Int) (a0_2 : Int) (a1 : Int) : CP C (n + 1) F_law12_UntilDays [.agg [.int .i64 a0_0, .int .i64 a0_1, .int .i64 a0_2], .int .i64 a1] = R_law12_UntilDays (CP C n) n a0_0 a0_1 a0_2 a1 := by kernel_rfl
end Go.Proofs.Ytceigcoipifloaa.Sim.S
