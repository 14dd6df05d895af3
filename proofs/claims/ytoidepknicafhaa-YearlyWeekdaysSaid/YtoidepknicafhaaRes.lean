/- What each function of the program answers, as a plain function, printed by a program of ours. Condition: none beyond what each theorem says. -/

import Derived.Test.YtoidepknicafhaaCfg
set_option maxRecDepth 100000
set_option linter.unusedVariables false
open Go Go.Proofs.Ytoidepknicafhaa.Sim Go.Proofs
namespace Go.Proofs.Ytoidepknicafhaa.Sim.S
-- civil_Leap
def R_civil_Leap (cp : FuncId → List AV → Option AV) (_n : Nat) (a0 : Int) : Option AV :=
 (cond ((Int.tmod a0 4) == 0)
 (cond ((Int.tmod a0 100) != 0)
 (some (.bool true))
 (some (.bool ((Int.tmod a0 400) == 0))))
 (some (.bool ((Int.tmod a0 400) == 0))))
theorem eq_civil_Leap (n : Nat) (a0 : Int) : CP C (n + 1) F_civil_Leap [.int .i64 a0] = R_civil_Leap (CP C n) n a0 := by kernel_rfl
-- civil_months
def R_civil_months (cp : FuncId → List AV → Option AV) (_n : Nat) : Option AV :=
 (some (.agg [.int .i64 0, .int .i64 31, .int .i64 28, .int .i64 31, .int .i64 30, .int .i64 31, .int .i64 30, .int .i64 31, .int .i64 31, .int .i64 30, .int .i64 31, .int .i64 30, .int .i64 31]))
theorem eq_civil_months (n : Nat) : CP C (n + 1) F_civil_months [] = R_civil_months (CP C n) n := by kernel_rfl
-- civil_MonthDays
def S_civil_MonthDays_13 (x0 : Int) (x1 : Int) (b2 : Bool) : St := ⟨[.int .i64 x0, .int .i64 x1, .junk, .junk, .junk, .junk, .junk, .junk, .junk, .junk, .bool b2, .junk, .junk, .junk, .junk, .junk, .junk, .junk, .junk, .junk], []⟩
def S_civil_MonthDays_15 (x0 : Int) : St := ⟨[.junk, .int .i64 x0, .junk, .junk, .junk, .junk, .junk, .junk, .junk, .junk, .junk, .junk, .junk, .junk, .junk, .junk, .junk, .junk, .junk, .junk], []⟩
def T_civil_MonthDays_15 (cp : FuncId → List AV → Option AV) (x0 : Int) : Option AV :=
 ((cp F_civil_months []).bind fun r1 =>
 (AV.aggK r1 fun l2 =>
 (consK l2 fun v3 l4 =>
 (AV.intK .i64 v3 fun i5 =>
 (consK l4 fun v6 l7 =>
 (AV.intK .i64 v6 fun i8 =>
 (consK l7 fun v9 l10 =>
 (AV.intK .i64 v9 fun i11 =>
 (consK l10 fun v12 l13 =>
 (AV.intK .i64 v12 fun i14 =>
 (consK l13 fun v15 l16 =>
 (AV.intK .i64 v15 fun i17 =>
 (consK l16 fun v18 l19 =>
 (AV.intK .i64 v18 fun i20 =>
 (consK l19 fun v21 l22 =>
 (AV.intK .i64 v21 fun i23 =>
 (consK l22 fun v24 l25 =>
 (AV.intK .i64 v24 fun i26 =>
 (consK l25 fun v27 l28 =>
 (AV.intK .i64 v27 fun i29 =>
 (consK l28 fun v30 l31 =>
 (AV.intK .i64 v30 fun i32 =>
 (consK l31 fun v33 l34 =>
 (AV.intK .i64 v33 fun i35 =>
 (consK l34 fun v36 l37 =>
 (AV.intK .i64 v36 fun i38 =>
 (consK l37 fun v39 l40 =>
 (AV.intK .i64 v39 fun i41 =>
 (nilK l40
 (cond ((decide (0 ≤ x0)) && (decide (x0 < 13)))
 (cond (fits ((Int.toNat x0) * 1) 1 [.int .i64 i5, .int .i64 i8, .int .i64 i11, .int .i64 i14, .int .i64 i17, .int .i64 i20, .int .i64 i23, .int .i64 i26, .int .i64 i29, .int .i64 i32, .int .i64 i35, .int .i64 i38, .int .i64 i41])
 (cond (AV.pure (nth [.int .i64 i5, .int .i64 i8, .int .i64 i11, .int .i64 i14, .int .i64 i17, .int .i64 i20, .int .i64 i23, .int .i64 i26, .int .i64 i29, .int .i64 i32, .int .i64 i35, .int .i64 i38, .int .i64 i41] ((Int.toNat x0) * 1)))
 (some ((nth [.int .i64 i5, .int .i64 i8, .int .i64 i11, .int .i64 i14, .int .i64 i17, .int .i64 i20, .int .i64 i23, .int .i64 i26, .int .i64 i29, .int .i64 i32, .int .i64 i35, .int .i64 i38, .int .i64 i41] ((Int.toNat x0) * 1))))
 none)
 none)
 none))))))))))))))))))))))))))))))
theorem K_civil_MonthDays_15 (j : Jump) (n : Nat) (x0 : Int) : enter (topEnv C (CP C n) n F_civil_MonthDays) (some j) (bodyOf C.P F_civil_MonthDays) (endOf C.P F_civil_MonthDays) [true, true, true] [] (S_civil_MonthDays_15 x0) = T_civil_MonthDays_15 (CP C n) x0 := by kernel_rfl
def J_civil_MonthDays_15 (cp : FuncId → List AV → Option AV) (n : Nat) (x0 : Int) : Option AV := T_civil_MonthDays_15 cp x0
theorem JE_civil_MonthDays_15 (n : Nat) (x0 : Int) : jT (topEnv C (CP C n) n F_civil_MonthDays) (bodyOf C.P F_civil_MonthDays) (endOf C.P F_civil_MonthDays) [true, true, true] [] (S_civil_MonthDays_15 x0) = J_civil_MonthDays_15 (CP C n) n x0 :=
  (jT_eq _ _ _ _ _ _).trans ((K_civil_MonthDays_15 _ n x0).trans (rfl))
def T_civil_MonthDays_13 (cp : FuncId → List AV → Option AV) (x0 : Int) (x1 : Int) (b2 : Bool) (j15 : Int → Option AV) : Option AV :=
 (cond b2
 (some (.int .i64 0))
 (cond (x1 == 2)
 ((cp F_civil_Leap [.int .i64 x0]).bind fun r1 =>
 (AV.boolK r1 fun b2 =>
 (cond b2
 (some (.int .i64 29))
 (j15 x1))))
 (j15 x1)))
theorem K_civil_MonthDays_13 (j : Jump) (n : Nat) (x0 : Int) (x1 : Int) (b2 : Bool) : enter (topEnv C (CP C n) n F_civil_MonthDays) (some j) (bodyOf C.P F_civil_MonthDays) (endOf C.P F_civil_MonthDays) [true, false, true] [] (S_civil_MonthDays_13 x0 x1 b2) = T_civil_MonthDays_13 (CP C n) x0 x1 b2 (fun x0 => j [true, true, true] [] (S_civil_MonthDays_15 x0)) := by kernel_rfl
def J_civil_MonthDays_13 (cp : FuncId → List AV → Option AV) (n : Nat) (x0 : Int) (x1 : Int) (b2 : Bool) : Option AV := T_civil_MonthDays_13 cp x0 x1 b2 (J_civil_MonthDays_15 cp n)
theorem JE_civil_MonthDays_13 (n : Nat) (x0 : Int) (x1 : Int) (b2 : Bool) : jT (topEnv C (CP C n) n F_civil_MonthDays) (bodyOf C.P F_civil_MonthDays) (endOf C.P F_civil_MonthDays) [true, false, true] [] (S_civil_MonthDays_13 x0 x1 b2) = J_civil_MonthDays_13 (CP C n) n x0 x1 b2 :=
  (jT_eq _ _ _ _ _ _).trans ((K_civil_MonthDays_13 _ n x0 x1 b2).trans (congrArg (T_civil_MonthDays_13 (CP C n) x0 x1 b2) (funext fun x0 => (JE_civil_MonthDays_15 n) x0)))
def T_civil_MonthDays_1 (cp : FuncId → List AV → Option AV) (a0 : Int) (a1 : Int) (j13 : Int → Int → Bool → Option AV) : Option AV :=
 (cond (decide (a1 < 1))
 (j13 a0 a1 true)
 (j13 a0 a1 (decide (a1 > 12))))
theorem K_civil_MonthDays_1 (j : Jump) (n : Nat) (a0 : Int) (a1 : Int) : ex (topEnv C (CP C n) n F_civil_MonthDays) (some j) (bodyOf C.P F_civil_MonthDays) 1 [] [] (endOf C.P F_civil_MonthDays) (startOf C.P F_civil_MonthDays [.int .i64 a0, .int .i64 a1]) = T_civil_MonthDays_1 (CP C n) a0 a1 (fun x0 x1 b2 => j [true, false, true] [] (S_civil_MonthDays_13 x0 x1 b2)) := by kernel_rfl
def R_civil_MonthDays (cp : FuncId → List AV → Option AV) (n : Nat) (a0 : Int) (a1 : Int) : Option AV := T_civil_MonthDays_1 cp a0 a1 (J_civil_MonthDays_13 cp n)
theorem eq_civil_MonthDays (n : Nat) (a0 : Int) (a1 : Int) : CP C (n + 1) F_civil_MonthDays [.int .i64 a0, .int .i64 a1] = R_civil_MonthDays (CP C n) n a0 a1 :=
  (CP_pure C n F_civil_MonthDays _ (by kernel_rfl) (by kernel_rfl)).trans ((K_civil_MonthDays_1 _ n a0 a1).trans (congrArg (T_civil_MonthDays_1 (CP C n) a0 a1) (funext fun x0 => (funext fun x1 => (funext fun b2 => (JE_civil_MonthDays_13 n) x0 x1 b2)))))
-- words_May
def R_words_May (cp : FuncId → List AV → Option AV) (_n : Nat) (a0_0 : Int) (a0_1 : Int) (a0_2 : Int) : Option AV :=
 (cond (decide (a0_1 ≥ 1))
 (cond (decide (a0_2 ≥ 1))
 (cond (a0_0 == 0)
 (cond (decide (a0_1 ≤ 31))
 (some (.bool (a0_2 == 0)))
 (some (.bool false)))
 (cond (a0_0 == 1)
 (cond (decide (a0_2 ≤ 7))
 (some (.bool (a0_1 == 0)))
 (some (.bool false)))
 (cond (decide (a0_1 ≤ 31))
 (cond (decide (a0_2 ≤ 7))
 (cond (a0_0 == 2)
 (some (.bool true))
 (some (.bool (a0_0 == 3))))
 (some (.bool false)))
 (some (.bool false)))))
 (cond (a0_0 == 0)
 (cond (decide (a0_1 ≤ 31))
 (some (.bool (a0_2 == 0)))
 (some (.bool false)))
 (cond (a0_0 == 1)
 (some (.bool false))
 (cond (decide (a0_1 ≤ 31))
 (some (.bool false))
 (some (.bool false))))))
 (cond (decide (a0_2 ≥ 1))
 (cond (a0_0 == 0)
 (some (.bool false))
 (cond (a0_0 == 1)
 (cond (decide (a0_2 ≤ 7))
 (some (.bool (a0_1 == 0)))
 (some (.bool false)))
 (some (.bool false))))
 (cond (a0_0 == 0)
 (some (.bool false))
 (cond (a0_0 == 1)
 (some (.bool false))
 (some (.bool false))))))
theorem eq_words_May (n : Nat) (a0_0 : Int) (a0_1 : Int) (a0_2 : Int) : CP C (n + 1) F_words_May [.agg [.int .i64 a0_0, .int .i64 a0_1, .int .i64 a0_2]] = R_words_May (CP C n) n a0_0 a0_1 a0_2 := by kernel_rfl
-- civil_floor
def R_civil_floor (cp : FuncId → List AV → Option AV) (_n : Nat) (a0 : Int) (a1 : Int) : Option AV :=
 (cond (decide (a1 = 0))
 none
 (cond (decide (a1 = 0))
 none
 (cond (decide ((Int.tmod a0 a1) < 0))
 (some (.tup [.int .i64 (IntKind.i64.wrap ((IntKind.i64.wrap (Int.tdiv a0 a1)) - 1)), .int .i64 (IntKind.i64.wrap ((Int.tmod a0 a1) + a1))]))
 (some (.tup [.int .i64 (IntKind.i64.wrap (Int.tdiv a0 a1)), .int .i64 (Int.tmod a0 a1)])))))
theorem eq_civil_floor (n : Nat) (a0 : Int) (a1 : Int) : CP C (n + 1) F_civil_floor [.int .i64 a0, .int .i64 a1] = R_civil_floor (CP C n) n a0 a1 := by kernel_rfl
-- civil_number
def R_civil_number (cp : FuncId → List AV → Option AV) (_n : Nat) (a0 : Int) (a1 : Int) (a2 : Int) : Option AV :=
 (bnd (IntKind.i64.wrap (Int.tdiv (IntKind.i64.wrap (14 - a1)) 12)) fun y1 =>
 ((cp F_civil_floor [.int .i64 (IntKind.i64.wrap (a0 - y1)), .int .i64 400]).bind fun r2 =>
 (AV.tupK r2 fun l3 =>
 (consK l3 fun v4 l5 =>
 (AV.intK .i64 v4 fun i6 =>
 (consK l5 fun v7 l8 =>
 (AV.intK .i64 v7 fun i9 =>
 (nilK l8
 (bnd (IntKind.i64.wrap ((IntKind.i64.wrap (a1 + (IntKind.i64.wrap (12 * y1)))) - 3)) fun y10 =>
 (bnd (IntKind.i64.wrap (Int.tdiv (IntKind.i64.wrap ((IntKind.i64.wrap (153 * y10)) + 2)) 5)) fun y11 =>
 (bnd (IntKind.i64.wrap ((IntKind.i64.wrap (i6 * 146097)) + (IntKind.i64.wrap (i9 * 365)))) fun y12 =>
 (bnd (IntKind.i64.wrap (y12 + (IntKind.i64.wrap (Int.tdiv i9 4)))) fun y13 =>
 (bnd (IntKind.i64.wrap (y13 - (IntKind.i64.wrap (Int.tdiv i9 100)))) fun y14 =>
 (bnd (IntKind.i64.wrap (y14 + (IntKind.i64.wrap ((IntKind.i64.wrap (y11 + a2)) - 1)))) fun y15 =>
 (some (.int .i64 (IntKind.i64.wrap (y15 - 719468))))))))))))))))))
theorem eq_civil_number (n : Nat) (a0 : Int) (a1 : Int) (a2 : Int) : CP C (n + 1) F_civil_number [.int .i64 a0, .int .i64 a1, .int .i64 a2] = R_civil_number (CP C n) n a0 a1 a2 := by kernel_rfl
-- civil_Number
def R_civil_Number (cp : FuncId → List AV → Option AV) (_n : Nat) (a0 : Int) (a1 : Int) (a2 : Int) : Option AV :=
 ((cp F_civil_number [.int .i64 a0, .int .i64 a1, .int .i64 a2]).bind fun r1 =>
 (AV.intK .i64 r1 fun i2 =>
 (some (.int .i64 i2))))
theorem eq_civil_Number (n : Nat) (a0 : Int) (a1 : Int) (a2 : Int) : CP C (n + 1) F_civil_Number [.int .i64 a0, .int .i64 a1, .int .i64 a2] = R_civil_Number (CP C n) n a0 a1 a2 := by kernel_rfl
-- civil_Weekday
def R_civil_Weekday (cp : FuncId → List AV → Option AV) (_n : Nat) (a0 : Int) : Option AV :=
 ((cp F_civil_floor [.int .i64 a0, .int .i64 7]).bind fun r1 =>
 (AV.tupK r1 fun l2 =>
 (consK l2 fun v3 l4 =>
 (AV.intK .i64 v3 fun i5 =>
 (consK l4 fun v6 l7 =>
 (AV.intK .i64 v6 fun i8 =>
 (nilK l7
 (bnd (IntKind.i64.wrap ((Int.tmod (IntKind.i64.wrap (i8 + 3)) 7) + 1)) fun y9 =>
 (some (.int .i64 y9))))))))))
theorem eq_civil_Weekday (n : Nat) (a0 : Int) : CP C (n + 1) F_civil_Weekday [.int .i64 a0] = R_civil_Weekday (CP C n) n a0 := by kernel_rfl
-- yearly_back
def R_yearly_back (cp : FuncId → List AV → Option AV) (_n : Nat) (a0 : Int) (a1 : Int) : Option AV :=
 ((cp F_civil_Weekday [.int .i64 a0]).bind fun r1 =>
 (AV.intK .i64 r1 fun i2 =>
 (bnd (Int.tmod (IntKind.i64.wrap ((IntKind.i64.wrap (i2 - a1)) + 7)) 7) fun y3 =>
 (some (.int .i64 (IntKind.i64.wrap (a0 - y3)))))))
theorem eq_yearly_back (n : Nat) (a0 : Int) (a1 : Int) : CP C (n + 1) F_yearly_back [.int .i64 a0, .int .i64 a1] = R_yearly_back (CP C n) n a0 a1 := by kernel_rfl
-- yearly_find_1
def R_yearly_find_1 (cp : FuncId → List AV → Option AV) (_n : Nat) (a0_0 : Int) (a0_1 : Int) (a0_2 : Int) (a1 : Int) (a2 : Int) : Option AV :=
 ((cp F_yearly_back [.int .i64 (IntKind.i64.wrap ((IntKind.i64.wrap (a1 + a2)) - 1)), .int .i64 a0_2]).bind fun r1 =>
 (AV.intK .i64 r1 fun i2 =>
 (some (.int .i64 i2))))
theorem eq_yearly_find_1 (n : Nat) (a0_0 : Int) (a0_1 : Int) (a0_2 : Int) (a1 : Int) (a2 : Int) : CP C (n + 1) F_yearly_find_1 [.agg [.int .i64 a0_0, .int .i64 a0_1, .int .i64 a0_2], .int .i64 a1, .int .i64 a2] = R_yearly_find_1 (CP C n) n a0_0 a0_1 a0_2 a1 a2 := by kernel_rfl
-- yearly_forward
def R_yearly_forward (cp : FuncId → List AV → Option AV) (_n : Nat) (a0 : Int) (a1 : Int) : Option AV :=
 ((cp F_civil_Weekday [.int .i64 a0]).bind fun r1 =>
 (AV.intK .i64 r1 fun i2 =>
 (bnd (Int.tmod (IntKind.i64.wrap ((IntKind.i64.wrap (a1 - i2)) + 7)) 7) fun y3 =>
 (some (.int .i64 (IntKind.i64.wrap (a0 + y3)))))))
theorem eq_yearly_forward (n : Nat) (a0 : Int) (a1 : Int) : CP C (n + 1) F_yearly_forward [.int .i64 a0, .int .i64 a1] = R_yearly_forward (CP C n) n a0 a1 := by kernel_rfl
-- yearly_find_2
def R_yearly_find_2 (cp : FuncId → List AV → Option AV) (_n : Nat) (a0_0 : Int) (a0_1 : Int) (a0_2 : Int) (a1 : Int) (a2 : Int) : Option AV :=
 ((cp F_yearly_forward [.int .i64 (IntKind.i64.wrap ((IntKind.i64.wrap (a1 + a0_1)) - 1)), .int .i64 a0_2]).bind fun r1 =>
 (AV.intK .i64 r1 fun i2 =>
 (some (.int .i64 i2))))
theorem eq_yearly_find_2 (n : Nat) (a0_0 : Int) (a0_1 : Int) (a0_2 : Int) (a1 : Int) (a2 : Int) : CP C (n + 1) F_yearly_find_2 [.agg [.int .i64 a0_0, .int .i64 a0_1, .int .i64 a0_2], .int .i64 a1, .int .i64 a2] = R_yearly_find_2 (CP C n) n a0_0 a0_1 a0_2 a1 a2 := by kernel_rfl
-- yearly_find_3
def R_yearly_find_3 (cp : FuncId → List AV → Option AV) (_n : Nat) (a0_0 : Int) (a0_1 : Int) (a0_2 : Int) (a1 : Int) (a2 : Int) : Option AV :=
 ((cp F_yearly_back [.int .i64 (IntKind.i64.wrap ((IntKind.i64.wrap (a1 + a0_1)) - 1)), .int .i64 a0_2]).bind fun r1 =>
 (AV.intK .i64 r1 fun i2 =>
 (some (.int .i64 i2))))
theorem eq_yearly_find_3 (n : Nat) (a0_0 : Int) (a0_1 : Int) (a0_2 : Int) (a1 : Int) (a2 : Int) : CP C (n + 1) F_yearly_find_3 [.agg [.int .i64 a0_0, .int .i64 a0_1, .int .i64 a0_2], .int .i64 a1, .int .i64 a2] = R_yearly_find_3 (CP C n) n a0_0 a0_1 a0_2 a1 a2 := by kernel_rfl
-- yearly_find_4
def R_yearly_find_4 (cp : FuncId → List AV → Option AV) (_n : Nat) (a0_0 : Int) (a0_1 : Int) (a0_2 : Int) (a1 : Int) (a2 : Int) : Option AV :=
 (some (.int .i64 (IntKind.i64.wrap ((IntKind.i64.wrap (a1 + a0_1)) - 1))))
theorem eq_yearly_find_4 (n : Nat) (a0_0 : Int) (a0_1 : Int) (a0_2 : Int) (a1 : Int) (a2 : Int) : CP C (n + 1) F_yearly_find_4 [.agg [.int .i64 a0_0, .int .i64 a0_1, .int .i64 a0_2], .int .i64 a1, .int .i64 a2] = R_yearly_find_4 (CP C n) n a0_0 a0_1 a0_2 a1 a2 := by kernel_rfl
-- yearly_Day
def S_yearly_Day_63 (x0 : Int) : St := ⟨[.junk, .junk, .junk, .junk, .junk, .junk, .int .i64 x0, .int .i64 0, .junk, .junk, .junk, .junk, .junk, .junk, .junk, .junk, .junk, .junk, .junk, .junk, .junk, .junk, .junk, .junk, .junk, .junk, .junk, .junk, .junk, .junk, .junk, .junk, .junk, .junk, .junk, .junk, .junk, .junk, .junk, .junk, .junk, .junk, .junk, .junk, .junk, .junk, .junk, .junk, .junk], [.dead, .dead, .dead]⟩
def T_yearly_Day_63 (cp : FuncId → List AV → Option AV) (x0 : Int) : Option AV :=
 (some (.tup [.int .i64 x0, .int .i64 0]))
theorem K_yearly_Day_63 (j : Jump) (n : Nat) (x0 : Int) : enter (topEnv C (CP C n) n F_yearly_Day) (some j) (bodyOf C.P F_yearly_Day) (endOf C.P F_yearly_Day) [true, true, true, true, true] [] (S_yearly_Day_63 x0) = T_yearly_Day_63 (CP C n) x0 := by kernel_rfl
def J_yearly_Day_63 (cp : FuncId → List AV → Option AV) (n : Nat) (x0 : Int) : Option AV := T_yearly_Day_63 cp x0
theorem JE_yearly_Day_63 (n : Nat) (x0 : Int) : jT (topEnv C (CP C n) n F_yearly_Day) (bodyOf C.P F_yearly_Day) (endOf C.P F_yearly_Day) [true, true, true, true, true] [] (S_yearly_Day_63 x0) = J_yearly_Day_63 (CP C n) n x0 :=
  (jT_eq _ _ _ _ _ _).trans ((K_yearly_Day_63 _ n x0).trans (rfl))
def T_yearly_Day_1 (cp : FuncId → List AV → Option AV) (a0_0 : Int) (a0_1 : Int) (a0_2 : Int) (a1 : Int) (a2 : Int) (j63 : Int → Option AV) : Option AV :=
 ((cp F_civil_MonthDays [.int .i64 a1, .int .i64 a2]).bind fun r1 =>
 (AV.intK .i64 r1 fun i2 =>
 ((cp F_words_May [.agg [.int .i64 a0_0, .int .i64 a0_1, .int .i64 a0_2]]).bind fun r3 =>
 (AV.boolK r3 fun b4 =>
 (cond (!b4)
 (some (.tup [.int .i64 0, .int .i64 5]))
 (cond (i2 == 0)
 (some (.tup [.int .i64 0, .int .i64 5]))
 (cond (a0_0 == 0)
 (cond (decide (a0_1 > i2))
 (some (.tup [.int .i64 0, .int .i64 7]))
 (cond (decide (a1 < (-9999)))
 (some (.tup [.int .i64 0, .int .i64 8]))
 (cond (decide (a1 > 10000))
 (some (.tup [.int .i64 0, .int .i64 8]))
 (cond (a0_0 == 1)
 ((cp F_civil_Number [.int .i64 a1, .int .i64 a2, .int .i64 1]).bind fun r5 =>
 (AV.intK .i64 r5 fun i6 =>
 ((cp F_yearly_find_1 [.agg [.int .i64 a0_0, .int .i64 a0_1, .int .i64 a0_2], .int .i64 i6, .int .i64 i2]).bind fun r7 =>
 (AV.intK .i64 r7 fun i8 =>
 (j63 i8)))))
 (cond (a0_0 == 2)
 ((cp F_civil_Number [.int .i64 a1, .int .i64 a2, .int .i64 1]).bind fun r9 =>
 (AV.intK .i64 r9 fun i10 =>
 ((cp F_yearly_find_2 [.agg [.int .i64 a0_0, .int .i64 a0_1, .int .i64 a0_2], .int .i64 i10, .int .i64 i2]).bind fun r11 =>
 (AV.intK .i64 r11 fun i12 =>
 (j63 i12)))))
 (cond (a0_0 == 3)
 ((cp F_civil_Number [.int .i64 a1, .int .i64 a2, .int .i64 1]).bind fun r13 =>
 (AV.intK .i64 r13 fun i14 =>
 ((cp F_yearly_find_3 [.agg [.int .i64 a0_0, .int .i64 a0_1, .int .i64 a0_2], .int .i64 i14, .int .i64 i2]).bind fun r15 =>
 (AV.intK .i64 r15 fun i16 =>
 (j63 i16)))))
 ((cp F_civil_Number [.int .i64 a1, .int .i64 a2, .int .i64 1]).bind fun r17 =>
 (AV.intK .i64 r17 fun i18 =>
 ((cp F_yearly_find_4 [.agg [.int .i64 a0_0, .int .i64 a0_1, .int .i64 a0_2], .int .i64 i18, .int .i64 i2]).bind fun r19 =>
 (AV.intK .i64 r19 fun i20 =>
 (j63 i20)))))))))))
 (cond (decide (a1 < (-9999)))
 (some (.tup [.int .i64 0, .int .i64 8]))
 (cond (decide (a1 > 10000))
 (some (.tup [.int .i64 0, .int .i64 8]))
 (cond (a0_0 == 1)
 ((cp F_civil_Number [.int .i64 a1, .int .i64 a2, .int .i64 1]).bind fun r21 =>
 (AV.intK .i64 r21 fun i22 =>
 ((cp F_yearly_find_1 [.agg [.int .i64 a0_0, .int .i64 a0_1, .int .i64 a0_2], .int .i64 i22, .int .i64 i2]).bind fun r23 =>
 (AV.intK .i64 r23 fun i24 =>
 (j63 i24)))))
 (cond (a0_0 == 2)
 ((cp F_civil_Number [.int .i64 a1, .int .i64 a2, .int .i64 1]).bind fun r25 =>
 (AV.intK .i64 r25 fun i26 =>
 ((cp F_yearly_find_2 [.agg [.int .i64 a0_0, .int .i64 a0_1, .int .i64 a0_2], .int .i64 i26, .int .i64 i2]).bind fun r27 =>
 (AV.intK .i64 r27 fun i28 =>
 (j63 i28)))))
 (cond (a0_0 == 3)
 ((cp F_civil_Number [.int .i64 a1, .int .i64 a2, .int .i64 1]).bind fun r29 =>
 (AV.intK .i64 r29 fun i30 =>
 ((cp F_yearly_find_3 [.agg [.int .i64 a0_0, .int .i64 a0_1, .int .i64 a0_2], .int .i64 i30, .int .i64 i2]).bind fun r31 =>
 (AV.intK .i64 r31 fun i32 =>
 (j63 i32)))))
 ((cp F_civil_Number [.int .i64 a1, .int .i64 a2, .int .i64 1]).bind fun r33 =>
 (AV.intK .i64 r33 fun i34 =>
 ((cp F_yearly_find_4 [.agg [.int .i64 a0_0, .int .i64 a0_1, .int .i64 a0_2], .int .i64 i34, .int .i64 i2]).bind fun r35 =>
 (AV.intK .i64 r35 fun i36 =>
 (j63 i36)))))))))))))))))
theorem K_yearly_Day_1 (j : Jump) (n : Nat) (a0_0 : Int) (a0_1 : Int) (a0_2 : Int) (a1 : Int) (a2 : Int) : ex (topEnv C (CP C n) n F_yearly_Day) (some j) (bodyOf C.P F_yearly_Day) 1 [] [] (endOf C.P F_yearly_Day) (startOf C.P F_yearly_Day [.agg [.int .i64 a0_0, .int .i64 a0_1, .int .i64 a0_2], .int .i64 a1, .int .i64 a2]) = T_yearly_Day_1 (CP C n) a0_0 a0_1 a0_2 a1 a2 (fun x0 => j [true, true, true, true, true] [] (S_yearly_Day_63 x0)) := by kernel_rfl
def R_yearly_Day (cp : FuncId → List AV → Option AV) (n : Nat) (a0_0 : Int) (a0_1 : Int) (a0_2 : Int) (a1 : Int) (a2 : Int) : Option AV := T_yearly_Day_1 cp a0_0 a0_1 a0_2 a1 a2 (J_yearly_Day_63 cp n)
theorem eq_yearly_Day (n : Nat) (a0_0 : Int) (a0_1 : Int) (a0_2 : Int) (a1 : Int) (a2 : Int) : CP C (n + 1) F_yearly_Day [.agg [.int .i64 a0_0, .int .i64 a0_1, .int .i64 a0_2], .int .i64 a1, .int .i64 a2] = R_yearly_Day (CP C n) n a0_0 a0_1 a0_2 a1 a2 :=
  (CP_pure C n F_yearly_Day _ (by kernel_rfl) (by kernel_rfl)).trans ((K_yearly_Day_1 _ n a0_0 a0_1 a0_2 a1 a2).trans (congrArg (T_yearly_Day_1 (CP C n) a0_0 a0_1 a0_2 a1 a2) (funext fun x0 => (JE_yearly_Day_63 n) x0)))
-- ref06_Leap
def R_ref06_Leap (cp : FuncId → List AV → Option AV) (_n : Nat) (a0 : Int) : Option AV :=
 (cond ((Int.tmod a0 4) == 0)
 (cond ((Int.tmod a0 100) != 0)
 (some (.bool true))
 (some (.bool ((Int.tmod a0 400) == 0))))
 (some (.bool false)))
theorem eq_ref06_Leap (n : Nat) (a0 : Int) : CP C (n + 1) F_ref06_Leap [.int .i64 a0] = R_ref06_Leap (CP C n) n a0 := by kernel_rfl
-- ref06_MonthDays
def R_ref06_MonthDays (cp : FuncId → List AV → Option AV) (_n : Nat) (a0 : Int) (a1 : Int) : Option AV :=
 (cond (a1 == 1)
 (some (.int .i64 31))
 (cond (a1 == 3)
 (some (.int .i64 31))
 (cond (a1 == 5)
 (some (.int .i64 31))
 (cond (a1 == 7)
 (some (.int .i64 31))
 (cond (a1 == 8)
 (some (.int .i64 31))
 (cond (a1 == 10)
 (some (.int .i64 31))
 (cond (a1 == 12)
 (some (.int .i64 31))
 (cond (a1 == 4)
 (some (.int .i64 30))
 (cond (a1 == 6)
 (some (.int .i64 30))
 (cond (a1 == 9)
 (some (.int .i64 30))
 (cond (a1 == 11)
 (some (.int .i64 30))
 (cond (a1 == 2)
 ((cp F_ref06_Leap [.int .i64 a0]).bind fun r1 =>
 (AV.boolK r1 fun b2 =>
 (cond b2
 (some (.int .i64 29))
 (some (.int .i64 28)))))
 (some (.int .i64 0))))))))))))))
theorem eq_ref06_MonthDays (n : Nat) (a0 : Int) (a1 : Int) : CP C (n + 1) F_ref06_MonthDays [.int .i64 a0, .int .i64 a1] = R_ref06_MonthDays (CP C n) n a0 a1 := by kernel_rfl
-- ref06_YearDays
def R_ref06_YearDays (cp : FuncId → List AV → Option AV) (_n : Nat) (a0 : Int) : Option AV :=
 ((cp F_ref06_Leap [.int .i64 a0]).bind fun r1 =>
 (AV.boolK r1 fun b2 =>
 (cond b2
 (some (.int .i64 366))
 (some (.int .i64 365)))))
theorem eq_ref06_YearDays (n : Nat) (a0 : Int) : CP C (n + 1) F_ref06_YearDays [.int .i64 a0] = R_ref06_YearDays (CP C n) n a0 := by kernel_rfl
-- ref06_start
def S_ref06_start_120 (x0 : Int) (x1 : Int) (x2 : Int) : St := ⟨[.int .i64 x0, .junk, .junk, .int .i64 x1, .int .i64 x2, .junk, .junk, .junk, .junk, .junk, .junk, .junk, .junk, .junk, .junk, .junk, .junk, .junk, .junk, .junk, .junk, .junk, .junk, .junk, .junk, .junk, .junk, .junk, .junk, .junk], []⟩
def S_ref06_start_248 (x0 : Int) (x1 : Int) (x2 : Int) : St := ⟨[.int .i64 x0, .junk, .junk, .int .i64 x1, .int .i64 x2, .junk, .junk, .junk, .junk, .junk, .junk, .junk, .junk, .junk, .junk, .junk, .junk, .junk, .junk, .junk, .junk, .junk, .junk, .junk, .junk, .junk, .junk, .junk, .junk, .junk], []⟩
def S_ref06_start_504 (x0 : Int) (x1 : Int) (x2 : Int) : St := ⟨[.int .i64 x0, .junk, .junk, .int .i64 x1, .int .i64 x2, .junk, .junk, .junk, .junk, .junk, .junk, .junk, .junk, .junk, .junk, .junk, .junk, .junk, .junk, .junk, .junk, .junk, .junk, .junk, .junk, .junk, .junk, .junk, .junk, .junk], []⟩
def T_ref06_start_504 (cp : FuncId → List AV → Option AV) (x0 : Int) (x1 : Int) (x2 : Int) (r504 : Int → Int → Int → Option AV) : Option AV :=
 (cond (decide (x2 < x0))
 ((cp F_ref06_YearDays [.int .i64 x2]).bind fun r1 =>
 (AV.intK .i64 r1 fun i2 =>
 (r504 x0 (IntKind.i64.wrap (x1 + i2)) (IntKind.i64.wrap (x2 + 1)))))
 (some (.int .i64 x1)))
theorem K_ref06_start_504 (j : Jump) (n : Nat) (m504 : Nat) (x0 : Int) (x1 : Int) (x2 : Int) : enter (topEnv C (CP C n) n F_ref06_start) (some j) (bodyOf C.P F_ref06_start) (endOf C.P F_ref06_start) [false, false, false, true, true, true, true, true] [(m504 + 1)] (S_ref06_start_504 x0 x1 x2) = T_ref06_start_504 (CP C n) x0 x1 x2 (fun x0 x1 x2 => j [false, false, false, true, true, true, true, true] [m504] (S_ref06_start_504 x0 x1 x2)) := by kernel_rfl
def J_ref06_start_504 (cp : FuncId → List AV → Option AV) (n : Nat) : Nat → Int → Int → Int → Option AV
  | 0 => (fun x0 x1 x2 => none)
  | m + 1 => (fun x0 x1 x2 => T_ref06_start_504 cp x0 x1 x2 (J_ref06_start_504 cp n m))
theorem Js_ref06_start_504 (cp : FuncId → List AV → Option AV) (n : Nat) (m : Nat) (x0 : Int) (x1 : Int) (x2 : Int) : J_ref06_start_504 cp n (m + 1) x0 x1 x2 = T_ref06_start_504 cp x0 x1 x2 (J_ref06_start_504 cp n m) := of_eq_true (eq_self _)
theorem JE_ref06_start_504 (n : Nat) : ∀ (m : Nat) (x0 : Int) (x1 : Int) (x2 : Int), jT (topEnv C (CP C n) n F_ref06_start) (bodyOf C.P F_ref06_start) (endOf C.P F_ref06_start) [false, false, false, true, true, true, true, true] [m] (S_ref06_start_504 x0 x1 x2) = J_ref06_start_504 (CP C n) n m x0 x1 x2
  | 0, x0, x1, x2 => (jT_eq _ _ _ _ _ _).trans (by kernel_rfl)
  | m + 1, x0, x1, x2 => (jT_eq _ _ _ _ _ _).trans ((K_ref06_start_504 _ n m x0 x1 x2).trans (congrArg (T_ref06_start_504 (CP C n) x0 x1 x2) (funext fun x0 => (funext fun x1 => (funext fun x2 => (JE_ref06_start_504 n m) x0 x1 x2)))))
def T_ref06_start_248 (cp : FuncId → List AV → Option AV) (x0 : Int) (x1 : Int) (x2 : Int) (r248 : Int → Int → Int → Option AV) (j504 : Int → Int → Int → Option AV) : Option AV :=
 (cond (decide (x2 > x0))
 (r248 x0 (IntKind.i64.wrap (x1 - 146097)) (IntKind.i64.wrap (x2 - 400)))
 (j504 x0 x1 x2))
theorem K_ref06_start_248 (j : Jump) (n : Nat) (m248 : Nat) (x0 : Int) (x1 : Int) (x2 : Int) : enter (topEnv C (CP C n) n F_ref06_start) (some j) (bodyOf C.P F_ref06_start) (endOf C.P F_ref06_start) [false, false, false, true, true, true, true] [(m248 + 1)] (S_ref06_start_248 x0 x1 x2) = T_ref06_start_248 (CP C n) x0 x1 x2 (fun x0 x1 x2 => j [false, false, false, true, true, true, true] [m248] (S_ref06_start_248 x0 x1 x2)) (fun x0 x1 x2 => j [false, false, false, true, true, true, true, true] [(n + 300)] (S_ref06_start_504 x0 x1 x2)) := by kernel_rfl
def J_ref06_start_248 (cp : FuncId → List AV → Option AV) (n : Nat) : Nat → Int → Int → Int → Option AV
  | 0 => (fun x0 x1 x2 => none)
  | m + 1 => (fun x0 x1 x2 => T_ref06_start_248 cp x0 x1 x2 (J_ref06_start_248 cp n m) (J_ref06_start_504 cp n (n + 300)))
theorem Js_ref06_start_248 (cp : FuncId → List AV → Option AV) (n : Nat) (m : Nat) (x0 : Int) (x1 : Int) (x2 : Int) : J_ref06_start_248 cp n (m + 1) x0 x1 x2 = T_ref06_start_248 cp x0 x1 x2 (J_ref06_start_248 cp n m) (J_ref06_start_504 cp n (n + 300)) := of_eq_true (eq_self _)
theorem JE_ref06_start_248 (n : Nat) : ∀ (m : Nat) (x0 : Int) (x1 : Int) (x2 : Int), jT (topEnv C (CP C n) n F_ref06_start) (bodyOf C.P F_ref06_start) (endOf C.P F_ref06_start) [false, false, false, true, true, true, true] [m] (S_ref06_start_248 x0 x1 x2) = J_ref06_start_248 (CP C n) n m x0 x1 x2
  | 0, x0, x1, x2 => (jT_eq _ _ _ _ _ _).trans (by kernel_rfl)
  | m + 1, x0, x1, x2 => (jT_eq _ _ _ _ _ _).trans ((K_ref06_start_248 _ n m x0 x1 x2).trans (congr (congrArg (T_ref06_start_248 (CP C n) x0 x1 x2) (funext fun x0 => (funext fun x1 => (funext fun x2 => (JE_ref06_start_248 n m) x0 x1 x2)))) (funext fun x0 => (funext fun x1 => (funext fun x2 => (JE_ref06_start_504 n (n + 300)) x0 x1 x2)))))
def T_ref06_start_120 (cp : FuncId → List AV → Option AV) (x0 : Int) (x1 : Int) (x2 : Int) (r120 : Int → Int → Int → Option AV) (j248 : Int → Int → Int → Option AV) : Option AV :=
 (cond (decide ((IntKind.i64.wrap (x2 + 400)) ≤ x0))
 (r120 x0 (IntKind.i64.wrap (x1 + 146097)) (IntKind.i64.wrap (x2 + 400)))
 (j248 x0 x1 x2))
theorem K_ref06_start_120 (j : Jump) (n : Nat) (m120 : Nat) (x0 : Int) (x1 : Int) (x2 : Int) : enter (topEnv C (CP C n) n F_ref06_start) (some j) (bodyOf C.P F_ref06_start) (endOf C.P F_ref06_start) [false, false, false, true, true, true] [(m120 + 1)] (S_ref06_start_120 x0 x1 x2) = T_ref06_start_120 (CP C n) x0 x1 x2 (fun x0 x1 x2 => j [false, false, false, true, true, true] [m120] (S_ref06_start_120 x0 x1 x2)) (fun x0 x1 x2 => j [false, false, false, true, true, true, true] [(n + 300)] (S_ref06_start_248 x0 x1 x2)) := by kernel_rfl
def J_ref06_start_120 (cp : FuncId → List AV → Option AV) (n : Nat) : Nat → Int → Int → Int → Option AV
  | 0 => (fun x0 x1 x2 => none)
  | m + 1 => (fun x0 x1 x2 => T_ref06_start_120 cp x0 x1 x2 (J_ref06_start_120 cp n m) (J_ref06_start_248 cp n (n + 300)))
theorem Js_ref06_start_120 (cp : FuncId → List AV → Option AV) (n : Nat) (m : Nat) (x0 : Int) (x1 : Int) (x2 : Int) : J_ref06_start_120 cp n (m + 1) x0 x1 x2 = T_ref06_start_120 cp x0 x1 x2 (J_ref06_start_120 cp n m) (J_ref06_start_248 cp n (n + 300)) := of_eq_true (eq_self _)
theorem JE_ref06_start_120 (n : Nat) : ∀ (m : Nat) (x0 : Int) (x1 : Int) (x2 : Int), jT (topEnv C (CP C n) n F_ref06_start) (bodyOf C.P F_ref06_start) (endOf C.P F_ref06_start) [false, false, false, true, true, true] [m] (S_ref06_start_120 x0 x1 x2) = J_ref06_start_120 (CP C n) n m x0 x1 x2
  | 0, x0, x1, x2 => (jT_eq _ _ _ _ _ _).trans (by kernel_rfl)
  | m + 1, x0, x1, x2 => (jT_eq _ _ _ _ _ _).trans ((K_ref06_start_120 _ n m x0 x1 x2).trans (congr (congrArg (T_ref06_start_120 (CP C n) x0 x1 x2) (funext fun x0 => (funext fun x1 => (funext fun x2 => (JE_ref06_start_120 n m) x0 x1 x2)))) (funext fun x0 => (funext fun x1 => (funext fun x2 => (JE_ref06_start_248 n (n + 300)) x0 x1 x2)))))
def T_ref06_start_1 (cp : FuncId → List AV → Option AV) (a0 : Int) (j120 : Int → Int → Int → Option AV) : Option AV :=
 (j120 a0 10957 2000)
theorem K_ref06_start_1 (j : Jump) (n : Nat) (a0 : Int) : ex (topEnv C (CP C n) n F_ref06_start) (some j) (bodyOf C.P F_ref06_start) 1 [] [] (endOf C.P F_ref06_start) (startOf C.P F_ref06_start [.int .i64 a0]) = T_ref06_start_1 (CP C n) a0 (fun x0 x1 x2 => j [false, false, false, true, true, true] [(n + 300)] (S_ref06_start_120 x0 x1 x2)) := by kernel_rfl
def R_ref06_start (cp : FuncId → List AV → Option AV) (n : Nat) (a0 : Int) : Option AV := T_ref06_start_1 cp a0 (J_ref06_start_120 cp n (n + 300))
theorem eq_ref06_start (n : Nat) (a0 : Int) : CP C (n + 1) F_ref06_start [.int .i64 a0] = R_ref06_start (CP C n) n a0 :=
  (CP_pure C n F_ref06_start _ (by kernel_rfl) (by kernel_rfl)).trans ((K_ref06_start_1 _ n a0).trans (congrArg (T_ref06_start_1 (CP C n) a0) (funext fun x0 => (funext fun x1 => (funext fun x2 => (JE_ref06_start_120 n (n + 300)) x0 x1 x2)))))
-- ref06_Number
def S_ref06_Number_116 (x0 : Int) (x1 : Int) (x2 : Int) (x3 : Int) (x4 : Int) : St := ⟨[.junk, .ptr (some (0, 0)), .junk, .int .i64 x0, .int .i64 x1, .junk, .junk, .junk, .junk, .junk, .junk, .junk, .junk, .junk, .junk, .junk, .junk, .junk, .junk, .junk, .junk, .junk, .junk, .junk, .junk], [.cells 33 [.int .i64 x2, .int .i64 x3, .int .i64 x4]]⟩
def T_ref06_Number_116 (cp : FuncId → List AV → Option AV) (x0 : Int) (x1 : Int) (x2 : Int) (x3 : Int) (x4 : Int) (r116 : Int → Int → Int → Int → Int → Option AV) : Option AV :=
 (cond (decide (x1 < x3))
 ((cp F_ref06_MonthDays [.int .i64 x2, .int .i64 x1]).bind fun r1 =>
 (AV.intK .i64 r1 fun i2 =>
 (r116 (IntKind.i64.wrap (x0 + i2)) (IntKind.i64.wrap (x1 + 1)) x2 x3 x4)))
 (some (.int .i64 (IntKind.i64.wrap ((IntKind.i64.wrap (x0 + x4)) - 1)))))
theorem K_ref06_Number_116 (j : Jump) (n : Nat) (m116 : Nat) (x0 : Int) (x1 : Int) (x2 : Int) (x3 : Int) (x4 : Int) : enter (topEnv C (CP C n) n F_ref06_Number) (some j) (bodyOf C.P F_ref06_Number) (endOf C.P F_ref06_Number) [false, false, true, false, true, true] [(m116 + 1)] (S_ref06_Number_116 x0 x1 x2 x3 x4) = T_ref06_Number_116 (CP C n) x0 x1 x2 x3 x4 (fun x0 x1 x2 x3 x4 => j [false, false, true, false, true, true] [m116] (S_ref06_Number_116 x0 x1 x2 x3 x4)) := by kernel_rfl
def J_ref06_Number_116 (cp : FuncId → List AV → Option AV) (n : Nat) : Nat → Int → Int → Int → Int → Int → Option AV
  | 0 => (fun x0 x1 x2 x3 x4 => none)
  | m + 1 => (fun x0 x1 x2 x3 x4 => T_ref06_Number_116 cp x0 x1 x2 x3 x4 (J_ref06_Number_116 cp n m))
theorem Js_ref06_Number_116 (cp : FuncId → List AV → Option AV) (n : Nat) (m : Nat) (x0 : Int) (x1 : Int) (x2 : Int) (x3 : Int) (x4 : Int) : J_ref06_Number_116 cp n (m + 1) x0 x1 x2 x3 x4 = T_ref06_Number_116 cp x0 x1 x2 x3 x4 (J_ref06_Number_116 cp n m) := of_eq_true (eq_self _)
theorem JE_ref06_Number_116 (n : Nat) : ∀ (m : Nat) (x0 : Int) (x1 : Int) (x2 : Int) (x3 : Int) (x4 : Int), jT (topEnv C (CP C n) n F_ref06_Number) (bodyOf C.P F_ref06_Number) (endOf C.P F_ref06_Number) [false, false, true, false, true, true] [m] (S_ref06_Number_116 x0 x1 x2 x3 x4) = J_ref06_Number_116 (CP C n) n m x0 x1 x2 x3 x4
  | 0, x0, x1, x2, x3, x4 => (jT_eq _ _ _ _ _ _).trans (by kernel_rfl)
  | m + 1, x0, x1, x2, x3, x4 => (jT_eq _ _ _ _ _ _).trans ((K_ref06_Number_116 _ n m x0 x1 x2 x3 x4).trans (congrArg (T_ref06_Number_116 (CP C n) x0 x1 x2 x3 x4) (funext fun x0 => (funext fun x1 => (funext fun x2 => (funext fun x3 => (funext fun x4 => (JE_ref06_Number_116 n m) x0 x1 x2 x3 x4)))))))
def T_ref06_Number_1 (cp : FuncId → List AV → Option AV) (a0_0 : Int) (a0_1 : Int) (a0_2 : Int) (j116 : Int → Int → Int → Int → Int → Option AV) : Option AV :=
 ((cp F_ref06_start [.int .i64 a0_0]).bind fun r1 =>
 (AV.intK .i64 r1 fun i2 =>
 (j116 i2 1 a0_0 a0_1 a0_2)))
theorem K_ref06_Number_1 (j : Jump) (n : Nat) (a0_0 : Int) (a0_1 : Int) (a0_2 : Int) : ex (topEnv C (CP C n) n F_ref06_Number) (some j) (bodyOf C.P F_ref06_Number) 1 [] [] (endOf C.P F_ref06_Number) (startOf C.P F_ref06_Number [.agg [.int .i64 a0_0, .int .i64 a0_1, .int .i64 a0_2]]) = T_ref06_Number_1 (CP C n) a0_0 a0_1 a0_2 (fun x0 x1 x2 x3 x4 => j [false, false, true, false, true, true] [(n + 300)] (S_ref06_Number_116 x0 x1 x2 x3 x4)) := by kernel_rfl
def R_ref06_Number (cp : FuncId → List AV → Option AV) (n : Nat) (a0_0 : Int) (a0_1 : Int) (a0_2 : Int) : Option AV := T_ref06_Number_1 cp a0_0 a0_1 a0_2 (J_ref06_Number_116 cp n (n + 300))
theorem eq_ref06_Number (n : Nat) (a0_0 : Int) (a0_1 : Int) (a0_2 : Int) : CP C (n + 1) F_ref06_Number [.agg [.int .i64 a0_0, .int .i64 a0_1, .int .i64 a0_2]] = R_ref06_Number (CP C n) n a0_0 a0_1 a0_2 :=
  (CP_pure C n F_ref06_Number _ (by kernel_rfl) (by kernel_rfl)).trans ((K_ref06_Number_1 _ n a0_0 a0_1 a0_2).trans (congrArg (T_ref06_Number_1 (CP C n) a0_0 a0_1 a0_2) (funext fun x0 => (funext fun x1 => (funext fun x2 => (funext fun x3 => (funext fun x4 => (JE_ref06_Number_116 n (n + 300)) x0 x1 x2 x3 x4)))))))
-- ref06_Weekday
def R_ref06_Weekday (cp : FuncId → List AV → Option AV) (_n : Nat) (a0 : Int) : Option AV :=
 (cond (decide ((Int.tmod a0 7) < 0))
 (bnd (IntKind.i64.wrap ((IntKind.i64.wrap ((Int.tmod a0 7) + 7)) + 3)) fun y1 =>
 (some (.int .i64 (IntKind.i64.wrap ((Int.tmod y1 7) + 1)))))
 (bnd (IntKind.i64.wrap ((Int.tmod (IntKind.i64.wrap ((Int.tmod a0 7) + 3)) 7) + 1)) fun y2 =>
 (some (.int .i64 y2))))
theorem eq_ref06_Weekday (n : Nat) (a0 : Int) : CP C (n + 1) F_ref06_Weekday [.int .i64 a0] = R_ref06_Weekday (CP C n) n a0 := by kernel_rfl
-- ref14_MayDay
def R_ref14_MayDay (cp : FuncId → List AV → Option AV) (_n : Nat) (a0_0 : Int) (a0_1 : Int) (a0_2 : Int) : Option AV :=
 (cond (decide (a0_2 ≥ 1))
 (cond (decide (a0_1 ≥ 1))
 (cond (a0_0 == 0)
 (cond (decide (a0_1 ≤ 31))
 (some (.bool (a0_2 == 0)))
 (some (.bool false)))
 (cond (a0_0 == 1)
 (cond (decide (a0_2 ≤ 7))
 (some (.bool (a0_1 == 0)))
 (some (.bool false)))
 (cond (a0_0 == 2)
 (cond (decide (a0_2 ≤ 7))
 (some (.bool (decide (a0_1 ≤ 31))))
 (some (.bool false)))
 (cond (a0_0 == 3)
 (cond (decide (a0_2 ≤ 7))
 (some (.bool (decide (a0_1 ≤ 31))))
 (some (.bool false)))
 (some (.bool false))))))
 (cond (a0_0 == 0)
 (some (.bool false))
 (cond (a0_0 == 1)
 (cond (decide (a0_2 ≤ 7))
 (some (.bool (a0_1 == 0)))
 (some (.bool false)))
 (cond (a0_0 == 2)
 (cond (decide (a0_2 ≤ 7))
 (some (.bool false))
 (some (.bool false)))
 (cond (a0_0 == 3)
 (cond (decide (a0_2 ≤ 7))
 (some (.bool false))
 (some (.bool false)))
 (some (.bool false)))))))
 (cond (decide (a0_1 ≥ 1))
 (cond (a0_0 == 0)
 (cond (decide (a0_1 ≤ 31))
 (some (.bool (a0_2 == 0)))
 (some (.bool false)))
 (cond (a0_0 == 1)
 (some (.bool false))
 (cond (a0_0 == 2)
 (some (.bool false))
 (cond (a0_0 == 3)
 (some (.bool false))
 (some (.bool false))))))
 (cond (a0_0 == 0)
 (some (.bool false))
 (cond (a0_0 == 1)
 (some (.bool false))
 (cond (a0_0 == 2)
 (some (.bool false))
 (cond (a0_0 == 3)
 (some (.bool false))
 (some (.bool false))))))))
theorem eq_ref14_MayDay (n : Nat) (a0_0 : Int) (a0_1 : Int) (a0_2 : Int) : CP C (n + 1) F_ref14_MayDay [.agg [.int .i64 a0_0, .int .i64 a0_1, .int .i64 a0_2]] = R_ref14_MayDay (CP C n) n a0_0 a0_1 a0_2 := by kernel_rfl
-- ref16_Day
def S_ref16_Day_2040 (x0 : Int) (x1 : Int) (x2 : Int) (x3 : Int) (x4 : Int) : St := ⟨[.junk, .junk, .junk, .ptr (some (0, 0)), .junk, .junk, .junk, .junk, .junk, .int .i64 x0, .int .i64 x1, .junk, .junk, .junk, .junk, .junk, .junk, .junk, .junk, .junk, .junk, .junk, .junk, .junk, .junk, .junk, .junk, .junk, .junk, .junk, .junk, .junk, .junk, .junk, .junk, .junk, .junk, .junk, .junk, .junk, .junk, .junk, .junk, .junk, .junk, .junk, .junk, .junk, .junk, .junk, .junk, .junk, .junk, .junk, .junk, .junk, .junk, .junk, .junk, .junk, .junk, .junk, .junk, .junk, .junk, .junk, .junk, .junk, .junk, .junk, .junk, .junk], [.cells 23 [.int .i64 x2, .int .i64 x3, .int .i64 x4]]⟩
def T_ref16_Day_2040 (cp : FuncId → List AV → Option AV) (x0 : Int) (x1 : Int) (x2 : Int) (x3 : Int) (x4 : Int) (r2040 : Int → Int → Int → Int → Int → Option AV) : Option AV :=
 ((cp F_ref06_Weekday [.int .i64 x0]).bind fun r1 =>
 (AV.intK .i64 r1 fun i2 =>
 (cond (i2 != x4)
 (r2040 (IntKind.i64.wrap (x0 + x1)) x1 x2 x3 x4)
 (some (.tup [.int .i64 x0, .int .i64 0])))))
theorem K_ref16_Day_2040 (j : Jump) (n : Nat) (m2040 : Nat) (x0 : Int) (x1 : Int) (x2 : Int) (x3 : Int) (x4 : Int) : enter (topEnv C (CP C n) n F_ref16_Day) (some j) (bodyOf C.P F_ref16_Day) (endOf C.P F_ref16_Day) [false, false, false, true, true, true, true, true, true, true] [(m2040 + 1)] (S_ref16_Day_2040 x0 x1 x2 x3 x4) = T_ref16_Day_2040 (CP C n) x0 x1 x2 x3 x4 (fun x0 x1 x2 x3 x4 => j [false, false, false, true, true, true, true, true, true, true] [m2040] (S_ref16_Day_2040 x0 x1 x2 x3 x4)) := by kernel_rfl
def J_ref16_Day_2040 (cp : FuncId → List AV → Option AV) (n : Nat) : Nat → Int → Int → Int → Int → Int → Option AV
  | 0 => (fun x0 x1 x2 x3 x4 => none)
  | m + 1 => (fun x0 x1 x2 x3 x4 => T_ref16_Day_2040 cp x0 x1 x2 x3 x4 (J_ref16_Day_2040 cp n m))
theorem Js_ref16_Day_2040 (cp : FuncId → List AV → Option AV) (n : Nat) (m : Nat) (x0 : Int) (x1 : Int) (x2 : Int) (x3 : Int) (x4 : Int) : J_ref16_Day_2040 cp n (m + 1) x0 x1 x2 x3 x4 = T_ref16_Day_2040 cp x0 x1 x2 x3 x4 (J_ref16_Day_2040 cp n m) := of_eq_true (eq_self _)
theorem JE_ref16_Day_2040 (n : Nat) : ∀ (m : Nat) (x0 : Int) (x1 : Int) (x2 : Int) (x3 : Int) (x4 : Int), jT (topEnv C (CP C n) n F_ref16_Day) (bodyOf C.P F_ref16_Day) (endOf C.P F_ref16_Day) [false, false, false, true, true, true, true, true, true, true] [m] (S_ref16_Day_2040 x0 x1 x2 x3 x4) = J_ref16_Day_2040 (CP C n) n m x0 x1 x2 x3 x4
  | 0, x0, x1, x2, x3, x4 => (jT_eq _ _ _ _ _ _).trans (by kernel_rfl)
  | m + 1, x0, x1, x2, x3, x4 => (jT_eq _ _ _ _ _ _).trans ((K_ref16_Day_2040 _ n m x0 x1 x2 x3 x4).trans (congrArg (T_ref16_Day_2040 (CP C n) x0 x1 x2 x3 x4) (funext fun x0 => (funext fun x1 => (funext fun x2 => (funext fun x3 => (funext fun x4 => (JE_ref16_Day_2040 n m) x0 x1 x2 x3 x4)))))))
def T_ref16_Day_1 (cp : FuncId → List AV → Option AV) (a0_0 : Int) (a0_1 : Int) (a0_2 : Int) (a1 : Int) (a2 : Int) (j2040 : Int → Int → Int → Int → Int → Option AV) : Option AV :=
 ((cp F_ref14_MayDay [.agg [.int .i64 a0_0, .int .i64 a0_1, .int .i64 a0_2]]).bind fun r1 =>
 (AV.boolK r1 fun b2 =>
 (cond (!b2)
 (some (.tup [.int .i64 0, .int .i64 5]))
 (cond (decide (a2 < 1))
 (some (.tup [.int .i64 0, .int .i64 5]))
 (cond (decide (a2 > 12))
 (some (.tup [.int .i64 0, .int .i64 5]))
 (cond (a0_0 == 0)
 ((cp F_ref06_MonthDays [.int .i64 a1, .int .i64 a2]).bind fun r3 =>
 (AV.intK .i64 r3 fun i4 =>
 (cond (decide (a0_1 > i4))
 (some (.tup [.int .i64 0, .int .i64 7]))
 (cond (decide (a1 < (-9999)))
 (some (.tup [.int .i64 0, .int .i64 8]))
 (cond (decide (a1 > 10000))
 (some (.tup [.int .i64 0, .int .i64 8]))
 ((cp F_ref06_Number [.agg [.int .i64 a1, .int .i64 a2, .int .i64 1]]).bind fun r5 =>
 (AV.intK .i64 r5 fun i6 =>
 (cond (a0_0 == 0)
 (some (.tup [.int .i64 (IntKind.i64.wrap ((IntKind.i64.wrap (i6 + a0_1)) - 1)), .int .i64 0]))
 (cond (a0_0 == 1)
 ((cp F_ref06_MonthDays [.int .i64 a1, .int .i64 a2]).bind fun r7 =>
 (AV.intK .i64 r7 fun i8 =>
 (j2040 (IntKind.i64.wrap ((IntKind.i64.wrap (i6 + i8)) - 1)) (-1) a0_0 a0_1 a0_2)))
 (cond (a0_0 == 3)
 (j2040 (IntKind.i64.wrap ((IntKind.i64.wrap (i6 + a0_1)) - 1)) (-1) a0_0 a0_1 a0_2)
 (j2040 (IntKind.i64.wrap ((IntKind.i64.wrap (i6 + a0_1)) - 1)) 1 a0_0 a0_1 a0_2)))))))))))
 (cond (decide (a1 < (-9999)))
 (some (.tup [.int .i64 0, .int .i64 8]))
 (cond (decide (a1 > 10000))
 (some (.tup [.int .i64 0, .int .i64 8]))
 ((cp F_ref06_Number [.agg [.int .i64 a1, .int .i64 a2, .int .i64 1]]).bind fun r9 =>
 (AV.intK .i64 r9 fun i10 =>
 (cond (a0_0 == 0)
 (some (.tup [.int .i64 (IntKind.i64.wrap ((IntKind.i64.wrap (i10 + a0_1)) - 1)), .int .i64 0]))
 (cond (a0_0 == 1)
 ((cp F_ref06_MonthDays [.int .i64 a1, .int .i64 a2]).bind fun r11 =>
 (AV.intK .i64 r11 fun i12 =>
 (j2040 (IntKind.i64.wrap ((IntKind.i64.wrap (i10 + i12)) - 1)) (-1) a0_0 a0_1 a0_2)))
 (cond (a0_0 == 3)
 (j2040 (IntKind.i64.wrap ((IntKind.i64.wrap (i10 + a0_1)) - 1)) (-1) a0_0 a0_1 a0_2)
 (j2040 (IntKind.i64.wrap ((IntKind.i64.wrap (i10 + a0_1)) - 1)) 1 a0_0 a0_1 a0_2))))))))))))))
theorem K_ref16_Day_1 (j : Jump) (n : Nat) (a0_0 : Int) (a0_1 : Int) (a0_2 : Int) (a1 : Int) (a2 : Int) : ex (topEnv C (CP C n) n F_ref16_Day) (some j) (bodyOf C.P F_ref16_Day) 1 [] [] (endOf C.P F_ref16_Day) (startOf C.P F_ref16_Day [.agg [.int .i64 a0_0, .int .i64 a0_1, .int .i64 a0_2], .int .i64 a1, .int .i64 a2]) = T_ref16_Day_1 (CP C n) a0_0 a0_1 a0_2 a1 a2 (fun x0 x1 x2 x3 x4 => j [false, false, false, true, true, true, true, true, true, true] [(n + 300)] (S_ref16_Day_2040 x0 x1 x2 x3 x4)) := by kernel_rfl
def R_ref16_Day (cp : FuncId → List AV → Option AV) (n : Nat) (a0_0 : Int) (a0_1 : Int) (a0_2 : Int) (a1 : Int) (a2 : Int) : Option AV := T_ref16_Day_1 cp a0_0 a0_1 a0_2 a1 a2 (J_ref16_Day_2040 cp n (n + 300))
theorem eq_ref16_Day (n : Nat) (a0_0 : Int) (a0_1 : Int) (a0_2 : Int) (a1 : Int) (a2 : Int) : CP C (n + 1) F_ref16_Day [.agg [.int .i64 a0_0, .int .i64 a0_1, .int .i64 a0_2], .int .i64 a1, .int .i64 a2] = R_ref16_Day (CP C n) n a0_0 a0_1 a0_2 a1 a2 :=
  (CP_pure C n F_ref16_Day _ (by kernel_rfl) (by kernel_rfl)).trans ((K_ref16_Day_1 _ n a0_0 a0_1 a0_2 a1 a2).trans (congrArg (T_ref16_Day_1 (CP C n) a0_0 a0_1 a0_2 a1 a2) (funext fun x0 => (funext fun x1 => (funext fun x2 => (funext fun x3 => (funext fun x4 => (JE_ref16_Day_2040 n (n + 300)) x0 x1 x2 x3 x4)))))))
-- law16_awake
def R_law16_awake (cp : FuncId → List AV → Option AV) (_n : Nat) : Option AV :=
 ((cp F_yearly_Day [.agg [.int .i64 1, .int .i64 0, .int .i64 7], .int .i64 2024, .int .i64 3]).bind fun r1 =>
 (AV.tupK r1 fun l2 =>
 (consK l2 fun v3 l4 =>
 (AV.intK .i64 v3 fun i5 =>
 (consK l4 fun v6 l7 =>
 (AV.intK .i64 v6 fun i8 =>
 (nilK l7
 ((cp F_yearly_Day [.agg [.int .i64 3, .int .i64 3, .int .i64 7], .int .i64 2024, .int .i64 3]).bind fun r9 =>
 (AV.tupK r9 fun l10 =>
 (consK l10 fun v11 l12 =>
 (AV.intK .i64 v11 fun i13 =>
 (consK l12 fun v14 l15 =>
 (AV.intK .i64 v14 fun i16 =>
 (nilK l15
 ((cp F_yearly_Day [.agg [.int .i64 0, .int .i64 29, .int .i64 0], .int .i64 2023, .int .i64 2]).bind fun r17 =>
 (AV.tupK r17 fun l18 =>
 (consK l18 fun v19 l20 =>
 (AV.intK .i64 v19 fun i21 =>
 (consK l20 fun v22 l23 =>
 (AV.intK .i64 v22 fun i24 =>
 (nilK l23
 (cond (i5 == 19813)
 (cond (i8 == 0)
 (cond (i13 == 19785)
 (cond (i16 == 0)
 (some (.bool (i24 == 7)))
 (some (.bool false)))
 (some (.bool false)))
 (some (.bool false)))
 (some (.bool false))))))))))))))))))))))))
theorem eq_law16_awake (n : Nat) : CP C (n + 1) F_law16_awake [] = R_law16_awake (CP C n) n := by kernel_rfl
-- law16_YearlyDays
def R_law16_YearlyDays (cp : FuncId → List AV → Option AV) (_n : Nat) (a0_0 : Int) (a0_1 : Int) (a0_2 : Int) (a1 : Int) (a2 : Int) : Option AV :=
 ((cp F_yearly_Day [.agg [.int .i64 a0_0, .int .i64 a0_1, .int .i64 a0_2], .int .i64 a1, .int .i64 a2]).bind fun r1 =>
 (AV.tupK r1 fun l2 =>
 (consK l2 fun v3 l4 =>
 (AV.intK .i64 v3 fun i5 =>
 (consK l4 fun v6 l7 =>
 (AV.intK .i64 v6 fun i8 =>
 (nilK l7
 ((cp F_ref16_Day [.agg [.int .i64 a0_0, .int .i64 a0_1, .int .i64 a0_2], .int .i64 a1, .int .i64 a2]).bind fun r9 =>
 (AV.tupK r9 fun l10 =>
 (consK l10 fun v11 l12 =>
 (AV.intK .i64 v11 fun i13 =>
 (consK l12 fun v14 l15 =>
 (AV.intK .i64 v14 fun i16 =>
 (nilK l15
 (cond (i5 == i13)
 (cond (i8 == i16)
 ((cp F_law16_awake []).bind fun r17 =>
 (AV.boolK r17 fun b18 =>
 (some (.bool b18))))
 (some (.bool false)))
 (some (.bool false)))))))))))))))))
theorem eq_law16_YearlyDays (n : Nat) (a0_0 : Int) (a0_1 : Int) (a0_2 : Int) (a1 : Int) (a2 : Int) : CP C (n + 1) F_law16_YearlyDays [.agg [.int .i64 a0_0, .int .i64 a0_1, .int .i64 a0_2], .int .i64 a1, .int .i64 a2] = R_law16_YearlyDays (CP C n) n a0_0 a0_1 a0_2 a1 a2 := by kernel_rfl
-- law16_YearlyWeekdays
def R_law16_YearlyWeekdays (cp : FuncId → List AV → Option AV) (_n : Nat) (a0_0 : Int) (a0_1 : Int) (a0_2 : Int) (a1 : Int) (a2 : Int) : Option AV :=
 ((cp F_yearly_Day [.agg [.int .i64 a0_0, .int .i64 a0_1, .int .i64 a0_2], .int .i64 a1, .int .i64 a2]).bind fun r1 =>
 (AV.tupK r1 fun l2 =>
 (consK l2 fun v3 l4 =>
 (AV.intK .i64 v3 fun i5 =>
 (consK l4 fun v6 l7 =>
 (AV.intK .i64 v6 fun i8 =>
 (nilK l7
 (cond (i8 != 0)
 ((cp F_law16_awake []).bind fun r9 =>
 (AV.boolK r9 fun b10 =>
 (some (.bool b10))))
 (cond (a0_0 == 0)
 ((cp F_law16_awake []).bind fun r11 =>
 (AV.boolK r11 fun b12 =>
 (some (.bool b12))))
 ((cp F_ref06_Number [.agg [.int .i64 a1, .int .i64 a2, .int .i64 1]]).bind fun r13 =>
 (AV.intK .i64 r13 fun i14 =>
 (cond (a0_0 == 1)
 ((cp F_ref06_MonthDays [.int .i64 a1, .int .i64 a2]).bind fun r15 =>
 (AV.intK .i64 r15 fun i16 =>
 (bnd (IntKind.i64.wrap ((IntKind.i64.wrap ((IntKind.i64.wrap (i14 + i16)) - 1)) - i5)) fun y17 =>
 ((cp F_ref06_Weekday [.int .i64 i5]).bind fun r18 =>
 (AV.intK .i64 r18 fun i19 =>
 (cond (i19 == a0_2)
 (cond (decide (y17 ≥ 0))
 (cond (decide (y17 < 7))
 ((cp F_law16_awake []).bind fun r20 =>
 (AV.boolK r20 fun b21 =>
 (some (.bool b21))))
 (some (.bool false)))
 (some (.bool false)))
 (some (.bool false))))))))
 (cond (a0_0 == 2)
 (bnd (IntKind.i64.wrap ((IntKind.i64.wrap ((IntKind.i64.wrap (i5 - i14)) - a0_1)) + 1)) fun y22 =>
 ((cp F_ref06_Weekday [.int .i64 i5]).bind fun r23 =>
 (AV.intK .i64 r23 fun i24 =>
 (cond (i24 == a0_2)
 (cond (decide (y22 ≥ 0))
 (cond (decide (y22 < 7))
 ((cp F_law16_awake []).bind fun r25 =>
 (AV.boolK r25 fun b26 =>
 (some (.bool b26))))
 (some (.bool false)))
 (some (.bool false)))
 (some (.bool false))))))
 (cond (a0_0 == 3)
 (bnd (IntKind.i64.wrap ((IntKind.i64.wrap ((IntKind.i64.wrap (i14 + a0_1)) - 1)) - i5)) fun y27 =>
 ((cp F_ref06_Weekday [.int .i64 i5]).bind fun r28 =>
 (AV.intK .i64 r28 fun i29 =>
 (cond (i29 == a0_2)
 (cond (decide (y27 ≥ 0))
 (cond (decide (y27 < 7))
 ((cp F_law16_awake []).bind fun r30 =>
 (AV.boolK r30 fun b31 =>
 (some (.bool b31))))
 (some (.bool false)))
 (some (.bool false)))
 (some (.bool false))))))
 ((cp F_ref06_Weekday [.int .i64 i5]).bind fun r32 =>
 (AV.intK .i64 r32 fun i33 =>
 (cond (i33 == a0_2)
 ((cp F_law16_awake []).bind fun r34 =>
 (AV.boolK r34 fun b35 =>
 (some (.bool b35))))
 (some (.bool false)))))))))))))))))))
theorem eq_law16_YearlyWeekdays (n : Nat) (a0_0 : Int) (a0_1 : Int) (a0_2 : Int) (a1 : Int) (a2 : Int) : CP C (n + 1) F_law16_YearlyWeekdays [.agg [.int .i64 a0_0, .int .i64 a0_1, .int .i64 a0_2], .int .i64 a1, .int .i64 a2] = R_law16_YearlyWeekdays (CP C n) n a0_0 a0_1 a0_2 a1 a2 := by kernel_rfl
end Go.Proofs.Ytoidepknicafhaa.Sim.S
