/- What each function of the program answers, as a plain function, printed by a program of ours. Condition: none beyond what each theorem says. -/

import Derived.Test.YtleedachcphbmaaCfg
set_option maxRecDepth 100000
set_option linter.unusedVariables false
open Go Go.Proofs.Ytleedachcphbmaa.Sim Go.Proofs
namespace Go.Proofs.Ytleedachcphbmaa.Sim.S
-- civil_Leap
def R_civil_Leap (cp : FuncId → List AV → Option AV) (_n : Nat) (a0 : Int) : Option AV :=
 (cond ((Int.tmod a0 4) == 0)
 (cond ((Int.tmod a0 100) != 0)
 (some (.bool true))
 (some (.bool ((Int.tmod a0 400) == 0))))
 (some (.bool ((Int.tmod a0 400) == 0))))
theorem eq_civil_Leap (n : Nat) (a0 : Int) : CP C (n + 1) F_civil_Leap [.int .i64 a0] = R_civil_Leap (CP C n) n a0 := by kernel_rfl
-- civil_months
def R_civil_months (cp : FuncId → List AV → Option AV) (_n : Nat) : Option AV :=
 (some (.agg [.int .i64 0, .int .i64 31, .int .i64 28, .int .i64 31, .int .i64 30, .int .i64 31, .int .i64 30, .int .i64 31, .int .i64 31, .int .i64 30, .int .i64 31, .int .i64 30, .int .i64 31]))
theorem eq_civil_months (n : Nat) : CP C (n + 1) F_civil_months [] = R_civil_months (CP C n) n := by kernel_rfl
-- civil_MonthDays
def S_civil_MonthDays_13 (x0 : Int) (x1 : Int) (b2 : Bool) : St := ⟨[.int .i64 x0, .int .i64 x1, .junk, .junk, .junk, .junk, .junk, .junk, .junk, .junk, .bool b2, .junk, .junk, .junk, .junk, .junk, .junk, .junk, .junk, .junk], []⟩
def S_civil_MonthDays_15 (x0 : Int) : St := ⟨[.junk, .int .i64 x0, .junk, .junk, .junk, .junk, .junk, .junk, .junk, .junk, .junk, .junk, .junk, .junk, .junk, .junk, .junk, .junk, .junk, .junk], []⟩
def T_civil_MonthDays_15 (cp : FuncId → List AV → Option AV) (x0 : Int) : Option AV :=
 ((cp F_civil_months []).bind fun r1 =>
 (AV.aggK r1 fun l2 =>
 (consK l2 fun v3 l4 =>
 (AV.intK .i64 v3 fun i5 =>
 (consK l4 fun v6 l7 =>
 (AV.intK .i64 v6 fun i8 =>
 (consK l7 fun v9 l10 =>
 (AV.intK .i64 v9 fun i11 =>
 (consK l10 fun v12 l13 =>
 (AV.intK .i64 v12 fun i14 =>
 (consK l13 fun v15 l16 =>
 (AV.intK .i64 v15 fun i17 =>
 (consK l16 fun v18 l19 =>
 (AV.intK .i64 v18 fun i20 =>
 (consK l19 fun v21 l22 =>
 (AV.intK .i64 v21 fun i23 =>
 (consK l22 fun v24 l25 =>
 (AV.intK .i64 v24 fun i26 =>
 (consK l25 fun v27 l28 =>
 (AV.intK .i64 v27 fun i29 =>
 (consK l28 fun v30 l31 =>
 (AV.intK .i64 v30 fun i32 =>
 (consK l31 fun v33 l34 =>
 (AV.intK .i64 v33 fun i35 =>
 (consK l34 fun v36 l37 =>
 (AV.intK .i64 v36 fun i38 =>
 (consK l37 fun v39 l40 =>
 (AV.intK .i64 v39 fun i41 =>
 (nilK l40
 (cond ((decide (0 ≤ x0)) && (decide (x0 < 13)))
 (cond (fits ((Int.toNat x0) * 1) 1 [.int .i64 i5, .int .i64 i8, .int .i64 i11, .int .i64 i14, .int .i64 i17, .int .i64 i20, .int .i64 i23, .int .i64 i26, .int .i64 i29, .int .i64 i32, .int .i64 i35, .int .i64 i38, .int .i64 i41])
 (cond (AV.pure (nth [.int .i64 i5, .int .i64 i8, .int .i64 i11, .int .i64 i14, .int .i64 i17, .int .i64 i20, .int .i64 i23, .int .i64 i26, .int .i64 i29, .int .i64 i32, .int .i64 i35, .int .i64 i38, .int .i64 i41] ((Int.toNat x0) * 1)))
 (some ((nth [.int .i64 i5, .int .i64 i8, .int .i64 i11, .int .i64 i14, .int .i64 i17, .int .i64 i20, .int .i64 i23, .int .i64 i26, .int .i64 i29, .int .i64 i32, .int .i64 i35, .int .i64 i38, .int .i64 i41] ((Int.toNat x0) * 1))))
 none)
 none)
 none))))))))))))))))))))))))))))))
theorem K_civil_MonthDays_15 (j : Jump) (n : Nat) (x0 : Int) : enter (topEnv C (CP C n) n F_civil_MonthDays) (some j) (bodyOf C.P F_civil_MonthDays) (endOf C.P F_civil_MonthDays) [true, true, true] [] (S_civil_MonthDays_15 x0) = T_civil_MonthDays_15 (CP C n) x0 := by kernel_rfl
def J_civil_MonthDays_15 (cp : FuncId → List AV → Option AV) (n : Nat) (x0 : Int) : Option AV := T_civil_MonthDays_15 cp x0
theorem JE_civil_MonthDays_15 (n : Nat) (x0 : Int) : jT (topEnv C (CP C n) n F_civil_MonthDays) (bodyOf C.P F_civil_MonthDays) (endOf C.P F_civil_MonthDays) [true, true, true] [] (S_civil_MonthDays_15 x0) = J_civil_MonthDays_15 (CP C n) n x0 :=
  (jT_eq _ _ _ _ _ _).trans ((K_civil_MonthDays_15 _ n x0).trans (rfl))
def T_civil_MonthDays_13 (cp : FuncId → List AV → Option AV) (x0 : Int) (x1 : Int) (b2 : Bool) (j15 : Int → Option AV) : Option AV :=
 (cond b2
 (some (.int .i64 0))
 (cond (x1 == 2)
 ((cp F_civil_Leap [.int .i64 x0]).bind fun r1 =>
 (AV.boolK r1 fun b2 =>
 (cond b2
 (some (.int .i64 29))
 (j15 x1))))
 (j15 x1)))
theorem K_civil_MonthDays_13 (j : Jump) (n : Nat) (x0 : Int) (x1 : Int) (b2 : Bool) : enter (topEnv C (CP C n) n F_civil_MonthDays) (some j) (bodyOf C.P F_civil_MonthDays) (endOf C.P F_civil_MonthDays) [true, false, true] [] (S_civil_MonthDays_13 x0 x1 b2) = T_civil_MonthDays_13 (CP C n) x0 x1 b2 (fun x0 => j [true, true, true] [] (S_civil_MonthDays_15 x0)) := by kernel_rfl
def J_civil_MonthDays_13 (cp : FuncId → List AV → Option AV) (n : Nat) (x0 : Int) (x1 : Int) (b2 : Bool) : Option AV := T_civil_MonthDays_13 cp x0 x1 b2 (J_civil_MonthDays_15 cp n)
theorem JE_civil_MonthDays_13 (n : Nat) (x0 : Int) (x1 : Int) (b2 : Bool) : jT (topEnv C (CP C n) n F_civil_MonthDays) (bodyOf C.P F_civil_MonthDays) (endOf C.P F_civil_MonthDays) [true, false, true] [] (S_civil_MonthDays_13 x0 x1 b2) = J_civil_MonthDays_13 (CP C n) n x0 x1 b2 :=
  (jT_eq _ _ _ _ _ _).trans ((K_civil_MonthDays_13 _ n x0 x1 b2).trans (congrArg (T_civil_MonthDays_13 (CP C n) x0 x1 b2) (funext fun x0 => (JE_civil_MonthDays_15 n) x0)))
def T_civil_MonthDays_1 (cp : FuncId → List AV → Option AV) (a0 : Int) (a1 : Int) (j13 : Int → Int → Bool → Option AV) : Option AV :=
 (cond (decide (a1 < 1))
 (j13 a0 a1 true)
 (j13 a0 a1 (decide (a1 > 12))))
theorem K_civil_MonthDays_1 (j : Jump) (n : Nat) (a0 : Int) (a1 : Int) : ex (topEnv C (CP C n) n F_civil_MonthDays) (some j) (bodyOf C.P F_civil_MonthDays) 1 [] [] (endOf C.P F_civil_MonthDays) (startOf C.P F_civil_MonthDays [.int .i64 a0, .int .i64 a1]) = T_civil_MonthDays_1 (CP C n) a0 a1 (fun x0 x1 b2 => j [true, false, true] [] (S_civil_MonthDays_13 x0 x1 b2)) := by kernel_rfl
def R_civil_MonthDays (cp : FuncId → List AV → Option AV) (n : Nat) (a0 : Int) (a1 : Int) : Option AV := T_civil_MonthDays_1 cp a0 a1 (J_civil_MonthDays_13 cp n)
theorem eq_civil_MonthDays (n : Nat) (a0 : Int) (a1 : Int) : CP C (n + 1) F_civil_MonthDays [.int .i64 a0, .int .i64 a1] = R_civil_MonthDays (CP C n) n a0 a1 :=
  (CP_pure C n F_civil_MonthDays _ (by kernel_rfl) (by kernel_rfl)).trans ((K_civil_MonthDays_1 _ n a0 a1).trans (congrArg (T_civil_MonthDays_1 (CP C n) a0 a1) (funext fun x0 => (funext fun x1 => (funext fun b2 => (JE_civil_MonthDays_13 n) x0 x1 b2)))))
-- civil_Check
def R_civil_Check (cp : FuncId → List AV → Option AV) (_n : Nat) (a0_0 : Int) (a0_1 : Int) (a0_2 : Int) : Option AV :=
 (cond (decide (a0_2 < 1))
 (some (.int .i64 7))
 ((cp F_civil_MonthDays [.int .i64 a0_0, .int .i64 a0_1]).bind fun r1 =>
 (AV.intK .i64 r1 fun i2 =>
 (cond (decide (a0_2 > i2))
 (some (.int .i64 7))
 (cond (decide (a0_0 < (-9999)))
 (some (.int .i64 8))
 (cond (decide (a0_0 > 9999))
 (some (.int .i64 8))
 (some (.int .i64 0))))))))
theorem eq_civil_Check (n : Nat) (a0_0 : Int) (a0_1 : Int) (a0_2 : Int) : CP C (n + 1) F_civil_Check [.agg [.int .i64 a0_0, .int .i64 a0_1, .int .i64 a0_2]] = R_civil_Check (CP C n) n a0_0 a0_1 a0_2 := by kernel_rfl
-- civil_floor
def R_civil_floor (cp : FuncId → List AV → Option AV) (_n : Nat) (a0 : Int) (a1 : Int) : Option AV :=
 (cond (decide (a1 = 0))
 none
 (cond (decide (a1 = 0))
 none
 (cond (decide ((Int.tmod a0 a1) < 0))
 (some (.tup [.int .i64 (IntKind.i64.wrap ((IntKind.i64.wrap (Int.tdiv a0 a1)) - 1)), .int .i64 (IntKind.i64.wrap ((Int.tmod a0 a1) + a1))]))
 (some (.tup [.int .i64 (IntKind.i64.wrap (Int.tdiv a0 a1)), .int .i64 (Int.tmod a0 a1)])))))
theorem eq_civil_floor (n : Nat) (a0 : Int) (a1 : Int) : CP C (n + 1) F_civil_floor [.int .i64 a0, .int .i64 a1] = R_civil_floor (CP C n) n a0 a1 := by kernel_rfl
-- civil_number
def R_civil_number (cp : FuncId → List AV → Option AV) (_n : Nat) (a0 : Int) (a1 : Int) (a2 : Int) : Option AV :=
 (bnd (IntKind.i64.wrap (Int.tdiv (IntKind.i64.wrap (14 - a1)) 12)) fun y1 =>
 ((cp F_civil_floor [.int .i64 (IntKind.i64.wrap (a0 - y1)), .int .i64 400]).bind fun r2 =>
 (AV.tupK r2 fun l3 =>
 (consK l3 fun v4 l5 =>
 (AV.intK .i64 v4 fun i6 =>
 (consK l5 fun v7 l8 =>
 (AV.intK .i64 v7 fun i9 =>
 (nilK l8
 (bnd (IntKind.i64.wrap ((IntKind.i64.wrap (a1 + (IntKind.i64.wrap (12 * y1)))) - 3)) fun y10 =>
 (bnd (IntKind.i64.wrap (Int.tdiv (IntKind.i64.wrap ((IntKind.i64.wrap (153 * y10)) + 2)) 5)) fun y11 =>
 (bnd (IntKind.i64.wrap ((IntKind.i64.wrap (i6 * 146097)) + (IntKind.i64.wrap (i9 * 365)))) fun y12 =>
 (bnd (IntKind.i64.wrap (y12 + (IntKind.i64.wrap (Int.tdiv i9 4)))) fun y13 =>
 (bnd (IntKind.i64.wrap (y13 - (IntKind.i64.wrap (Int.tdiv i9 100)))) fun y14 =>
 (bnd (IntKind.i64.wrap (y14 + (IntKind.i64.wrap ((IntKind.i64.wrap (y11 + a2)) - 1)))) fun y15 =>
 (some (.int .i64 (IntKind.i64.wrap (y15 - 719468))))))))))))))))))
theorem eq_civil_number (n : Nat) (a0 : Int) (a1 : Int) (a2 : Int) : CP C (n + 1) F_civil_number [.int .i64 a0, .int .i64 a1, .int .i64 a2] = R_civil_number (CP C n) n a0 a1 a2 := by kernel_rfl
-- civil_Days
def R_civil_Days (cp : FuncId → List AV → Option AV) (_n : Nat) (a0_0 : Int) (a0_1 : Int) (a0_2 : Int) : Option AV :=
 ((cp F_civil_Check [.agg [.int .i64 a0_0, .int .i64 a0_1, .int .i64 a0_2]]).bind fun r1 =>
 (AV.intK .i64 r1 fun i2 =>
 (cond (i2 != 0)
 (some (.tup [.int .i64 0, .int .i64 i2]))
 ((cp F_civil_number [.int .i64 a0_0, .int .i64 a0_1, .int .i64 a0_2]).bind fun r3 =>
 (AV.intK .i64 r3 fun i4 =>
 (some (.tup [.int .i64 i4, .int .i64 0])))))))
theorem eq_civil_Days (n : Nat) (a0_0 : Int) (a0_1 : Int) (a0_2 : Int) : CP C (n + 1) F_civil_Days [.agg [.int .i64 a0_0, .int .i64 a0_1, .int .i64 a0_2]] = R_civil_Days (CP C n) n a0_0 a0_1 a0_2 := by kernel_rfl
-- civil_Weekday
def R_civil_Weekday (cp : FuncId → List AV → Option AV) (_n : Nat) (a0 : Int) : Option AV :=
 ((cp F_civil_floor [.int .i64 a0, .int .i64 7]).bind fun r1 =>
 (AV.tupK r1 fun l2 =>
 (consK l2 fun v3 l4 =>
 (AV.intK .i64 v3 fun i5 =>
 (consK l4 fun v6 l7 =>
 (AV.intK .i64 v6 fun i8 =>
 (nilK l7
 (bnd (IntKind.i64.wrap ((Int.tmod (IntKind.i64.wrap (i8 + 3)) 7) + 1)) fun y9 =>
 (some (.int .i64 y9))))))))))
theorem eq_civil_Weekday (n : Nat) (a0 : Int) : CP C (n + 1) F_civil_Weekday [.int .i64 a0] = R_civil_Weekday (CP C n) n a0 := by kernel_rfl
-- civil_Number
def R_civil_Number (cp : FuncId → List AV → Option AV) (_n : Nat) (a0 : Int) (a1 : Int) (a2 : Int) : Option AV :=
 ((cp F_civil_number [.int .i64 a0, .int .i64 a1, .int .i64 a2]).bind fun r1 =>
 (AV.intK .i64 r1 fun i2 =>
 (some (.int .i64 i2))))
theorem eq_civil_Number (n : Nat) (a0 : Int) (a1 : Int) (a2 : Int) : CP C (n + 1) F_civil_Number [.int .i64 a0, .int .i64 a1, .int .i64 a2] = R_civil_Number (CP C n) n a0 a1 a2 := by kernel_rfl
-- weeks_begin
def R_weeks_begin (cp : FuncId → List AV → Option AV) (_n : Nat) (a0 : Int) : Option AV :=
 ((cp F_civil_Number [.int .i64 a0, .int .i64 1, .int .i64 1]).bind fun r1 =>
 (AV.intK .i64 r1 fun i2 =>
 ((cp F_civil_Weekday [.int .i64 i2]).bind fun r3 =>
 (AV.intK .i64 r3 fun i4 =>
 (cond (decide (i4 ≤ 4))
 (some (.int .i64 (IntKind.i64.wrap (i2 - i4))))
 (some (.int .i64 (IntKind.i64.wrap ((IntKind.i64.wrap (i2 + 7)) - i4)))))))))
theorem eq_weeks_begin (n : Nat) (a0 : Int) : CP C (n + 1) F_weeks_begin [.int .i64 a0] = R_weeks_begin (CP C n) n a0 := by kernel_rfl
-- weeks_Of
def S_weeks_Of_1012 (x0 : Int) (x1 : Int) (x2 : Int) (x3 : Int) (x4 : Int) (x5 : Int) (x6 : Int) : St := ⟨[.junk, .ptr (some (0, 0)), .junk, .junk, .junk, .junk, .int .i64 x0, .junk, .int .i64 x1, .int .i64 x2, .junk, .junk, .junk, .junk, .junk, .junk, .junk, .junk, .junk, .junk, .junk, .junk, .junk, .junk, .int .i64 x3, .junk, .junk, .junk, .junk, .junk, .junk, .junk, .junk, .junk, .junk, .junk, .junk, .junk, .junk, .junk, .junk, .junk, .junk, .junk, .junk, .junk, .junk, .junk, .junk, .junk], [.cells 23 [.int .i64 x4, .int .i64 x5, .int .i64 x6]]⟩
def S_weeks_Of_2025 (x0 : Int) (x1 : Int) (x2 : Int) (x3 : Int) (b4 : Bool) (x5 : Int) (x6 : Int) (x7 : Int) : St := ⟨[.junk, .ptr (some (0, 0)), .junk, .junk, .junk, .junk, .int .i64 x0, .junk, .int .i64 x1, .int .i64 x2, .junk, .junk, .junk, .junk, .junk, .junk, .junk, .junk, .junk, .junk, .junk, .junk, .junk, .junk, .int .i64 x3, .bool b4, .junk, .junk, .junk, .junk, .junk, .junk, .junk, .junk, .junk, .junk, .junk, .junk, .junk, .junk, .junk, .junk, .junk, .junk, .junk, .junk, .junk, .junk, .junk, .junk], [.cells 23 [.int .i64 x5, .int .i64 x6, .int .i64 x7]]⟩
def T_weeks_Of_2025 (cp : FuncId → List AV → Option AV) (x0 : Int) (x1 : Int) (x2 : Int) (x3 : Int) (b4 : Bool) (x5 : Int) (x6 : Int) (x7 : Int) (r1012 : Int → Int → Int → Int → Int → Int → Int → Option AV) : Option AV :=
 (cond b4
 ((cp F_weeks_begin [.int .i64 (IntKind.i64.wrap ((IntKind.i64.wrap (x5 - 1)) + x3))]).bind fun r1 =>
 (AV.intK .i64 r1 fun i2 =>
 (cond (decide (x0 > i2))
 (r1012 x0 x1 (IntKind.i64.wrap ((IntKind.i64.wrap (x5 - 1)) + x3)) (IntKind.i64.wrap (x3 + 1)) x5 x6 x7)
 (r1012 x0 x1 x2 (IntKind.i64.wrap (x3 + 1)) x5 x6 x7))))
 ((cp F_weeks_begin [.int .i64 x2]).bind fun r3 =>
 (AV.intK .i64 r3 fun i4 =>
 (bnd (IntKind.i64.wrap ((IntKind.i64.wrap ((IntKind.i64.wrap (x0 - i4)) + 7)) - 1)) fun y5 =>
 (some (.tup [.int .i64 x2, .int .i64 (IntKind.i64.wrap (Int.tdiv y5 7)), .int .i64 x1, .int .i64 0]))))))
theorem K_weeks_Of_2025 (j : Jump) (n : Nat) (m1012 : Nat) (x0 : Int) (x1 : Int) (x2 : Int) (x3 : Int) (b4 : Bool) (x5 : Int) (x6 : Int) (x7 : Int) : enter (topEnv C (CP C n) n F_weeks_Of) (some j) (bodyOf C.P F_weeks_Of) (endOf C.P F_weeks_Of) [true, false, false, true, false, true, true, true, true, true] [m1012] (S_weeks_Of_2025 x0 x1 x2 x3 b4 x5 x6 x7) = T_weeks_Of_2025 (CP C n) x0 x1 x2 x3 b4 x5 x6 x7 (fun x0 x1 x2 x3 x4 x5 x6 => j [false, false, true, false, true, true, true, true, true] [m1012] (S_weeks_Of_1012 x0 x1 x2 x3 x4 x5 x6)) := by kernel_rfl
def J_weeks_Of_2025 (cp : FuncId → List AV → Option AV) (n : Nat) (r1012 : Int → Int → Int → Int → Int → Int → Int → Option AV) (x0 : Int) (x1 : Int) (x2 : Int) (x3 : Int) (b4 : Bool) (x5 : Int) (x6 : Int) (x7 : Int) : Option AV := T_weeks_Of_2025 cp x0 x1 x2 x3 b4 x5 x6 x7 r1012
theorem JE_weeks_Of_2025 (n : Nat) (m1012 : Nat) (r1012 : Int → Int → Int → Int → Int → Int → Int → Option AV) (h1012 : ∀ (x0 : Int) (x1 : Int) (x2 : Int) (x3 : Int) (x4 : Int) (x5 : Int) (x6 : Int), jT (topEnv C (CP C n) n F_weeks_Of) (bodyOf C.P F_weeks_Of) (endOf C.P F_weeks_Of) [false, false, true, false, true, true, true, true, true] [m1012] (S_weeks_Of_1012 x0 x1 x2 x3 x4 x5 x6) = r1012 x0 x1 x2 x3 x4 x5 x6) (x0 : Int) (x1 : Int) (x2 : Int) (x3 : Int) (b4 : Bool) (x5 : Int) (x6 : Int) (x7 : Int) : jT (topEnv C (CP C n) n F_weeks_Of) (bodyOf C.P F_weeks_Of) (endOf C.P F_weeks_Of) [true, false, false, true, false, true, true, true, true, true] [m1012] (S_weeks_Of_2025 x0 x1 x2 x3 b4 x5 x6 x7) = J_weeks_Of_2025 (CP C n) n r1012 x0 x1 x2 x3 b4 x5 x6 x7 :=
  (jT_eq _ _ _ _ _ _).trans ((K_weeks_Of_2025 _ n m1012 x0 x1 x2 x3 b4 x5 x6 x7).trans (congrArg (T_weeks_Of_2025 (CP C n) x0 x1 x2 x3 b4 x5 x6 x7) (funext fun x0 => (funext fun x1 => (funext fun x2 => (funext fun x3 => (funext fun x4 => (funext fun x5 => (funext fun x6 => h1012 x0 x1 x2 x3 x4 x5 x6)))))))))
def T_weeks_Of_1012 (cp : FuncId → List AV → Option AV) (x0 : Int) (x1 : Int) (x2 : Int) (x3 : Int) (x4 : Int) (x5 : Int) (x6 : Int) (j2025 : Int → Int → Int → Int → Bool → Int → Int → Int → Option AV) : Option AV :=
 (j2025 x0 x1 x2 x3 (decide (x3 < 3)) x4 x5 x6)
theorem K_weeks_Of_1012 (j : Jump) (n : Nat) (m1012 : Nat) (x0 : Int) (x1 : Int) (x2 : Int) (x3 : Int) (x4 : Int) (x5 : Int) (x6 : Int) : enter (topEnv C (CP C n) n F_weeks_Of) (some j) (bodyOf C.P F_weeks_Of) (endOf C.P F_weeks_Of) [false, false, true, false, true, true, true, true, true] [(m1012 + 1)] (S_weeks_Of_1012 x0 x1 x2 x3 x4 x5 x6) = T_weeks_Of_1012 (CP C n) x0 x1 x2 x3 x4 x5 x6 (fun x0 x1 x2 x3 b4 x5 x6 x7 => j [true, false, false, true, false, true, true, true, true, true] [m1012] (S_weeks_Of_2025 x0 x1 x2 x3 b4 x5 x6 x7)) := by kernel_rfl
def J_weeks_Of_1012 (cp : FuncId → List AV → Option AV) (n : Nat) : Nat → Int → Int → Int → Int → Int → Int → Int → Option AV
  | 0 => (fun x0 x1 x2 x3 x4 x5 x6 => none)
  | m + 1 => (fun x0 x1 x2 x3 x4 x5 x6 => T_weeks_Of_1012 cp x0 x1 x2 x3 x4 x5 x6 (J_weeks_Of_2025 cp n (J_weeks_Of_1012 cp n m)))
theorem Js_weeks_Of_1012 (cp : FuncId → List AV → Option AV) (n : Nat) (m : Nat) (x0 : Int) (x1 : Int) (x2 : Int) (x3 : Int) (x4 : Int) (x5 : Int) (x6 : Int) : J_weeks_Of_1012 cp n (m + 1) x0 x1 x2 x3 x4 x5 x6 = T_weeks_Of_1012 cp x0 x1 x2 x3 x4 x5 x6 (J_weeks_Of_2025 cp n (J_weeks_Of_1012 cp n m)) := of_eq_true (eq_self _)
theorem JE_weeks_Of_1012 (n : Nat) : ∀ (m : Nat) (x0 : Int) (x1 : Int) (x2 : Int) (x3 : Int) (x4 : Int) (x5 : Int) (x6 : Int), jT (topEnv C (CP C n) n F_weeks_Of) (bodyOf C.P F_weeks_Of) (endOf C.P F_weeks_Of) [false, false, true, false, true, true, true, true, true] [m] (S_weeks_Of_1012 x0 x1 x2 x3 x4 x5 x6) = J_weeks_Of_1012 (CP C n) n m x0 x1 x2 x3 x4 x5 x6
  | 0, x0, x1, x2, x3, x4, x5, x6 => (jT_eq _ _ _ _ _ _).trans (by kernel_rfl)
  | m + 1, x0, x1, x2, x3, x4, x5, x6 => (jT_eq _ _ _ _ _ _).trans ((K_weeks_Of_1012 _ n m x0 x1 x2 x3 x4 x5 x6).trans (congrArg (T_weeks_Of_1012 (CP C n) x0 x1 x2 x3 x4 x5 x6) (funext fun x0 => (funext fun x1 => (funext fun x2 => (funext fun x3 => (funext fun b4 => (funext fun x5 => (funext fun x6 => (funext fun x7 => (JE_weeks_Of_2025 n m (J_weeks_Of_1012 (CP C n) n m) (JE_weeks_Of_1012 n m)) x0 x1 x2 x3 b4 x5 x6 x7))))))))))
def T_weeks_Of_1 (cp : FuncId → List AV → Option AV) (a0_0 : Int) (a0_1 : Int) (a0_2 : Int) (j1012 : Int → Int → Int → Int → Int → Int → Int → Option AV) : Option AV :=
 ((cp F_civil_Days [.agg [.int .i64 a0_0, .int .i64 a0_1, .int .i64 a0_2]]).bind fun r1 =>
 (AV.tupK r1 fun l2 =>
 (consK l2 fun v3 l4 =>
 (AV.intK .i64 v3 fun i5 =>
 (consK l4 fun v6 l7 =>
 (AV.intK .i64 v6 fun i8 =>
 (nilK l7
 (cond (i8 != 0)
 (some (.tup [.int .i64 0, .int .i64 0, .int .i64 0, .int .i64 i8]))
 ((cp F_civil_Weekday [.int .i64 i5]).bind fun r9 =>
 (AV.intK .i64 r9 fun i10 =>
 (j1012 i5 i10 (IntKind.i64.wrap (a0_0 - 1)) 0 a0_0 a0_1 a0_2)))))))))))
theorem K_weeks_Of_1 (j : Jump) (n : Nat) (a0_0 : Int) (a0_1 : Int) (a0_2 : Int) : ex (topEnv C (CP C n) n F_weeks_Of) (some j) (bodyOf C.P F_weeks_Of) 1 [] [] (endOf C.P F_weeks_Of) (startOf C.P F_weeks_Of [.agg [.int .i64 a0_0, .int .i64 a0_1, .int .i64 a0_2]]) = T_weeks_Of_1 (CP C n) a0_0 a0_1 a0_2 (fun x0 x1 x2 x3 x4 x5 x6 => j [false, false, true, false, true, true, true, true, true] [(n + 300)] (S_weeks_Of_1012 x0 x1 x2 x3 x4 x5 x6)) := by kernel_rfl
def R_weeks_Of (cp : FuncId → List AV → Option AV) (n : Nat) (a0_0 : Int) (a0_1 : Int) (a0_2 : Int) : Option AV := T_weeks_Of_1 cp a0_0 a0_1 a0_2 (J_weeks_Of_1012 cp n (n + 300))
theorem eq_weeks_Of (n : Nat) (a0_0 : Int) (a0_1 : Int) (a0_2 : Int) : CP C (n + 1) F_weeks_Of [.agg [.int .i64 a0_0, .int .i64 a0_1, .int .i64 a0_2]] = R_weeks_Of (CP C n) n a0_0 a0_1 a0_2 :=
  (CP_pure C n F_weeks_Of _ (by kernel_rfl) (by kernel_rfl)).trans ((K_weeks_Of_1 _ n a0_0 a0_1 a0_2).trans (congrArg (T_weeks_Of_1 (CP C n) a0_0 a0_1 a0_2) (funext fun x0 => (funext fun x1 => (funext fun x2 => (funext fun x3 => (funext fun x4 => (funext fun x5 => (funext fun x6 => (JE_weeks_Of_1012 n (n + 300)) x0 x1 x2 x3 x4 x5 x6)))))))))
-- ref06_Leap
def R_ref06_Leap (cp : FuncId → List AV → Option AV) (_n : Nat) (a0 : Int) : Option AV :=
 (cond ((Int.tmod a0 4) == 0)
 (cond ((Int.tmod a0 100) != 0)
 (some (.bool true))
 (some (.bool ((Int.tmod a0 400) == 0))))
 (some (.bool false)))
theorem eq_ref06_Leap (n : Nat) (a0 : Int) : CP C (n + 1) F_ref06_Leap [.int .i64 a0] = R_ref06_Leap (CP C n) n a0 := by kernel_rfl
-- ref06_MonthDays
def R_ref06_MonthDays (cp : FuncId → List AV → Option AV) (_n : Nat) (a0 : Int) (a1 : Int) : Option AV :=
 (cond (a1 == 1)
 (some (.int .i64 31))
 (cond (a1 == 3)
 (some (.int .i64 31))
 (cond (a1 == 5)
 (some (.int .i64 31))
 (cond (a1 == 7)
 (some (.int .i64 31))
 (cond (a1 == 8)
 (some (.int .i64 31))
 (cond (a1 == 10)
 (some (.int .i64 31))
 (cond (a1 == 12)
 (some (.int .i64 31))
 (cond (a1 == 4)
 (some (.int .i64 30))
 (cond (a1 == 6)
 (some (.int .i64 30))
 (cond (a1 == 9)
 (some (.int .i64 30))
 (cond (a1 == 11)
 (some (.int .i64 30))
 (cond (a1 == 2)
 ((cp F_ref06_Leap [.int .i64 a0]).bind fun r1 =>
 (AV.boolK r1 fun b2 =>
 (cond b2
 (some (.int .i64 29))
 (some (.int .i64 28)))))
 (some (.int .i64 0))))))))))))))
theorem eq_ref06_MonthDays (n : Nat) (a0 : Int) (a1 : Int) : CP C (n + 1) F_ref06_MonthDays [.int .i64 a0, .int .i64 a1] = R_ref06_MonthDays (CP C n) n a0 a1 := by kernel_rfl
-- ref06_May
def R_ref06_May (cp : FuncId → List AV → Option AV) (_n : Nat) (a0_0 : Int) (a0_1 : Int) (a0_2 : Int) : Option AV :=
 (cond (decide (a0_2 ≥ 1))
 ((cp F_ref06_MonthDays [.int .i64 a0_0, .int .i64 a0_1]).bind fun r1 =>
 (AV.intK .i64 r1 fun i2 =>
 (some (.bool (decide (a0_2 ≤ i2))))))
 (some (.bool false)))
theorem eq_ref06_May (n : Nat) (a0_0 : Int) (a0_1 : Int) (a0_2 : Int) : CP C (n + 1) F_ref06_May [.agg [.int .i64 a0_0, .int .i64 a0_1, .int .i64 a0_2]] = R_ref06_May (CP C n) n a0_0 a0_1 a0_2 := by kernel_rfl
-- ref06_Check
def R_ref06_Check (cp : FuncId → List AV → Option AV) (_n : Nat) (a0_0 : Int) (a0_1 : Int) (a0_2 : Int) : Option AV :=
 ((cp F_ref06_May [.agg [.int .i64 a0_0, .int .i64 a0_1, .int .i64 a0_2]]).bind fun r1 =>
 (AV.boolK r1 fun b2 =>
 (cond (!b2)
 (some (.int .i64 7))
 (cond (decide (a0_0 < (-9999)))
 (some (.int .i64 8))
 (cond (decide (a0_0 > 9999))
 (some (.int .i64 8))
 (some (.int .i64 0)))))))
theorem eq_ref06_Check (n : Nat) (a0_0 : Int) (a0_1 : Int) (a0_2 : Int) : CP C (n + 1) F_ref06_Check [.agg [.int .i64 a0_0, .int .i64 a0_1, .int .i64 a0_2]] = R_ref06_Check (CP C n) n a0_0 a0_1 a0_2 := by kernel_rfl
-- ref07_like
def R_ref07_like (cp : FuncId → List AV → Option AV) (_n : Nat) (a0 : Int) : Option AV :=
 (cond (decide ((Int.tmod a0 400) < 0))
 (bnd (IntKind.i64.wrap (2000 + (IntKind.i64.wrap ((Int.tmod a0 400) + 400)))) fun y1 =>
 (some (.int .i64 y1)))
 (some (.int .i64 (IntKind.i64.wrap (2000 + (Int.tmod a0 400))))))
theorem eq_ref07_like (n : Nat) (a0 : Int) : CP C (n + 1) F_ref07_like [.int .i64 a0] = R_ref07_like (CP C n) n a0 := by kernel_rfl
-- ref06_YearDays
def R_ref06_YearDays (cp : FuncId → List AV → Option AV) (_n : Nat) (a0 : Int) : Option AV :=
 ((cp F_ref06_Leap [.int .i64 a0]).bind fun r1 =>
 (AV.boolK r1 fun b2 =>
 (cond b2
 (some (.int .i64 366))
 (some (.int .i64 365)))))
theorem eq_ref06_YearDays (n : Nat) (a0 : Int) : CP C (n + 1) F_ref06_YearDays [.int .i64 a0] = R_ref06_YearDays (CP C n) n a0 := by kernel_rfl
-- ref06_start
def S_ref06_start_120 (x0 : Int) (x1 : Int) (x2 : Int) : St := ⟨[.int .i64 x0, .junk, .junk, .int .i64 x1, .int .i64 x2, .junk, .junk, .junk, .junk, .junk, .junk, .junk, .junk, .junk, .junk, .junk, .junk, .junk, .junk, .junk, .junk, .junk, .junk, .junk, .junk, .junk, .junk, .junk, .junk, .junk], []⟩
def S_ref06_start_248 (x0 : Int) (x1 : Int) (x2 : Int) : St := ⟨[.int .i64 x0, .junk, .junk, .int .i64 x1, .int .i64 x2, .junk, .junk, .junk, .junk, .junk, .junk, .junk, .junk, .junk, .junk, .junk, .junk, .junk, .junk, .junk, .junk, .junk, .junk, .junk, .junk, .junk, .junk, .junk, .junk, .junk], []⟩
def S_ref06_start_504 (x0 : Int) (x1 : Int) (x2 : Int) : St := ⟨[.int .i64 x0, .junk, .junk, .int .i64 x1, .int .i64 x2, .junk, .junk, .junk, .junk, .junk, .junk, .junk, .junk, .junk, .junk, .junk, .junk, .junk, .junk, .junk, .junk, .junk, .junk, .junk, .junk, .junk, .junk, .junk, .junk, .junk], []⟩
def T_ref06_start_504 (cp : FuncId → List AV → Option AV) (x0 : Int) (x1 : Int) (x2 : Int) (r504 : Int → Int → Int → Option AV) : Option AV :=
 (cond (decide (x2 < x0))
 ((cp F_ref06_YearDays [.int .i64 x2]).bind fun r1 =>
 (AV.intK .i64 r1 fun i2 =>
 (r504 x0 (IntKind.i64.wrap (x1 + i2)) (IntKind.i64.wrap (x2 + 1)))))
 (some (.int .i64 x1)))
theorem K_ref06_start_504 (j : Jump) (n : Nat) (m504 : Nat) (x0 : Int) (x1 : Int) (x2 : Int) : enter (topEnv C (CP C n) n F_ref06_start) (some j) (bodyOf C.P F_ref06_start) (endOf C.P F_ref06_start) [false, false, false, true, true, true, true, true] [(m504 + 1)] (S_ref06_start_504 x0 x1 x2) = T_ref06_start_504 (CP C n) x0 x1 x2 (fun x0 x1 x2 => j [false, false, false, true, true, true, true, true] [m504] (S_ref06_start_504 x0 x1 x2)) := by kernel_rfl
def J_ref06_start_504 (cp : FuncId → List AV → Option AV) (n : Nat) : Nat → Int → Int → Int → Option AV
  | 0 => (fun x0 x1 x2 => none)
  | m + 1 => (fun x0 x1 x2 => T_ref06_start_504 cp x0 x1 x2 (J_ref06_start_504 cp n m))
theorem Js_ref06_start_504 (cp : FuncId → List AV → Option AV) (n : Nat) (m : Nat) (x0 : Int) (x1 : Int) (x2 : Int) : J_ref06_start_504 cp n (m + 1) x0 x1 x2 = T_ref06_start_504 cp x0 x1 x2 (J_ref06_start_504 cp n m) := of_eq_true (eq_self _)
theorem JE_ref06_start_504 (n : Nat) : ∀ (m : Nat) (x0 : Int) (x1 : Int) (x2 : Int), jT (topEnv C (CP C n) n F_ref06_start) (bodyOf C.P F_ref06_start) (endOf C.P F_ref06_start) [false, false, false, true, true, true, true, true] [m] (S_ref06_start_504 x0 x1 x2) = J_ref06_start_504 (CP C n) n m x0 x1 x2
  | 0, x0, x1, x2 => (jT_eq _ _ _ _ _ _).trans (by kernel_rfl)
  | m + 1, x0, x1, x2 => (jT_eq _ _ _ _ _ _).trans ((K_ref06_start_504 _ n m x0 x1 x2).trans (congrArg (T_ref06_start_504 (CP C n) x0 x1 x2) (funext fun x0 => (funext fun x1 => (funext fun x2 => (JE_ref06_start_504 n m) x0 x1 x2)))))
def T_ref06_start_248 (cp : FuncId → List AV → Option AV) (x0 : Int) (x1 : Int) (x2 : Int) (r248 : Int → Int → Int → Option AV) (j504 : Int → Int → Int → Option AV) : Option AV :=
 (cond (decide (x2 > x0))
 (r248 x0 (IntKind.i64.wrap (x1 - 146097)) (IntKind.i64.wrap (x2 - 400)))
 (j504 x0 x1 x2))
theorem K_ref06_start_248 (j : Jump) (n : Nat) (m248 : Nat) (x0 : Int) (x1 : Int) (x2 : Int) : enter (topEnv C (CP C n) n F_ref06_start) (some j) (bodyOf C.P F_ref06_start) (endOf C.P F_ref06_start) [false, false, false, true, true, true, true] [(m248 + 1)] (S_ref06_start_248 x0 x1 x2) = T_ref06_start_248 (CP C n) x0 x1 x2 (fun x0 x1 x2 => j [false, false, false, true, true, true, true] [m248] (S_ref06_start_248 x0 x1 x2)) (fun x0 x1 x2 => j [false, false, false, true, true, true, true, true] [(n + 300)] (S_ref06_start_504 x0 x1 x2)) := by kernel_rfl
def J_ref06_start_248 (cp : FuncId → List AV → Option AV) (n : Nat) : Nat → Int → Int → Int → Option AV
  | 0 => (fun x0 x1 x2 => none)
  | m + 1 => (fun x0 x1 x2 => T_ref06_start_248 cp x0 x1 x2 (J_ref06_start_248 cp n m) (J_ref06_start_504 cp n (n + 300)))
theorem Js_ref06_start_248 (cp : FuncId → List AV → Option AV) (n : Nat) (m : Nat) (x0 : Int) (x1 : Int) (x2 : Int) : J_ref06_start_248 cp n (m + 1) x0 x1 x2 = T_ref06_start_248 cp x0 x1 x2 (J_ref06_start_248 cp n m) (J_ref06_start_504 cp n (n + 300)) := of_eq_true (eq_self _)
theorem JE_ref06_start_248 (n : Nat) : ∀ (m : Nat) (x0 : Int) (x1 : Int) (x2 : Int), jT (topEnv C (CP C n) n F_ref06_start) (bodyOf C.P F_ref06_start) (endOf C.P F_ref06_start) [false, false, false, true, true, true, true] [m] (S_ref06_start_248 x0 x1 x2) = J_ref06_start_248 (CP C n) n m x0 x1 x2
  | 0, x0, x1, x2 => (jT_eq _ _ _ _ _ _).trans (by kernel_rfl)
  | m + 1, x0, x1, x2 => (jT_eq _ _ _ _ _ _).trans ((K_ref06_start_248 _ n m x0 x1 x2).trans (congr (congrArg (T_ref06_start_248 (CP C n) x0 x1 x2) (funext fun x0 => (funext fun x1 => (funext fun x2 => (JE_ref06_start_248 n m) x0 x1 x2)))) (funext fun x0 => (funext fun x1 => (funext fun x2 => (JE_ref06_start_504 n (n + 300)) x0 x1 x2)))))
def T_ref06_start_120 (cp : FuncId → List AV → Option AV) (x0 : Int) (x1 : Int) (x2 : Int) (r120 : Int → Int → Int → Option AV) (j248 : Int → Int → Int → Option AV) : Option AV :=
 (cond (decide ((IntKind.i64.wrap (x2 + 400)) ≤ x0))
 (r120 x0 (IntKind.i64.wrap (x1 + 146097)) (IntKind.i64.wrap (x2 + 400)))
 (j248 x0 x1 x2))
theorem K_ref06_start_120 (j : Jump) (n : Nat) (m120 : Nat) (x0 : Int) (x1 : Int) (x2 : Int) : enter (topEnv C (CP C n) n F_ref06_start) (some j) (bodyOf C.P F_ref06_start) (endOf C.P F_ref06_start) [false, false, false, true, true, true] [(m120 + 1)] (S_ref06_start_120 x0 x1 x2) = T_ref06_start_120 (CP C n) x0 x1 x2 (fun x0 x1 x2 => j [false, false, false, true, true, true] [m120] (S_ref06_start_120 x0 x1 x2)) (fun x0 x1 x2 => j [false, false, false, true, true, true, true] [(n + 300)] (S_ref06_start_248 x0 x1 x2)) := by kernel_rfl
def J_ref06_start_120 (cp : FuncId → List AV → Option AV) (n : Nat) : Nat → Int → Int → Int → Option AV
  | 0 => (fun x0 x1 x2 => none)
  | m + 1 => (fun x0 x1 x2 => T_ref06_start_120 cp x0 x1 x2 (J_ref06_start_120 cp n m) (J_ref06_start_248 cp n (n + 300)))
theorem Js_ref06_start_120 (cp : FuncId → List AV → Option AV) (n : Nat) (m : Nat) (x0 : Int) (x1 : Int) (x2 : Int) : J_ref06_start_120 cp n (m + 1) x0 x1 x2 = T_ref06_start_120 cp x0 x1 x2 (J_ref06_start_120 cp n m) (J_ref06_start_248 cp n (n + 300)) := of_eq_true (eq_self _)
theorem JE_ref06_start_120 (n : Nat) : ∀ (m : Nat) (x0 : Int) (x1 : Int) (x2 : Int), jT (topEnv C (CP C n) n F_ref06_start) (bodyOf C.P F_ref06_start) (endOf C.P F_ref06_start) [false, false, false, true, true, true] [m] (S_ref06_start_120 x0 x1 x2) = J_ref06_start_120 (CP C n) n m x0 x1 x2
  | 0, x0, x1, x2 => (jT_eq _ _ _ _ _ _).trans (by kernel_rfl)
  | m + 1, x0, x1, x2 => (jT_eq _ _ _ _ _ _).trans ((K_ref06_start_120 _ n m x0 x1 x2).trans (congr (congrArg (T_ref06_start_120 (CP C n) x0 x1 x2) (funext fun x0 => (funext fun x1 => (funext fun x2 => (JE_ref06_start_120 n m) x0 x1 x2)))) (funext fun x0 => (funext fun x1 => (funext fun x2 => (JE_ref06_start_248 n (n + 300)) x0 x1 x2)))))
def T_ref06_start_1 (cp : FuncId → List AV → Option AV) (a0 : Int) (j120 : Int → Int → Int → Option AV) : Option AV :=
 (j120 a0 10957 2000)
theorem K_ref06_start_1 (j : Jump) (n : Nat) (a0 : Int) : ex (topEnv C (CP C n) n F_ref06_start) (some j) (bodyOf C.P F_ref06_start) 1 [] [] (endOf C.P F_ref06_start) (startOf C.P F_ref06_start [.int .i64 a0]) = T_ref06_start_1 (CP C n) a0 (fun x0 x1 x2 => j [false, false, false, true, true, true] [(n + 300)] (S_ref06_start_120 x0 x1 x2)) := by kernel_rfl
def R_ref06_start (cp : FuncId → List AV → Option AV) (n : Nat) (a0 : Int) : Option AV := T_ref06_start_1 cp a0 (J_ref06_start_120 cp n (n + 300))
theorem eq_ref06_start (n : Nat) (a0 : Int) : CP C (n + 1) F_ref06_start [.int .i64 a0] = R_ref06_start (CP C n) n a0 :=
  (CP_pure C n F_ref06_start _ (by kernel_rfl) (by kernel_rfl)).trans ((K_ref06_start_1 _ n a0).trans (congrArg (T_ref06_start_1 (CP C n) a0) (funext fun x0 => (funext fun x1 => (funext fun x2 => (JE_ref06_start_120 n (n + 300)) x0 x1 x2)))))
-- ref06_Number
def S_ref06_Number_116 (x0 : Int) (x1 : Int) (x2 : Int) (x3 : Int) (x4 : Int) : St := ⟨[.junk, .ptr (some (0, 0)), .junk, .int .i64 x0, .int .i64 x1, .junk, .junk, .junk, .junk, .junk, .junk, .junk, .junk, .junk, .junk, .junk, .junk, .junk, .junk, .junk, .junk, .junk, .junk, .junk, .junk], [.cells 23 [.int .i64 x2, .int .i64 x3, .int .i64 x4]]⟩
def T_ref06_Number_116 (cp : FuncId → List AV → Option AV) (x0 : Int) (x1 : Int) (x2 : Int) (x3 : Int) (x4 : Int) (r116 : Int → Int → Int → Int → Int → Option AV) : Option AV :=
 (cond (decide (x1 < x3))
 ((cp F_ref06_MonthDays [.int .i64 x2, .int .i64 x1]).bind fun r1 =>
 (AV.intK .i64 r1 fun i2 =>
 (r116 (IntKind.i64.wrap (x0 + i2)) (IntKind.i64.wrap (x1 + 1)) x2 x3 x4)))
 (some (.int .i64 (IntKind.i64.wrap ((IntKind.i64.wrap (x0 + x4)) - 1)))))
theorem K_ref06_Number_116 (j : Jump) (n : Nat) (m116 : Nat) (x0 : Int) (x1 : Int) (x2 : Int) (x3 : Int) (x4 : Int) : enter (topEnv C (CP C n) n F_ref06_Number) (some j) (bodyOf C.P F_ref06_Number) (endOf C.P F_ref06_Number) [false, false, true, false, true, true] [(m116 + 1)] (S_ref06_Number_116 x0 x1 x2 x3 x4) = T_ref06_Number_116 (CP C n) x0 x1 x2 x3 x4 (fun x0 x1 x2 x3 x4 => j [false, false, true, false, true, true] [m116] (S_ref06_Number_116 x0 x1 x2 x3 x4)) := by kernel_rfl
def J_ref06_Number_116 (cp : FuncId → List AV → Option AV) (n : Nat) : Nat → Int → Int → Int → Int → Int → Option AV
  | 0 => (fun x0 x1 x2 x3 x4 => none)
  | m + 1 => (fun x0 x1 x2 x3 x4 => T_ref06_Number_116 cp x0 x1 x2 x3 x4 (J_ref06_Number_116 cp n m))
theorem Js_ref06_Number_116 (cp : FuncId → List AV → Option AV) (n : Nat) (m : Nat) (x0 : Int) (x1 : Int) (x2 : Int) (x3 : Int) (x4 : Int) : J_ref06_Number_116 cp n (m + 1) x0 x1 x2 x3 x4 = T_ref06_Number_116 cp x0 x1 x2 x3 x4 (J_ref06_Number_116 cp n m) := of_eq_true (eq_self _)
theorem JE_ref06_Number_116 (n : Nat) : ∀ (m : Nat) (x0 : Int) (x1 : Int) (x2 : Int) (x3 : Int) (x4 : Int), jT (topEnv C (CP C n) n F_ref06_Number) (bodyOf C.P F_ref06_Number) (endOf C.P F_ref06_Number) [false, false, true, false, true, true] [m] (S_ref06_Number_116 x0 x1 x2 x3 x4) = J_ref06_Number_116 (CP C n) n m x0 x1 x2 x3 x4
  | 0, x0, x1, x2, x3, x4 => (jT_eq _ _ _ _ _ _).trans (by kernel_rfl)
  | m + 1, x0, x1, x2, x3, x4 => (jT_eq _ _ _ _ _ _).trans ((K_ref06_Number_116 _ n m x0 x1 x2 x3 x4).trans (congrArg (T_ref06_Number_116 (CP C n) x0 x1 x2 x3 x4) (funext fun x0 => (funext fun x1 => (funext fun x2 => (funext fun x3 => (funext fun x4 => (JE_ref06_Number_116 n m) x0 x1 x2 x3 x4)))))))
def T_ref06_Number_1 (cp : FuncId → List AV → Option AV) (a0_0 : Int) (a0_1 : Int) (a0_2 : Int) (j116 : Int → Int → Int → Int → Int → Option AV) : Option AV :=
 ((cp F_ref06_start [.int .i64 a0_0]).bind fun r1 =>
 (AV.intK .i64 r1 fun i2 =>
 (j116 i2 1 a0_0 a0_1 a0_2)))
theorem K_ref06_Number_1 (j : Jump) (n : Nat) (a0_0 : Int) (a0_1 : Int) (a0_2 : Int) : ex (topEnv C (CP C n) n F_ref06_Number) (some j) (bodyOf C.P F_ref06_Number) 1 [] [] (endOf C.P F_ref06_Number) (startOf C.P F_ref06_Number [.agg [.int .i64 a0_0, .int .i64 a0_1, .int .i64 a0_2]]) = T_ref06_Number_1 (CP C n) a0_0 a0_1 a0_2 (fun x0 x1 x2 x3 x4 => j [false, false, true, false, true, true] [(n + 300)] (S_ref06_Number_116 x0 x1 x2 x3 x4)) := by kernel_rfl
def R_ref06_Number (cp : FuncId → List AV → Option AV) (n : Nat) (a0_0 : Int) (a0_1 : Int) (a0_2 : Int) : Option AV := T_ref06_Number_1 cp a0_0 a0_1 a0_2 (J_ref06_Number_116 cp n (n + 300))
theorem eq_ref06_Number (n : Nat) (a0_0 : Int) (a0_1 : Int) (a0_2 : Int) : CP C (n + 1) F_ref06_Number [.agg [.int .i64 a0_0, .int .i64 a0_1, .int .i64 a0_2]] = R_ref06_Number (CP C n) n a0_0 a0_1 a0_2 :=
  (CP_pure C n F_ref06_Number _ (by kernel_rfl) (by kernel_rfl)).trans ((K_ref06_Number_1 _ n a0_0 a0_1 a0_2).trans (congrArg (T_ref06_Number_1 (CP C n) a0_0 a0_1 a0_2) (funext fun x0 => (funext fun x1 => (funext fun x2 => (funext fun x3 => (funext fun x4 => (JE_ref06_Number_116 n (n + 300)) x0 x1 x2 x3 x4)))))))
-- ref06_Weekday
def R_ref06_Weekday (cp : FuncId → List AV → Option AV) (_n : Nat) (a0 : Int) : Option AV :=
 (cond (decide ((Int.tmod a0 7) < 0))
 (bnd (IntKind.i64.wrap ((IntKind.i64.wrap ((Int.tmod a0 7) + 7)) + 3)) fun y1 =>
 (some (.int .i64 (IntKind.i64.wrap ((Int.tmod y1 7) + 1)))))
 (bnd (IntKind.i64.wrap ((Int.tmod (IntKind.i64.wrap ((Int.tmod a0 7) + 3)) 7) + 1)) fun y2 =>
 (some (.int .i64 y2))))
theorem eq_ref06_Weekday (n : Nat) (a0 : Int) : CP C (n + 1) F_ref06_Weekday [.int .i64 a0] = R_ref06_Weekday (CP C n) n a0 := by kernel_rfl
-- ref07_one
def R_ref07_one (cp : FuncId → List AV → Option AV) (_n : Nat) (a0 : Int) : Option AV :=
 ((cp F_ref06_Number [.agg [.int .i64 a0, .int .i64 1, .int .i64 4]]).bind fun r1 =>
 (AV.intK .i64 r1 fun i2 =>
 ((cp F_ref06_Weekday [.int .i64 i2]).bind fun r3 =>
 (AV.intK .i64 r3 fun i4 =>
 (some (.int .i64 (IntKind.i64.wrap ((IntKind.i64.wrap (i2 - i4)) + 1))))))))
theorem eq_ref07_one (n : Nat) (a0 : Int) : CP C (n + 1) F_ref07_one [.int .i64 a0] = R_ref07_one (CP C n) n a0 := by kernel_rfl
-- ref07_Of
def S_ref07_Of_508 (x0 : Int) (x1 : Int) (x2 : Int) (x3 : Int) (x4 : Int) (x5 : Int) : St := ⟨[.junk, .ptr (some (0, 0)), .junk, .junk, .junk, .junk, .junk, .ptr (some (1, 0)), .int .i64 x0, .int .i64 x1, .junk, .junk, .junk, .junk, .junk, .junk, .junk, .junk, .junk, .junk, .junk, .junk, .junk, .junk, .junk, .junk, .junk, .junk, .junk, .junk, .junk, .junk, .junk, .junk, .junk, .junk, .junk, .junk, .junk, .junk, .junk, .junk, .junk, .junk, .junk, .junk], [.cells 23 [.int .i64 x2, .int .i64 x3, .int .i64 x4], .cells 23 [.int .i64 x5, .int .i64 x3, .int .i64 x4]]⟩
def T_ref07_Of_508 (cp : FuncId → List AV → Option AV) (x0 : Int) (x1 : Int) (x2 : Int) (x3 : Int) (x4 : Int) (x5 : Int) (r508 : Int → Int → Int → Int → Int → Int → Option AV) : Option AV :=
 ((cp F_ref07_one [.int .i64 x1]).bind fun r1 =>
 (AV.intK .i64 r1 fun i2 =>
 (cond (decide (x0 ≥ i2))
 ((cp F_ref07_one [.int .i64 x1]).bind fun r3 =>
 (AV.intK .i64 r3 fun i4 =>
 (bnd (IntKind.i64.wrap ((IntKind.i64.wrap (Int.tdiv (IntKind.i64.wrap (x0 - i4)) 7)) + 1)) fun y5 =>
 ((cp F_ref06_Weekday [.int .i64 x0]).bind fun r6 =>
 (AV.intK .i64 r6 fun i7 =>
 (some (.tup [.int .i64 (IntKind.i64.wrap ((IntKind.i64.wrap (x2 + x1)) - x5)), .int .i64 y5, .int .i64 i7, .int .i64 0])))))))
 (r508 x0 (IntKind.i64.wrap (x1 - 1)) x2 x3 x4 x5))))
theorem K_ref07_Of_508 (j : Jump) (n : Nat) (m508 : Nat) (x0 : Int) (x1 : Int) (x2 : Int) (x3 : Int) (x4 : Int) (x5 : Int) : enter (topEnv C (CP C n) n F_ref07_Of) (some j) (bodyOf C.P F_ref07_Of) (endOf C.P F_ref07_Of) [false, false, true, true, true, true, true, true] [(m508 + 1)] (S_ref07_Of_508 x0 x1 x2 x3 x4 x5) = T_ref07_Of_508 (CP C n) x0 x1 x2 x3 x4 x5 (fun x0 x1 x2 x3 x4 x5 => j [false, false, true, true, true, true, true, true] [m508] (S_ref07_Of_508 x0 x1 x2 x3 x4 x5)) := by kernel_rfl
def J_ref07_Of_508 (cp : FuncId → List AV → Option AV) (n : Nat) : Nat → Int → Int → Int → Int → Int → Int → Option AV
  | 0 => (fun x0 x1 x2 x3 x4 x5 => none)
  | m + 1 => (fun x0 x1 x2 x3 x4 x5 => T_ref07_Of_508 cp x0 x1 x2 x3 x4 x5 (J_ref07_Of_508 cp n m))
theorem Js_ref07_Of_508 (cp : FuncId → List AV → Option AV) (n : Nat) (m : Nat) (x0 : Int) (x1 : Int) (x2 : Int) (x3 : Int) (x4 : Int) (x5 : Int) : J_ref07_Of_508 cp n (m + 1) x0 x1 x2 x3 x4 x5 = T_ref07_Of_508 cp x0 x1 x2 x3 x4 x5 (J_ref07_Of_508 cp n m) := of_eq_true (eq_self _)
theorem JE_ref07_Of_508 (n : Nat) : ∀ (m : Nat) (x0 : Int) (x1 : Int) (x2 : Int) (x3 : Int) (x4 : Int) (x5 : Int), jT (topEnv C (CP C n) n F_ref07_Of) (bodyOf C.P F_ref07_Of) (endOf C.P F_ref07_Of) [false, false, true, true, true, true, true, true] [m] (S_ref07_Of_508 x0 x1 x2 x3 x4 x5) = J_ref07_Of_508 (CP C n) n m x0 x1 x2 x3 x4 x5
  | 0, x0, x1, x2, x3, x4, x5 => (jT_eq _ _ _ _ _ _).trans (by kernel_rfl)
  | m + 1, x0, x1, x2, x3, x4, x5 => (jT_eq _ _ _ _ _ _).trans ((K_ref07_Of_508 _ n m x0 x1 x2 x3 x4 x5).trans (congrArg (T_ref07_Of_508 (CP C n) x0 x1 x2 x3 x4 x5) (funext fun x0 => (funext fun x1 => (funext fun x2 => (funext fun x3 => (funext fun x4 => (funext fun x5 => (JE_ref07_Of_508 n m) x0 x1 x2 x3 x4 x5))))))))
def T_ref07_Of_1 (cp : FuncId → List AV → Option AV) (a0_0 : Int) (a0_1 : Int) (a0_2 : Int) (j508 : Int → Int → Int → Int → Int → Int → Option AV) : Option AV :=
 ((cp F_ref06_Check [.agg [.int .i64 a0_0, .int .i64 a0_1, .int .i64 a0_2]]).bind fun r1 =>
 (AV.intK .i64 r1 fun i2 =>
 (cond (i2 != 0)
 (some (.tup [.int .i64 0, .int .i64 0, .int .i64 0, .int .i64 i2]))
 ((cp F_ref07_like [.int .i64 a0_0]).bind fun r3 =>
 (AV.intK .i64 r3 fun i4 =>
 ((cp F_ref06_Number [.agg [.int .i64 i4, .int .i64 a0_1, .int .i64 a0_2]]).bind fun r5 =>
 (AV.intK .i64 r5 fun i6 =>
 (j508 i6 (IntKind.i64.wrap (i4 + 1)) a0_0 a0_1 a0_2 i4))))))))
theorem K_ref07_Of_1 (j : Jump) (n : Nat) (a0_0 : Int) (a0_1 : Int) (a0_2 : Int) : ex (topEnv C (CP C n) n F_ref07_Of) (some j) (bodyOf C.P F_ref07_Of) 1 [] [] (endOf C.P F_ref07_Of) (startOf C.P F_ref07_Of [.agg [.int .i64 a0_0, .int .i64 a0_1, .int .i64 a0_2]]) = T_ref07_Of_1 (CP C n) a0_0 a0_1 a0_2 (fun x0 x1 x2 x3 x4 x5 => j [false, false, true, true, true, true, true, true] [(n + 300)] (S_ref07_Of_508 x0 x1 x2 x3 x4 x5)) := by kernel_rfl
def R_ref07_Of (cp : FuncId → List AV → Option AV) (n : Nat) (a0_0 : Int) (a0_1 : Int) (a0_2 : Int) : Option AV := T_ref07_Of_1 cp a0_0 a0_1 a0_2 (J_ref07_Of_508 cp n (n + 300))
theorem eq_ref07_Of (n : Nat) (a0_0 : Int) (a0_1 : Int) (a0_2 : Int) : CP C (n + 1) F_ref07_Of [.agg [.int .i64 a0_0, .int .i64 a0_1, .int .i64 a0_2]] = R_ref07_Of (CP C n) n a0_0 a0_1 a0_2 :=
  (CP_pure C n F_ref07_Of _ (by kernel_rfl) (by kernel_rfl)).trans ((K_ref07_Of_1 _ n a0_0 a0_1 a0_2).trans (congrArg (T_ref07_Of_1 (CP C n) a0_0 a0_1 a0_2) (funext fun x0 => (funext fun x1 => (funext fun x2 => (funext fun x3 => (funext fun x4 => (funext fun x5 => (JE_ref07_Of_508 n (n + 300)) x0 x1 x2 x3 x4 x5))))))))
-- weeks_first
def R_weeks_first (cp : FuncId → List AV → Option AV) (_n : Nat) (a0 : Int) : Option AV :=
 (cond (decide ((Int.tmod a0 400) < 0))
 (bnd (IntKind.i64.wrap (2000 + (IntKind.i64.wrap ((Int.tmod a0 400) + 400)))) fun y1 =>
 ((cp F_civil_Number [.int .i64 y1, .int .i64 1, .int .i64 1]).bind fun r2 =>
 (AV.intK .i64 r2 fun i3 =>
 ((cp F_civil_Weekday [.int .i64 i3]).bind fun r4 =>
 (AV.intK .i64 r4 fun i5 =>
 (some (.int .i64 i5)))))))
 ((cp F_civil_Number [.int .i64 (IntKind.i64.wrap (2000 + (Int.tmod a0 400))), .int .i64 1, .int .i64 1]).bind fun r6 =>
 (AV.intK .i64 r6 fun i7 =>
 ((cp F_civil_Weekday [.int .i64 i7]).bind fun r8 =>
 (AV.intK .i64 r8 fun i9 =>
 (some (.int .i64 i9)))))))
theorem eq_weeks_first (n : Nat) (a0 : Int) : CP C (n + 1) F_weeks_first [.int .i64 a0] = R_weeks_first (CP C n) n a0 := by kernel_rfl
-- weeks_Weeks
def R_weeks_Weeks (cp : FuncId → List AV → Option AV) (_n : Nat) (a0 : Int) : Option AV :=
 ((cp F_weeks_first [.int .i64 a0]).bind fun r1 =>
 (AV.intK .i64 r1 fun i2 =>
 (cond (i2 == 4)
 (some (.int .i64 53))
 (cond (i2 == 3)
 ((cp F_civil_Leap [.int .i64 a0]).bind fun r3 =>
 (AV.boolK r3 fun b4 =>
 (cond b4
 (some (.int .i64 53))
 (some (.int .i64 52)))))
 (some (.int .i64 52))))))
theorem eq_weeks_Weeks (n : Nat) (a0 : Int) : CP C (n + 1) F_weeks_Weeks [.int .i64 a0] = R_weeks_Weeks (CP C n) n a0 := by kernel_rfl
-- civil_DateOf
def R_civil_DateOf (cp : FuncId → List AV → Option AV) (_n : Nat) (a0 : Int) : Option AV :=
 (cond (decide (a0 < (-4371587)))
 (some (.tup [.agg [.int .i64 0, .int .i64 0, .int .i64 0], .int .i64 8]))
 (cond (decide (a0 > 2932896))
 (some (.tup [.agg [.int .i64 0, .int .i64 0, .int .i64 0], .int .i64 8]))
 ((cp F_civil_floor [.int .i64 (IntKind.i64.wrap (a0 + 719468)), .int .i64 146097]).bind fun r1 =>
 (AV.tupK r1 fun l2 =>
 (consK l2 fun v3 l4 =>
 (AV.intK .i64 v3 fun i5 =>
 (consK l4 fun v6 l7 =>
 (AV.intK .i64 v6 fun i8 =>
 (nilK l7
 (bnd (if 3 < (IntKind.i64.wrap (Int.tdiv i8 36524)) then 3 else (IntKind.i64.wrap (Int.tdiv i8 36524))) fun y9 =>
 (bnd (IntKind.i64.wrap (Int.tdiv (IntKind.i64.wrap (i8 - (IntKind.i64.wrap (y9 * 36524)))) 1461)) fun y10 =>
 (bnd (IntKind.i64.wrap ((IntKind.i64.wrap (i8 - (IntKind.i64.wrap (y9 * 36524)))) - (IntKind.i64.wrap (y10 * 1461)))) fun y11 =>
 (bnd (if 3 < (IntKind.i64.wrap (Int.tdiv y11 365)) then 3 else (IntKind.i64.wrap (Int.tdiv y11 365))) fun y12 =>
 (bnd (IntKind.i64.wrap (5 * (IntKind.i64.wrap (y11 - (IntKind.i64.wrap (y12 * 365)))))) fun y13 =>
 (bnd (IntKind.i64.wrap (Int.tdiv (IntKind.i64.wrap (y13 + 2)) 153)) fun y14 =>
 (bnd (IntKind.i64.wrap (Int.tdiv (IntKind.i64.wrap ((IntKind.i64.wrap (153 * y14)) + 2)) 5)) fun y15 =>
 (bnd (IntKind.i64.wrap ((IntKind.i64.wrap (y11 - (IntKind.i64.wrap (y12 * 365)))) - y15)) fun y16 =>
 (bnd (IntKind.i64.wrap ((IntKind.i64.wrap (400 * i5)) + (IntKind.i64.wrap (100 * y9)))) fun y17 =>
 (bnd (IntKind.i64.wrap ((IntKind.i64.wrap (y17 + (IntKind.i64.wrap (4 * y10)))) + y12)) fun y18 =>
 (cond (decide ((IntKind.i64.wrap (y14 + 3)) > 12))
 (some (.tup [.agg [.int .i64 (IntKind.i64.wrap (y18 + 1)), .int .i64 (IntKind.i64.wrap ((IntKind.i64.wrap (y14 + 3)) - 12)), .int .i64 (IntKind.i64.wrap (y16 + 1))], .int .i64 0]))
 (some (.tup [.agg [.int .i64 y18, .int .i64 (IntKind.i64.wrap (y14 + 3)), .int .i64 (IntKind.i64.wrap (y16 + 1))], .int .i64 0]))))))))))))))))))))))
theorem eq_civil_DateOf (n : Nat) (a0 : Int) : CP C (n + 1) F_civil_DateOf [.int .i64 a0] = R_civil_DateOf (CP C n) n a0 := by kernel_rfl
-- weeks_Date
def R_weeks_Date (cp : FuncId → List AV → Option AV) (_n : Nat) (a0 : Int) (a1 : Int) (a2 : Int) : Option AV :=
 (cond (decide (a1 < 1))
 (some (.tup [.agg [.int .i64 0, .int .i64 0, .int .i64 0], .int .i64 7]))
 ((cp F_weeks_Weeks [.int .i64 a0]).bind fun r1 =>
 (AV.intK .i64 r1 fun i2 =>
 (cond (decide (a1 > i2))
 (some (.tup [.agg [.int .i64 0, .int .i64 0, .int .i64 0], .int .i64 7]))
 (cond (decide (a2 < 1))
 (some (.tup [.agg [.int .i64 0, .int .i64 0, .int .i64 0], .int .i64 7]))
 (cond (decide (a2 > 7))
 (some (.tup [.agg [.int .i64 0, .int .i64 0, .int .i64 0], .int .i64 7]))
 (cond (decide (a0 < (-10000)))
 (some (.tup [.agg [.int .i64 0, .int .i64 0, .int .i64 0], .int .i64 8]))
 (cond (decide (a0 > 10000))
 (some (.tup [.agg [.int .i64 0, .int .i64 0, .int .i64 0], .int .i64 8]))
 ((cp F_weeks_begin [.int .i64 a0]).bind fun r3 =>
 (AV.intK .i64 r3 fun i4 =>
 (bnd (IntKind.i64.wrap (i4 + (IntKind.i64.wrap ((IntKind.i64.wrap (a1 - 1)) * 7)))) fun y5 =>
 ((cp F_civil_DateOf [.int .i64 (IntKind.i64.wrap (y5 + a2))]).bind fun r6 =>
 (AV.tupK r6 fun l7 =>
 (consK l7 fun v8 l9 =>
 (AV.aggK v8 fun l10 =>
 (consK l10 fun v11 l12 =>
 (AV.intK .i64 v11 fun i13 =>
 (consK l12 fun v14 l15 =>
 (AV.intK .i64 v14 fun i16 =>
 (consK l15 fun v17 l18 =>
 (AV.intK .i64 v17 fun i19 =>
 (nilK l18
 (consK l9 fun v20 l21 =>
 (AV.intK .i64 v20 fun i22 =>
 (nilK l21
 (some (.tup [.agg [.int .i64 i13, .int .i64 i16, .int .i64 i19], .int .i64 i22])))))))))))))))))))))))))))
theorem eq_weeks_Date (n : Nat) (a0 : Int) (a1 : Int) (a2 : Int) : CP C (n + 1) F_weeks_Date [.int .i64 a0, .int .i64 a1, .int .i64 a2] = R_weeks_Date (CP C n) n a0 a1 a2 := by kernel_rfl
-- law07_awake
def R_law07_awake (cp : FuncId → List AV → Option AV) (_n : Nat) : Option AV :=
 ((cp F_weeks_Of [.agg [.int .i64 2021, .int .i64 1, .int .i64 3]]).bind fun r1 =>
 (AV.tupK r1 fun l2 =>
 (consK l2 fun v3 l4 =>
 (AV.intK .i64 v3 fun i5 =>
 (consK l4 fun v6 l7 =>
 (AV.intK .i64 v6 fun i8 =>
 (consK l7 fun v9 l10 =>
 (AV.intK .i64 v9 fun i11 =>
 (consK l10 fun v12 l13 =>
 (AV.intK .i64 v12 fun i14 =>
 (nilK l13
 ((cp F_weeks_Date [.int .i64 2020, .int .i64 53, .int .i64 7]).bind fun r15 =>
 (AV.tupK r15 fun l16 =>
 (consK l16 fun v17 l18 =>
 (AV.aggK v17 fun l19 =>
 (consK l19 fun v20 l21 =>
 (AV.intK .i64 v20 fun i22 =>
 (consK l21 fun v23 l24 =>
 (AV.intK .i64 v23 fun i25 =>
 (consK l24 fun v26 l27 =>
 (AV.intK .i64 v26 fun i28 =>
 (nilK l27
 (consK l18 fun v29 l30 =>
 (AV.intK .i64 v29 fun i31 =>
 (nilK l30
 ((cp F_weeks_Date [.int .i64 2021, .int .i64 53, .int .i64 1]).bind fun r32 =>
 (AV.tupK r32 fun l33 =>
 (consK l33 fun v34 l35 =>
 (AV.aggK v34 fun l36 =>
 (consK l36 fun v37 l38 =>
 (AV.intK .i64 v37 fun i39 =>
 (consK l38 fun v40 l41 =>
 (AV.intK .i64 v40 fun i42 =>
 (consK l41 fun v43 l44 =>
 (AV.intK .i64 v43 fun i45 =>
 (nilK l44
 (consK l35 fun v46 l47 =>
 (AV.intK .i64 v46 fun i48 =>
 (nilK l47
 (cond (i5 == 2020)
 (cond (i8 == 53)
 (cond (i11 == 7)
 (cond (i14 == 0)
 (cond ((i22 == 2021) && ((i25 == 1) && ((i28 == 3) && true)))
 (cond (i31 == 0)
 ((cp F_weeks_Weeks [.int .i64 2020]).bind fun r49 =>
 (AV.intK .i64 r49 fun i50 =>
 (cond (i50 == 53)
 (some (.bool (i48 == 7)))
 (some (.bool false)))))
 (some (.bool false)))
 (some (.bool false)))
 (some (.bool false)))
 (some (.bool false)))
 (some (.bool false)))
 (some (.bool false))))))))))))))))))))))))))))))))))))))))))
theorem eq_law07_awake (n : Nat) : CP C (n + 1) F_law07_awake [] = R_law07_awake (CP C n) n := by kernel_rfl
-- law07_WeeksOf
def R_law07_WeeksOf (cp : FuncId → List AV → Option AV) (_n : Nat) (a0_0 : Int) (a0_1 : Int) (a0_2 : Int) : Option AV :=
 ((cp F_weeks_Of [.agg [.int .i64 a0_0, .int .i64 a0_1, .int .i64 a0_2]]).bind fun r1 =>
 (AV.tupK r1 fun l2 =>
 (consK l2 fun v3 l4 =>
 (AV.intK .i64 v3 fun i5 =>
 (consK l4 fun v6 l7 =>
 (AV.intK .i64 v6 fun i8 =>
 (consK l7 fun v9 l10 =>
 (AV.intK .i64 v9 fun i11 =>
 (consK l10 fun v12 l13 =>
 (AV.intK .i64 v12 fun i14 =>
 (nilK l13
 ((cp F_ref07_Of [.agg [.int .i64 a0_0, .int .i64 a0_1, .int .i64 a0_2]]).bind fun r15 =>
 (AV.tupK r15 fun l16 =>
 (consK l16 fun v17 l18 =>
 (AV.intK .i64 v17 fun i19 =>
 (consK l18 fun v20 l21 =>
 (AV.intK .i64 v20 fun i22 =>
 (consK l21 fun v23 l24 =>
 (AV.intK .i64 v23 fun i25 =>
 (consK l24 fun v26 l27 =>
 (AV.intK .i64 v26 fun i28 =>
 (nilK l27
 (cond (i5 == i19)
 (cond (i8 == i22)
 (cond (i11 == i25)
 (cond (i14 == i28)
 ((cp F_law07_awake []).bind fun r29 =>
 (AV.boolK r29 fun b30 =>
 (some (.bool b30))))
 (some (.bool false)))
 (some (.bool false)))
 (some (.bool false)))
 (some (.bool false)))))))))))))))))))))))))
theorem eq_law07_WeeksOf (n : Nat) (a0_0 : Int) (a0_1 : Int) (a0_2 : Int) : CP C (n + 1) F_law07_WeeksOf [.agg [.int .i64 a0_0, .int .i64 a0_1, .int .i64 a0_2]] = R_law07_WeeksOf (CP C n) n a0_0 a0_1 a0_2 := by kernel_rfl
-- ref07_Weeks
def R_ref07_Weeks (cp : FuncId → List AV → Option AV) (_n : Nat) (a0 : Int) : Option AV :=
 ((cp F_ref07_like [.int .i64 a0]).bind fun r1 =>
 (AV.intK .i64 r1 fun i2 =>
 ((cp F_ref07_one [.int .i64 (IntKind.i64.wrap (i2 + 1))]).bind fun r3 =>
 (AV.intK .i64 r3 fun i4 =>
 ((cp F_ref07_like [.int .i64 a0]).bind fun r5 =>
 (AV.intK .i64 r5 fun i6 =>
 ((cp F_ref07_one [.int .i64 i6]).bind fun r7 =>
 (AV.intK .i64 r7 fun i8 =>
 (some (.int .i64 (IntKind.i64.wrap (Int.tdiv (IntKind.i64.wrap (i4 - i8)) 7))))))))))))
theorem eq_ref07_Weeks (n : Nat) (a0 : Int) : CP C (n + 1) F_ref07_Weeks [.int .i64 a0] = R_ref07_Weeks (CP C n) n a0 := by kernel_rfl
-- ref06_DateOf
def S_ref06_DateOf_248 (x0 : Int) (x1 : Int) : St := ⟨[.junk, .junk, .ptr (some (0, 0)), .junk, .int .i64 x0, .int .i64 x1, .junk, .junk, .junk, .junk, .junk, .junk, .junk, .junk, .junk, .junk, .junk, .junk, .junk, .junk, .junk, .junk, .junk, .junk, .junk, .junk, .junk, .junk, .junk, .junk, .junk, .junk, .junk, .junk, .junk, .junk, .junk, .junk, .junk, .junk, .junk, .junk, .junk, .junk, .junk, .junk, .junk, .junk, .junk, .junk, .junk, .junk, .junk, .junk, .junk], [.cells 23 [.int .i64 0, .int .i64 0, .int .i64 0]]⟩
def S_ref06_DateOf_504 (x0 : Int) (x1 : Int) : St := ⟨[.junk, .junk, .ptr (some (0, 0)), .junk, .int .i64 x0, .int .i64 x1, .junk, .junk, .junk, .junk, .junk, .junk, .junk, .junk, .junk, .junk, .junk, .junk, .junk, .junk, .junk, .junk, .junk, .junk, .junk, .junk, .junk, .junk, .junk, .junk, .junk, .junk, .junk, .junk, .junk, .junk, .junk, .junk, .junk, .junk, .junk, .junk, .junk, .junk, .junk, .junk, .junk, .junk, .junk, .junk, .junk, .junk, .junk, .junk, .junk], [.cells 23 [.int .i64 0, .int .i64 0, .int .i64 0]]⟩
def S_ref06_DateOf_1016 (x0 : Int) (x1 : Int) : St := ⟨[.junk, .junk, .ptr (some (0, 0)), .junk, .int .i64 x0, .int .i64 x1, .junk, .junk, .junk, .junk, .junk, .junk, .junk, .junk, .junk, .junk, .junk, .junk, .junk, .junk, .junk, .junk, .junk, .junk, .junk, .junk, .junk, .junk, .junk, .junk, .junk, .junk, .junk, .junk, .junk, .junk, .junk, .junk, .junk, .junk, .junk, .junk, .junk, .junk, .junk, .junk, .junk, .junk, .junk, .junk, .junk, .junk, .junk, .junk, .junk], [.cells 23 [.int .i64 0, .int .i64 0, .int .i64 0]]⟩
def S_ref06_DateOf_4088 (x0 : Int) (x1 : Int) (x2 : Int) : St := ⟨[.junk, .junk, .ptr (some (0, 0)), .junk, .int .i64 x0, .int .i64 x1, .int .i64 x2, .junk, .junk, .junk, .junk, .junk, .junk, .junk, .junk, .junk, .junk, .junk, .junk, .junk, .junk, .junk, .junk, .junk, .junk, .junk, .junk, .junk, .junk, .junk, .junk, .junk, .junk, .junk, .junk, .junk, .junk, .junk, .junk, .junk, .junk, .junk, .junk, .junk, .junk, .junk, .junk, .junk, .junk, .junk, .junk, .junk, .junk, .junk, .junk], [.cells 23 [.int .i64 0, .int .i64 0, .int .i64 0]]⟩
def T_ref06_DateOf_4088 (cp : FuncId → List AV → Option AV) (x0 : Int) (x1 : Int) (x2 : Int) (r4088 : Int → Int → Int → Option AV) : Option AV :=
 ((cp F_ref06_MonthDays [.int .i64 x0, .int .i64 x2]).bind fun r1 =>
 (AV.intK .i64 r1 fun i2 =>
 (cond (decide (x1 ≥ i2))
 ((cp F_ref06_MonthDays [.int .i64 x0, .int .i64 x2]).bind fun r3 =>
 (AV.intK .i64 r3 fun i4 =>
 (r4088 x0 (IntKind.i64.wrap (x1 - i4)) (IntKind.i64.wrap (x2 + 1)))))
 (some (.tup [.agg [.int .i64 x0, .int .i64 x2, .int .i64 (IntKind.i64.wrap (x1 + 1))], .int .i64 0])))))
theorem K_ref06_DateOf_4088 (j : Jump) (n : Nat) (m4088 : Nat) (x0 : Int) (x1 : Int) (x2 : Int) : enter (topEnv C (CP C n) n F_ref06_DateOf) (some j) (bodyOf C.P F_ref06_DateOf) (endOf C.P F_ref06_DateOf) [false, false, false, true, true, true, true, true, true, true, true] [(m4088 + 1)] (S_ref06_DateOf_4088 x0 x1 x2) = T_ref06_DateOf_4088 (CP C n) x0 x1 x2 (fun x0 x1 x2 => j [false, false, false, true, true, true, true, true, true, true, true] [m4088] (S_ref06_DateOf_4088 x0 x1 x2)) := by kernel_rfl
def J_ref06_DateOf_4088 (cp : FuncId → List AV → Option AV) (n : Nat) : Nat → Int → Int → Int → Option AV
  | 0 => (fun x0 x1 x2 => none)
  | m + 1 => (fun x0 x1 x2 => T_ref06_DateOf_4088 cp x0 x1 x2 (J_ref06_DateOf_4088 cp n m))
theorem Js_ref06_DateOf_4088 (cp : FuncId → List AV → Option AV) (n : Nat) (m : Nat) (x0 : Int) (x1 : Int) (x2 : Int) : J_ref06_DateOf_4088 cp n (m + 1) x0 x1 x2 = T_ref06_DateOf_4088 cp x0 x1 x2 (J_ref06_DateOf_4088 cp n m) := of_eq_true (eq_self _)
theorem JE_ref06_DateOf_4088 (n : Nat) : ∀ (m : Nat) (x0 : Int) (x1 : Int) (x2 : Int), jT (topEnv C (CP C n) n F_ref06_DateOf) (bodyOf C.P F_ref06_DateOf) (endOf C.P F_ref06_DateOf) [false, false, false, true, true, true, true, true, true, true, true] [m] (S_ref06_DateOf_4088 x0 x1 x2) = J_ref06_DateOf_4088 (CP C n) n m x0 x1 x2
  | 0, x0, x1, x2 => (jT_eq _ _ _ _ _ _).trans (by kernel_rfl)
  | m + 1, x0, x1, x2 => (jT_eq _ _ _ _ _ _).trans ((K_ref06_DateOf_4088 _ n m x0 x1 x2).trans (congrArg (T_ref06_DateOf_4088 (CP C n) x0 x1 x2) (funext fun x0 => (funext fun x1 => (funext fun x2 => (JE_ref06_DateOf_4088 n m) x0 x1 x2)))))
def T_ref06_DateOf_1016 (cp : FuncId → List AV → Option AV) (x0 : Int) (x1 : Int) (r1016 : Int → Int → Option AV) (j4088 : Int → Int → Int → Option AV) : Option AV :=
 ((cp F_ref06_YearDays [.int .i64 x0]).bind fun r1 =>
 (AV.intK .i64 r1 fun i2 =>
 (cond (decide (x1 ≥ i2))
 ((cp F_ref06_YearDays [.int .i64 x0]).bind fun r3 =>
 (AV.intK .i64 r3 fun i4 =>
 (r1016 (IntKind.i64.wrap (x0 + 1)) (IntKind.i64.wrap (x1 - i4)))))
 (j4088 x0 x1 1))))
theorem K_ref06_DateOf_1016 (j : Jump) (n : Nat) (m1016 : Nat) (x0 : Int) (x1 : Int) : enter (topEnv C (CP C n) n F_ref06_DateOf) (some j) (bodyOf C.P F_ref06_DateOf) (endOf C.P F_ref06_DateOf) [false, false, false, true, true, true, true, true, true] [(m1016 + 1)] (S_ref06_DateOf_1016 x0 x1) = T_ref06_DateOf_1016 (CP C n) x0 x1 (fun x0 x1 => j [false, false, false, true, true, true, true, true, true] [m1016] (S_ref06_DateOf_1016 x0 x1)) (fun x0 x1 x2 => j [false, false, false, true, true, true, true, true, true, true, true] [(n + 300)] (S_ref06_DateOf_4088 x0 x1 x2)) := by kernel_rfl
def J_ref06_DateOf_1016 (cp : FuncId → List AV → Option AV) (n : Nat) : Nat → Int → Int → Option AV
  | 0 => (fun x0 x1 => none)
  | m + 1 => (fun x0 x1 => T_ref06_DateOf_1016 cp x0 x1 (J_ref06_DateOf_1016 cp n m) (J_ref06_DateOf_4088 cp n (n + 300)))
theorem Js_ref06_DateOf_1016 (cp : FuncId → List AV → Option AV) (n : Nat) (m : Nat) (x0 : Int) (x1 : Int) : J_ref06_DateOf_1016 cp n (m + 1) x0 x1 = T_ref06_DateOf_1016 cp x0 x1 (J_ref06_DateOf_1016 cp n m) (J_ref06_DateOf_4088 cp n (n + 300)) := of_eq_true (eq_self _)
theorem JE_ref06_DateOf_1016 (n : Nat) : ∀ (m : Nat) (x0 : Int) (x1 : Int), jT (topEnv C (CP C n) n F_ref06_DateOf) (bodyOf C.P F_ref06_DateOf) (endOf C.P F_ref06_DateOf) [false, false, false, true, true, true, true, true, true] [m] (S_ref06_DateOf_1016 x0 x1) = J_ref06_DateOf_1016 (CP C n) n m x0 x1
  | 0, x0, x1 => (jT_eq _ _ _ _ _ _).trans (by kernel_rfl)
  | m + 1, x0, x1 => (jT_eq _ _ _ _ _ _).trans ((K_ref06_DateOf_1016 _ n m x0 x1).trans (congr (congrArg (T_ref06_DateOf_1016 (CP C n) x0 x1) (funext fun x0 => (funext fun x1 => (JE_ref06_DateOf_1016 n m) x0 x1))) (funext fun x0 => (funext fun x1 => (funext fun x2 => (JE_ref06_DateOf_4088 n (n + 300)) x0 x1 x2)))))
def T_ref06_DateOf_504 (cp : FuncId → List AV → Option AV) (x0 : Int) (x1 : Int) (r504 : Int → Int → Option AV) (j1016 : Int → Int → Option AV) : Option AV :=
 (cond (decide (x1 ≥ 146097))
 (r504 (IntKind.i64.wrap (x0 + 400)) (IntKind.i64.wrap (x1 - 146097)))
 (j1016 x0 x1))
theorem K_ref06_DateOf_504 (j : Jump) (n : Nat) (m504 : Nat) (x0 : Int) (x1 : Int) : enter (topEnv C (CP C n) n F_ref06_DateOf) (some j) (bodyOf C.P F_ref06_DateOf) (endOf C.P F_ref06_DateOf) [false, false, false, true, true, true, true, true] [(m504 + 1)] (S_ref06_DateOf_504 x0 x1) = T_ref06_DateOf_504 (CP C n) x0 x1 (fun x0 x1 => j [false, false, false, true, true, true, true, true] [m504] (S_ref06_DateOf_504 x0 x1)) (fun x0 x1 => j [false, false, false, true, true, true, true, true, true] [(n + 300)] (S_ref06_DateOf_1016 x0 x1)) := by kernel_rfl
def J_ref06_DateOf_504 (cp : FuncId → List AV → Option AV) (n : Nat) : Nat → Int → Int → Option AV
  | 0 => (fun x0 x1 => none)
  | m + 1 => (fun x0 x1 => T_ref06_DateOf_504 cp x0 x1 (J_ref06_DateOf_504 cp n m) (J_ref06_DateOf_1016 cp n (n + 300)))
theorem Js_ref06_DateOf_504 (cp : FuncId → List AV → Option AV) (n : Nat) (m : Nat) (x0 : Int) (x1 : Int) : J_ref06_DateOf_504 cp n (m + 1) x0 x1 = T_ref06_DateOf_504 cp x0 x1 (J_ref06_DateOf_504 cp n m) (J_ref06_DateOf_1016 cp n (n + 300)) := of_eq_true (eq_self _)
theorem JE_ref06_DateOf_504 (n : Nat) : ∀ (m : Nat) (x0 : Int) (x1 : Int), jT (topEnv C (CP C n) n F_ref06_DateOf) (bodyOf C.P F_ref06_DateOf) (endOf C.P F_ref06_DateOf) [false, false, false, true, true, true, true, true] [m] (S_ref06_DateOf_504 x0 x1) = J_ref06_DateOf_504 (CP C n) n m x0 x1
  | 0, x0, x1 => (jT_eq _ _ _ _ _ _).trans (by kernel_rfl)
  | m + 1, x0, x1 => (jT_eq _ _ _ _ _ _).trans ((K_ref06_DateOf_504 _ n m x0 x1).trans (congr (congrArg (T_ref06_DateOf_504 (CP C n) x0 x1) (funext fun x0 => (funext fun x1 => (JE_ref06_DateOf_504 n m) x0 x1))) (funext fun x0 => (funext fun x1 => (JE_ref06_DateOf_1016 n (n + 300)) x0 x1))))
def T_ref06_DateOf_248 (cp : FuncId → List AV → Option AV) (x0 : Int) (x1 : Int) (r248 : Int → Int → Option AV) (j504 : Int → Int → Option AV) : Option AV :=
 (cond (decide (x1 < 0))
 (r248 (IntKind.i64.wrap (x0 - 400)) (IntKind.i64.wrap (x1 + 146097)))
 (j504 x0 x1))
theorem K_ref06_DateOf_248 (j : Jump) (n : Nat) (m248 : Nat) (x0 : Int) (x1 : Int) : enter (topEnv C (CP C n) n F_ref06_DateOf) (some j) (bodyOf C.P F_ref06_DateOf) (endOf C.P F_ref06_DateOf) [false, false, false, true, true, true, true] [(m248 + 1)] (S_ref06_DateOf_248 x0 x1) = T_ref06_DateOf_248 (CP C n) x0 x1 (fun x0 x1 => j [false, false, false, true, true, true, true] [m248] (S_ref06_DateOf_248 x0 x1)) (fun x0 x1 => j [false, false, false, true, true, true, true, true] [(n + 300)] (S_ref06_DateOf_504 x0 x1)) := by kernel_rfl
def J_ref06_DateOf_248 (cp : FuncId → List AV → Option AV) (n : Nat) : Nat → Int → Int → Option AV
  | 0 => (fun x0 x1 => none)
  | m + 1 => (fun x0 x1 => T_ref06_DateOf_248 cp x0 x1 (J_ref06_DateOf_248 cp n m) (J_ref06_DateOf_504 cp n (n + 300)))
theorem Js_ref06_DateOf_248 (cp : FuncId → List AV → Option AV) (n : Nat) (m : Nat) (x0 : Int) (x1 : Int) : J_ref06_DateOf_248 cp n (m + 1) x0 x1 = T_ref06_DateOf_248 cp x0 x1 (J_ref06_DateOf_248 cp n m) (J_ref06_DateOf_504 cp n (n + 300)) := of_eq_true (eq_self _)
theorem JE_ref06_DateOf_248 (n : Nat) : ∀ (m : Nat) (x0 : Int) (x1 : Int), jT (topEnv C (CP C n) n F_ref06_DateOf) (bodyOf C.P F_ref06_DateOf) (endOf C.P F_ref06_DateOf) [false, false, false, true, true, true, true] [m] (S_ref06_DateOf_248 x0 x1) = J_ref06_DateOf_248 (CP C n) n m x0 x1
  | 0, x0, x1 => (jT_eq _ _ _ _ _ _).trans (by kernel_rfl)
  | m + 1, x0, x1 => (jT_eq _ _ _ _ _ _).trans ((K_ref06_DateOf_248 _ n m x0 x1).trans (congr (congrArg (T_ref06_DateOf_248 (CP C n) x0 x1) (funext fun x0 => (funext fun x1 => (JE_ref06_DateOf_248 n m) x0 x1))) (funext fun x0 => (funext fun x1 => (JE_ref06_DateOf_504 n (n + 300)) x0 x1))))
def T_ref06_DateOf_1 (cp : FuncId → List AV → Option AV) (a0 : Int) (j248 : Int → Int → Option AV) : Option AV :=
 (cond (decide (a0 < (-4371587)))
 (some (.tup [.agg [.int .i64 0, .int .i64 0, .int .i64 0], .int .i64 8]))
 (cond (decide (a0 > 2932896))
 (some (.tup [.agg [.int .i64 0, .int .i64 0, .int .i64 0], .int .i64 8]))
 (j248 2000 (IntKind.i64.wrap (a0 - 10957)))))
theorem K_ref06_DateOf_1 (j : Jump) (n : Nat) (a0 : Int) : ex (topEnv C (CP C n) n F_ref06_DateOf) (some j) (bodyOf C.P F_ref06_DateOf) 1 [] [] (endOf C.P F_ref06_DateOf) (startOf C.P F_ref06_DateOf [.int .i64 a0]) = T_ref06_DateOf_1 (CP C n) a0 (fun x0 x1 => j [false, false, false, true, true, true, true] [(n + 300)] (S_ref06_DateOf_248 x0 x1)) := by kernel_rfl
def R_ref06_DateOf (cp : FuncId → List AV → Option AV) (n : Nat) (a0 : Int) : Option AV := T_ref06_DateOf_1 cp a0 (J_ref06_DateOf_248 cp n (n + 300))
theorem eq_ref06_DateOf (n : Nat) (a0 : Int) : CP C (n + 1) F_ref06_DateOf [.int .i64 a0] = R_ref06_DateOf (CP C n) n a0 :=
  (CP_pure C n F_ref06_DateOf _ (by kernel_rfl) (by kernel_rfl)).trans ((K_ref06_DateOf_1 _ n a0).trans (congrArg (T_ref06_DateOf_1 (CP C n) a0) (funext fun x0 => (funext fun x1 => (JE_ref06_DateOf_248 n (n + 300)) x0 x1))))
-- ref07_Date
def R_ref07_Date (cp : FuncId → List AV → Option AV) (_n : Nat) (a0 : Int) (a1 : Int) (a2 : Int) : Option AV :=
 (cond (decide (a1 < 1))
 (some (.tup [.agg [.int .i64 0, .int .i64 0, .int .i64 0], .int .i64 7]))
 ((cp F_ref07_Weeks [.int .i64 a0]).bind fun r1 =>
 (AV.intK .i64 r1 fun i2 =>
 (cond (decide (a1 > i2))
 (some (.tup [.agg [.int .i64 0, .int .i64 0, .int .i64 0], .int .i64 7]))
 (cond (decide (a2 < 1))
 (some (.tup [.agg [.int .i64 0, .int .i64 0, .int .i64 0], .int .i64 7]))
 (cond (decide (a2 > 7))
 (some (.tup [.agg [.int .i64 0, .int .i64 0, .int .i64 0], .int .i64 7]))
 (cond (decide (a0 < (-10000)))
 (some (.tup [.agg [.int .i64 0, .int .i64 0, .int .i64 0], .int .i64 8]))
 (cond (decide (a0 > 10000))
 (some (.tup [.agg [.int .i64 0, .int .i64 0, .int .i64 0], .int .i64 8]))
 ((cp F_ref07_like [.int .i64 a0]).bind fun r3 =>
 (AV.intK .i64 r3 fun i4 =>
 ((cp F_ref07_one [.int .i64 i4]).bind fun r5 =>
 (AV.intK .i64 r5 fun i6 =>
 (bnd (IntKind.i64.wrap (i6 + (IntKind.i64.wrap (7 * (IntKind.i64.wrap (a1 - 1)))))) fun y7 =>
 ((cp F_ref07_like [.int .i64 a0]).bind fun r8 =>
 (AV.intK .i64 r8 fun i9 =>
 (bnd (IntKind.i64.wrap (Int.tdiv (IntKind.i64.wrap (a0 - i9)) 400)) fun y10 =>
 (bnd (IntKind.i64.wrap ((IntKind.i64.wrap ((IntKind.i64.wrap (y7 + a2)) - 1)) + (IntKind.i64.wrap (y10 * 146097)))) fun y11 =>
 ((cp F_ref06_DateOf [.int .i64 y11]).bind fun r12 =>
 (AV.tupK r12 fun l13 =>
 (consK l13 fun v14 l15 =>
 (AV.aggK v14 fun l16 =>
 (consK l16 fun v17 l18 =>
 (AV.intK .i64 v17 fun i19 =>
 (consK l18 fun v20 l21 =>
 (AV.intK .i64 v20 fun i22 =>
 (consK l21 fun v23 l24 =>
 (AV.intK .i64 v23 fun i25 =>
 (nilK l24
 (consK l15 fun v26 l27 =>
 (AV.intK .i64 v26 fun i28 =>
 (nilK l27
 (some (.tup [.agg [.int .i64 i19, .int .i64 i22, .int .i64 i25], .int .i64 i28])))))))))))))))))))))))))))))))))
theorem eq_ref07_Date (n : Nat) (a0 : Int) (a1 : Int) (a2 : Int) : CP C (n + 1) F_ref07_Date [.int .i64 a0, .int .i64 a1, .int .i64 a2] = R_ref07_Date (CP C n) n a0 a1 a2 := by kernel_rfl
-- law07_WeeksDates
def R_law07_WeeksDates (cp : FuncId → List AV → Option AV) (_n : Nat) (a0 : Int) (a1 : Int) (a2 : Int) : Option AV :=
 ((cp F_weeks_Date [.int .i64 a0, .int .i64 a1, .int .i64 a2]).bind fun r1 =>
 (AV.tupK r1 fun l2 =>
 (consK l2 fun v3 l4 =>
 (AV.aggK v3 fun l5 =>
 (consK l5 fun v6 l7 =>
 (AV.intK .i64 v6 fun i8 =>
 (consK l7 fun v9 l10 =>
 (AV.intK .i64 v9 fun i11 =>
 (consK l10 fun v12 l13 =>
 (AV.intK .i64 v12 fun i14 =>
 (nilK l13
 (consK l4 fun v15 l16 =>
 (AV.intK .i64 v15 fun i17 =>
 (nilK l16
 ((cp F_ref07_Date [.int .i64 a0, .int .i64 a1, .int .i64 a2]).bind fun r18 =>
 (AV.tupK r18 fun l19 =>
 (consK l19 fun v20 l21 =>
 (AV.aggK v20 fun l22 =>
 (consK l22 fun v23 l24 =>
 (AV.intK .i64 v23 fun i25 =>
 (consK l24 fun v26 l27 =>
 (AV.intK .i64 v26 fun i28 =>
 (consK l27 fun v29 l30 =>
 (AV.intK .i64 v29 fun i31 =>
 (nilK l30
 (consK l21 fun v32 l33 =>
 (AV.intK .i64 v32 fun i34 =>
 (nilK l33
 (cond ((i8 == i25) && ((i11 == i28) && ((i14 == i31) && true)))
 (cond (i17 == i34)
 ((cp F_weeks_Weeks [.int .i64 a0]).bind fun r35 =>
 (AV.intK .i64 r35 fun i36 =>
 ((cp F_ref07_Weeks [.int .i64 a0]).bind fun r37 =>
 (AV.intK .i64 r37 fun i38 =>
 (cond (i36 == i38)
 ((cp F_law07_awake []).bind fun r39 =>
 (AV.boolK r39 fun b40 =>
 (some (.bool b40))))
 (some (.bool false)))))))
 (some (.bool false)))
 (some (.bool false)))))))))))))))))))))))))))))))
theorem eq_law07_WeeksDates (n : Nat) (a0 : Int) (a1 : Int) (a2 : Int) : CP C (n + 1) F_law07_WeeksDates [.int .i64 a0, .int .i64 a1, .int .i64 a2] = R_law07_WeeksDates (CP C n) n a0 a1 a2 := by kernel_rfl
-- law07_WeeksBack
def R_law07_WeeksBack (cp : FuncId → List AV → Option AV) (_n : Nat) (a0_0 : Int) (a0_1 : Int) (a0_2 : Int) : Option AV :=
 ((cp F_weeks_Of [.agg [.int .i64 a0_0, .int .i64 a0_1, .int .i64 a0_2]]).bind fun r1 =>
 (AV.tupK r1 fun l2 =>
 (consK l2 fun v3 l4 =>
 (AV.intK .i64 v3 fun i5 =>
 (consK l4 fun v6 l7 =>
 (AV.intK .i64 v6 fun i8 =>
 (consK l7 fun v9 l10 =>
 (AV.intK .i64 v9 fun i11 =>
 (consK l10 fun v12 l13 =>
 (AV.intK .i64 v12 fun i14 =>
 (nilK l13
 (cond (i14 != 0)
 (cond (i5 == 0)
 (cond (i8 == 0)
 (cond (i11 == 0)
 ((cp F_law07_awake []).bind fun r15 =>
 (AV.boolK r15 fun b16 =>
 (some (.bool b16))))
 (some (.bool false)))
 (some (.bool false)))
 (some (.bool false)))
 ((cp F_weeks_Date [.int .i64 i5, .int .i64 i8, .int .i64 i11]).bind fun r17 =>
 (AV.tupK r17 fun l18 =>
 (consK l18 fun v19 l20 =>
 (AV.aggK v19 fun l21 =>
 (consK l21 fun v22 l23 =>
 (AV.intK .i64 v22 fun i24 =>
 (consK l23 fun v25 l26 =>
 (AV.intK .i64 v25 fun i27 =>
 (consK l26 fun v28 l29 =>
 (AV.intK .i64 v28 fun i30 =>
 (nilK l29
 (consK l20 fun v31 l32 =>
 (AV.intK .i64 v31 fun i33 =>
 (nilK l32
 (cond ((i24 == a0_0) && ((i27 == a0_1) && ((i30 == a0_2) && true)))
 (cond (i33 == 0)
 (cond (decide (i8 ≥ 1))
 ((cp F_weeks_Weeks [.int .i64 i5]).bind fun r34 =>
 (AV.intK .i64 r34 fun i35 =>
 (cond (decide (i8 ≤ i35))
 ((cp F_law07_awake []).bind fun r36 =>
 (AV.boolK r36 fun b37 =>
 (some (.bool b37))))
 (some (.bool false)))))
 (some (.bool false)))
 (some (.bool false)))
 (some (.bool false)))))))))))))))))))))))))))))
theorem eq_law07_WeeksBack (n : Nat) (a0_0 : Int) (a0_1 : Int) (a0_2 : Int) : CP C (n + 1) F_law07_WeeksBack [.agg [.int .i64 a0_0, .int .i64 a0_1, .int .i64 a0_2]] = R_law07_WeeksBack (CP C n) n a0_0 a0_1 a0_2 := by kernel_rfl
-- ref06_Days
def R_ref06_Days (cp : FuncId → List AV → Option AV) (_n : Nat) (a0_0 : Int) (a0_1 : Int) (a0_2 : Int) : Option AV :=
 ((cp F_ref06_Check [.agg [.int .i64 a0_0, .int .i64 a0_1, .int .i64 a0_2]]).bind fun r1 =>
 (AV.intK .i64 r1 fun i2 =>
 (cond (i2 != 0)
 (some (.tup [.int .i64 0, .int .i64 i2]))
 ((cp F_ref06_Number [.agg [.int .i64 a0_0, .int .i64 a0_1, .int .i64 a0_2]]).bind fun r3 =>
 (AV.intK .i64 r3 fun i4 =>
 (some (.tup [.int .i64 i4, .int .i64 0])))))))
theorem eq_ref06_Days (n : Nat) (a0_0 : Int) (a0_1 : Int) (a0_2 : Int) : CP C (n + 1) F_ref06_Days [.agg [.int .i64 a0_0, .int .i64 a0_1, .int .i64 a0_2]] = R_ref06_Days (CP C n) n a0_0 a0_1 a0_2 := by kernel_rfl
-- ref06_Ordinal
def R_ref06_Ordinal (cp : FuncId → List AV → Option AV) (_n : Nat) (a0_0 : Int) (a0_1 : Int) (a0_2 : Int) : Option AV :=
 ((cp F_ref06_Check [.agg [.int .i64 a0_0, .int .i64 a0_1, .int .i64 a0_2]]).bind fun r1 =>
 (AV.intK .i64 r1 fun i2 =>
 (cond (i2 != 0)
 (some (.tup [.int .i64 0, .int .i64 i2]))
 ((cp F_ref06_Number [.agg [.int .i64 a0_0, .int .i64 a0_1, .int .i64 a0_2]]).bind fun r3 =>
 (AV.intK .i64 r3 fun i4 =>
 ((cp F_ref06_start [.int .i64 a0_0]).bind fun r5 =>
 (AV.intK .i64 r5 fun i6 =>
 (some (.tup [.int .i64 (IntKind.i64.wrap ((IntKind.i64.wrap (i4 - i6)) + 1)), .int .i64 0])))))))))
theorem eq_ref06_Ordinal (n : Nat) (a0_0 : Int) (a0_1 : Int) (a0_2 : Int) : CP C (n + 1) F_ref06_Ordinal [.agg [.int .i64 a0_0, .int .i64 a0_1, .int .i64 a0_2]] = R_ref06_Ordinal (CP C n) n a0_0 a0_1 a0_2 := by kernel_rfl
-- law07_WeeksThursdays
def R_law07_WeeksThursdays (cp : FuncId → List AV → Option AV) (_n : Nat) (a0_0 : Int) (a0_1 : Int) (a0_2 : Int) : Option AV :=
 ((cp F_weeks_Of [.agg [.int .i64 a0_0, .int .i64 a0_1, .int .i64 a0_2]]).bind fun r1 =>
 (AV.tupK r1 fun l2 =>
 (consK l2 fun v3 l4 =>
 (AV.intK .i64 v3 fun i5 =>
 (consK l4 fun v6 l7 =>
 (AV.intK .i64 v6 fun i8 =>
 (consK l7 fun v9 l10 =>
 (AV.intK .i64 v9 fun i11 =>
 (consK l10 fun v12 l13 =>
 (AV.intK .i64 v12 fun i14 =>
 (nilK l13
 (cond (i14 != 0)
 ((cp F_law07_awake []).bind fun r15 =>
 (AV.boolK r15 fun b16 =>
 (some (.bool b16))))
 ((cp F_ref06_Days [.agg [.int .i64 a0_0, .int .i64 a0_1, .int .i64 a0_2]]).bind fun r17 =>
 (AV.tupK r17 fun l18 =>
 (consK l18 fun v19 l20 =>
 (AV.intK .i64 v19 fun i21 =>
 (consK l20 fun v22 l23 =>
 (AV.intK .i64 v22 fun i24 =>
 (nilK l23
 ((cp F_ref06_DateOf [.int .i64 (IntKind.i64.wrap ((IntKind.i64.wrap (i21 + 4)) - i11))]).bind fun r25 =>
 (AV.tupK r25 fun l26 =>
 (consK l26 fun v27 l28 =>
 (AV.aggK v27 fun l29 =>
 (consK l29 fun v30 l31 =>
 (AV.intK .i64 v30 fun i32 =>
 (consK l31 fun v33 l34 =>
 (AV.intK .i64 v33 fun i35 =>
 (consK l34 fun v36 l37 =>
 (AV.intK .i64 v36 fun i38 =>
 (nilK l37
 (consK l28 fun v39 l40 =>
 (AV.intK .i64 v39 fun i41 =>
 (nilK l40
 (cond (i41 != 0)
 ((cp F_law07_awake []).bind fun r42 =>
 (AV.boolK r42 fun b43 =>
 (some (.bool b43))))
 ((cp F_ref06_Ordinal [.agg [.int .i64 i32, .int .i64 i35, .int .i64 i38]]).bind fun r44 =>
 (AV.tupK r44 fun l45 =>
 (consK l45 fun v46 l47 =>
 (AV.intK .i64 v46 fun i48 =>
 (consK l47 fun v49 l50 =>
 (AV.intK .i64 v49 fun i51 =>
 (nilK l50
 (cond (i32 == i5)
 (bnd (IntKind.i64.wrap ((IntKind.i64.wrap (Int.tdiv (IntKind.i64.wrap (i48 - 1)) 7)) + 1)) fun y52 =>
 (cond (i8 == y52)
 ((cp F_law07_awake []).bind fun r53 =>
 (AV.boolK r53 fun b54 =>
 (some (.bool b54))))
 (some (.bool false))))
 (some (.bool false))))))))))))))))))))))))))))))))))))))))))))
theorem eq_law07_WeeksThursdays (n : Nat) (a0_0 : Int) (a0_1 : Int) (a0_2 : Int) : CP C (n + 1) F_law07_WeeksThursdays [.agg [.int .i64 a0_0, .int .i64 a0_1, .int .i64 a0_2]] = R_law07_WeeksThursdays (CP C n) n a0_0 a0_1 a0_2 := by kernel_rfl
-- law07_WeeksSum
def S_law07_WeeksSum_244 (x0 : Int) (x1 : Int) (x2 : Int) : St := ⟨[.int .i64 x0, .junk, .junk, .int .i64 x1, .int .i64 x2, .junk, .junk, .junk, .junk, .junk, .junk, .junk, .junk, .junk, .junk, .junk, .junk, .junk, .junk, .junk, .junk, .junk, .junk, .junk, .junk, .junk, .junk, .junk, .junk, .junk], []⟩
def T_law07_WeeksSum_244 (cp : FuncId → List AV → Option AV) (x0 : Int) (x1 : Int) (x2 : Int) (r244 : Int → Int → Int → Option AV) : Option AV :=
 (cond (decide (x2 < 400))
 ((cp F_weeks_Weeks [.int .i64 (IntKind.i64.wrap (x0 + x2))]).bind fun r1 =>
 (AV.intK .i64 r1 fun i2 =>
 (cond (i2 != 52)
 (cond (i2 != 53)
 (some (.bool false))
 (r244 x0 (IntKind.i64.wrap (x1 + i2)) (IntKind.i64.wrap (x2 + 1))))
 (r244 x0 (IntKind.i64.wrap (x1 + i2)) (IntKind.i64.wrap (x2 + 1))))))
 (cond (x1 == 20871)
 ((cp F_law07_awake []).bind fun r3 =>
 (AV.boolK r3 fun b4 =>
 (some (.bool b4))))
 (some (.bool false))))
theorem K_law07_WeeksSum_244 (j : Jump) (n : Nat) (m244 : Nat) (x0 : Int) (x1 : Int) (x2 : Int) : enter (topEnv C (CP C n) n F_law07_WeeksSum) (some j) (bodyOf C.P F_law07_WeeksSum) (endOf C.P F_law07_WeeksSum) [false, false, true, false, true, true, true] [(m244 + 1)] (S_law07_WeeksSum_244 x0 x1 x2) = T_law07_WeeksSum_244 (CP C n) x0 x1 x2 (fun x0 x1 x2 => j [false, false, true, false, true, true, true] [m244] (S_law07_WeeksSum_244 x0 x1 x2)) := by kernel_rfl
def J_law07_WeeksSum_244 (cp : FuncId → List AV → Option AV) (n : Nat) : Nat → Int → Int → Int → Option AV
  | 0 => (fun x0 x1 x2 => none)
  | m + 1 => (fun x0 x1 x2 => T_law07_WeeksSum_244 cp x0 x1 x2 (J_law07_WeeksSum_244 cp n m))
theorem Js_law07_WeeksSum_244 (cp : FuncId → List AV → Option AV) (n : Nat) (m : Nat) (x0 : Int) (x1 : Int) (x2 : Int) : J_law07_WeeksSum_244 cp n (m + 1) x0 x1 x2 = T_law07_WeeksSum_244 cp x0 x1 x2 (J_law07_WeeksSum_244 cp n m) := of_eq_true (eq_self _)
theorem JE_law07_WeeksSum_244 (n : Nat) : ∀ (m : Nat) (x0 : Int) (x1 : Int) (x2 : Int), jT (topEnv C (CP C n) n F_law07_WeeksSum) (bodyOf C.P F_law07_WeeksSum) (endOf C.P F_law07_WeeksSum) [false, false, true, false, true, true, true] [m] (S_law07_WeeksSum_244 x0 x1 x2) = J_law07_WeeksSum_244 (CP C n) n m x0 x1 x2
  | 0, x0, x1, x2 => (jT_eq _ _ _ _ _ _).trans (by kernel_rfl)
  | m + 1, x0, x1, x2 => (jT_eq _ _ _ _ _ _).trans ((K_law07_WeeksSum_244 _ n m x0 x1 x2).trans (congrArg (T_law07_WeeksSum_244 (CP C n) x0 x1 x2) (funext fun x0 => (funext fun x1 => (funext fun x2 => (JE_law07_WeeksSum_244 n m) x0 x1 x2)))))
def T_law07_WeeksSum_1 (cp : FuncId → List AV → Option AV) (a0 : Int) (j244 : Int → Int → Int → Option AV) : Option AV :=
 (j244 (Int.tmod a0 100000) 0 0)
theorem K_law07_WeeksSum_1 (j : Jump) (n : Nat) (a0 : Int) : ex (topEnv C (CP C n) n F_law07_WeeksSum) (some j) (bodyOf C.P F_law07_WeeksSum) 1 [] [] (endOf C.P F_law07_WeeksSum) (startOf C.P F_law07_WeeksSum [.int .i64 a0]) = T_law07_WeeksSum_1 (CP C n) a0 (fun x0 x1 x2 => j [false, false, true, false, true, true, true] [(n + 300)] (S_law07_WeeksSum_244 x0 x1 x2)) := by kernel_rfl
def R_law07_WeeksSum (cp : FuncId → List AV → Option AV) (n : Nat) (a0 : Int) : Option AV := T_law07_WeeksSum_1 cp a0 (J_law07_WeeksSum_244 cp n (n + 300))
theorem eq_law07_WeeksSum (n : Nat) (a0 : Int) : CP C (n + 1) F_law07_WeeksSum [.int .i64 a0] = R_law07_WeeksSum (CP C n) n a0 :=
  (CP_pure C n F_law07_WeeksSum _ (by kernel_rfl) (by kernel_rfl)).trans ((K_law07_WeeksSum_1 _ n a0).trans (congrArg (T_law07_WeeksSum_1 (CP C n) a0) (funext fun x0 => (funext fun x1 => (funext fun x2 => (JE_law07_WeeksSum_244 n (n + 300)) x0 x1 x2)))))
end Go.Proofs.Ytleedachcphbmaa.Sim.S
