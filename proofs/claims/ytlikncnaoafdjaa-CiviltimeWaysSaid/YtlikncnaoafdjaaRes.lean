/- What each function of the program answers, as a plain function, printed by a program of ours. Condition: none beyond what each theorem says. -/

import Derived.Test.YtlikncnaoafdjaaCfg
set_option maxRecDepth 100000
set_option linter.unusedVariables false
open Go Go.Proofs.Ytlikncnaoafdjaa.Sim Go.Proofs
namespace Go.Proofs.Ytlikncnaoafdjaa.Sim.S
-- clock_cut
def R_clock_cut (cp : FuncId → List AV → Option AV) (_n : Nat) (a0_0 : Int) (a0_1 : Int) (a0_2 : Int) (a0_3 : Int) : Option AV :=
 (bnd (if (if 23 < a0_0 then 23 else a0_0) > 0 then (if 23 < a0_0 then 23 else a0_0) else 0) fun y1 =>
 (bnd (if (if 59 < a0_1 then 59 else a0_1) > 0 then (if 59 < a0_1 then 59 else a0_1) else 0) fun y2 =>
 (bnd (if (if 59 < a0_2 then 59 else a0_2) > 0 then (if 59 < a0_2 then 59 else a0_2) else 0) fun y3 =>
 (bnd (if (if 999999999 < a0_3 then 999999999 else a0_3) > 0 then (if 999999999 < a0_3 then 999999999 else a0_3) else 0) fun y4 =>
 (some (.agg [.int .i64 y1, .int .i64 y2, .int .i64 y3, .int .i64 y4]))))))
theorem eq_clock_cut (n : Nat) (a0_0 : Int) (a0_1 : Int) (a0_2 : Int) (a0_3 : Int) : CP C (n + 1) F_clock_cut [.agg [.int .i64 a0_0, .int .i64 a0_1, .int .i64 a0_2, .int .i64 a0_3]] = R_clock_cut (CP C n) n a0_0 a0_1 a0_2 a0_3 := by kernel_rfl
-- clock_Check
def R_clock_Check (cp : FuncId → List AV → Option AV) (_n : Nat) (a0_0 : Int) (a0_1 : Int) (a0_2 : Int) (a0_3 : Int) : Option AV :=
 ((cp F_clock_cut [.agg [.int .i64 a0_0, .int .i64 a0_1, .int .i64 a0_2, .int .i64 a0_3]]).bind fun r1 =>
 (AV.aggK r1 fun l2 =>
 (consK l2 fun v3 l4 =>
 (AV.intK .i64 v3 fun i5 =>
 (consK l4 fun v6 l7 =>
 (AV.intK .i64 v6 fun i8 =>
 (consK l7 fun v9 l10 =>
 (AV.intK .i64 v9 fun i11 =>
 (consK l10 fun v12 l13 =>
 (AV.intK .i64 v12 fun i14 =>
 (nilK l13
 (cond (!((i5 == a0_0) && ((i8 == a0_1) && ((i11 == a0_2) && ((i14 == a0_3) && true)))))
 (some (.int .i64 5))
 (some (.int .i64 0))))))))))))))
theorem eq_clock_Check (n : Nat) (a0_0 : Int) (a0_1 : Int) (a0_2 : Int) (a0_3 : Int) : CP C (n + 1) F_clock_Check [.agg [.int .i64 a0_0, .int .i64 a0_1, .int .i64 a0_2, .int .i64 a0_3]] = R_clock_Check (CP C n) n a0_0 a0_1 a0_2 a0_3 := by kernel_rfl
-- clock_Nanos
def R_clock_Nanos (cp : FuncId → List AV → Option AV) (_n : Nat) (a0_0 : Int) (a0_1 : Int) (a0_2 : Int) (a0_3 : Int) : Option AV :=
 ((cp F_clock_Check [.agg [.int .i64 a0_0, .int .i64 a0_1, .int .i64 a0_2, .int .i64 a0_3]]).bind fun r1 =>
 (AV.intK .i64 r1 fun i2 =>
 (cond (i2 != 0)
 (some (.tup [.int .i64 0, .int .i64 i2]))
 (bnd (IntKind.i64.wrap ((IntKind.i64.wrap ((IntKind.i64.wrap (a0_0 * 60)) + a0_1)) * 60)) fun y3 =>
 (bnd (IntKind.i64.wrap ((IntKind.i64.wrap (y3 + a0_2)) * 1000000000)) fun y4 =>
 (some (.tup [.int .i64 (IntKind.i64.wrap (y4 + a0_3)), .int .i64 0])))))))
theorem eq_clock_Nanos (n : Nat) (a0_0 : Int) (a0_1 : Int) (a0_2 : Int) (a0_3 : Int) : CP C (n + 1) F_clock_Nanos [.agg [.int .i64 a0_0, .int .i64 a0_1, .int .i64 a0_2, .int .i64 a0_3]] = R_clock_Nanos (CP C n) n a0_0 a0_1 a0_2 a0_3 := by kernel_rfl
-- civil_Leap
def R_civil_Leap (cp : FuncId → List AV → Option AV) (_n : Nat) (a0 : Int) : Option AV :=
 (cond ((Int.tmod a0 4) == 0)
 (cond ((Int.tmod a0 100) != 0)
 (some (.bool true))
 (some (.bool ((Int.tmod a0 400) == 0))))
 (some (.bool ((Int.tmod a0 400) == 0))))
theorem eq_civil_Leap (n : Nat) (a0 : Int) : CP C (n + 1) F_civil_Leap [.int .i64 a0] = R_civil_Leap (CP C n) n a0 := by kernel_rfl
-- civil_months
def R_civil_months (cp : FuncId → List AV → Option AV) (_n : Nat) : Option AV :=
 (some (.agg [.int .i64 0, .int .i64 31, .int .i64 28, .int .i64 31, .int .i64 30, .int .i64 31, .int .i64 30, .int .i64 31, .int .i64 31, .int .i64 30, .int .i64 31, .int .i64 30, .int .i64 31]))
theorem eq_civil_months (n : Nat) : CP C (n + 1) F_civil_months [] = R_civil_months (CP C n) n := by kernel_rfl
-- civil_MonthDays
def S_civil_MonthDays_13 (x0 : Int) (x1 : Int) (b2 : Bool) : St := ⟨[.int .i64 x0, .int .i64 x1, .junk, .junk, .junk, .junk, .junk, .junk, .junk, .junk, .bool b2, .junk, .junk, .junk, .junk, .junk, .junk, .junk, .junk, .junk], []⟩
def S_civil_MonthDays_15 (x0 : Int) : St := ⟨[.junk, .int .i64 x0, .junk, .junk, .junk, .junk, .junk, .junk, .junk, .junk, .junk, .junk, .junk, .junk, .junk, .junk, .junk, .junk, .junk, .junk], []⟩
def T_civil_MonthDays_15 (cp : FuncId → List AV → Option AV) (x0 : Int) : Option AV :=
 ((cp F_civil_months []).bind fun r1 =>
 (AV.aggK r1 fun l2 =>
 (consK l2 fun v3 l4 =>
 (AV.intK .i64 v3 fun i5 =>
 (consK l4 fun v6 l7 =>
 (AV.intK .i64 v6 fun i8 =>
 (consK l7 fun v9 l10 =>
 (AV.intK .i64 v9 fun i11 =>
 (consK l10 fun v12 l13 =>
 (AV.intK .i64 v12 fun i14 =>
 (consK l13 fun v15 l16 =>
 (AV.intK .i64 v15 fun i17 =>
 (consK l16 fun v18 l19 =>
 (AV.intK .i64 v18 fun i20 =>
 (consK l19 fun v21 l22 =>
 (AV.intK .i64 v21 fun i23 =>
 (consK l22 fun v24 l25 =>
 (AV.intK .i64 v24 fun i26 =>
 (consK l25 fun v27 l28 =>
 (AV.intK .i64 v27 fun i29 =>
 (consK l28 fun v30 l31 =>
 (AV.intK .i64 v30 fun i32 =>
 (consK l31 fun v33 l34 =>
 (AV.intK .i64 v33 fun i35 =>
 (consK l34 fun v36 l37 =>
 (AV.intK .i64 v36 fun i38 =>
 (consK l37 fun v39 l40 =>
 (AV.intK .i64 v39 fun i41 =>
 (nilK l40
 (cond ((decide (0 ≤ x0)) && (decide (x0 < 13)))
 (cond (fits ((Int.toNat x0) * 1) 1 [.int .i64 i5, .int .i64 i8, .int .i64 i11, .int .i64 i14, .int .i64 i17, .int .i64 i20, .int .i64 i23, .int .i64 i26, .int .i64 i29, .int .i64 i32, .int .i64 i35, .int .i64 i38, .int .i64 i41])
 (cond (AV.pure (nth [.int .i64 i5, .int .i64 i8, .int .i64 i11, .int .i64 i14, .int .i64 i17, .int .i64 i20, .int .i64 i23, .int .i64 i26, .int .i64 i29, .int .i64 i32, .int .i64 i35, .int .i64 i38, .int .i64 i41] ((Int.toNat x0) * 1)))
 (some ((nth [.int .i64 i5, .int .i64 i8, .int .i64 i11, .int .i64 i14, .int .i64 i17, .int .i64 i20, .int .i64 i23, .int .i64 i26, .int .i64 i29, .int .i64 i32, .int .i64 i35, .int .i64 i38, .int .i64 i41] ((Int.toNat x0) * 1))))
 none)
 none)
 none))))))))))))))))))))))))))))))
theorem K_civil_MonthDays_15 (j : Jump) (n : Nat) (x0 : Int) : enter (topEnv C (CP C n) n F_civil_MonthDays) (some j) (bodyOf C.P F_civil_MonthDays) (endOf C.P F_civil_MonthDays) [true, true, true] [] (S_civil_MonthDays_15 x0) = T_civil_MonthDays_15 (CP C n) x0 := by kernel_rfl
def J_civil_MonthDays_15 (cp : FuncId → List AV → Option AV) (n : Nat) (x0 : Int) : Option AV := T_civil_MonthDays_15 cp x0
theorem JE_civil_MonthDays_15 (n : Nat) (x0 : Int) : jT (topEnv C (CP C n) n F_civil_MonthDays) (bodyOf C.P F_civil_MonthDays) (endOf C.P F_civil_MonthDays) [true, true, true] [] (S_civil_MonthDays_15 x0) = J_civil_MonthDays_15 (CP C n) n x0 :=
  (jT_eq _ _ _ _ _ _).trans ((K_civil_MonthDays_15 _ n x0).trans (rfl))
def T_civil_MonthDays_13 (cp : FuncId → List AV → Option AV) (x0 : Int) (x1 : Int) (b2 : Bool) (j15 : Int → Option AV) : Option AV :=
 (cond b2
 (some (.int .i64 0))
 (cond (x1 == 2)
 ((cp F_civil_Leap [.int .i64 x0]).bind fun r1 =>
 (AV.boolK r1 fun b2 =>
 (cond b2
 (some (.int .i64 29))
 (j15 x1))))
 (j15 x1)))
theorem K_civil_MonthDays_13 (j : Jump) (n : Nat) (x0 : Int) (x1 : Int) (b2 : Bool) : enter (topEnv C (CP C n) n F_civil_MonthDays) (some j) (bodyOf C.P F_civil_MonthDays) (endOf C.P F_civil_MonthDays) [true, false, true] [] (S_civil_MonthDays_13 x0 x1 b2) = T_civil_MonthDays_13 (CP C n) x0 x1 b2 (fun x0 => j [true, true, true] [] (S_civil_MonthDays_15 x0)) := by kernel_rfl
def J_civil_MonthDays_13 (cp : FuncId → List AV → Option AV) (n : Nat) (x0 : Int) (x1 : Int) (b2 : Bool) : Option AV := T_civil_MonthDays_13 cp x0 x1 b2 (J_civil_MonthDays_15 cp n)
theorem JE_civil_MonthDays_13 (n : Nat) (x0 : Int) (x1 : Int) (b2 : Bool) : jT (topEnv C (CP C n) n F_civil_MonthDays) (bodyOf C.P F_civil_MonthDays) (endOf C.P F_civil_MonthDays) [true, false, true] [] (S_civil_MonthDays_13 x0 x1 b2) = J_civil_MonthDays_13 (CP C n) n x0 x1 b2 :=
  (jT_eq _ _ _ _ _ _).trans ((K_civil_MonthDays_13 _ n x0 x1 b2).trans (congrArg (T_civil_MonthDays_13 (CP C n) x0 x1 b2) (funext fun x0 => (JE_civil_MonthDays_15 n) x0)))
def T_civil_MonthDays_1 (cp : FuncId → List AV → Option AV) (a0 : Int) (a1 : Int) (j13 : Int → Int → Bool → Option AV) : Option AV :=
 (cond (decide (a1 < 1))
 (j13 a0 a1 true)
 (j13 a0 a1 (decide (a1 > 12))))
theorem K_civil_MonthDays_1 (j : Jump) (n : Nat) (a0 : Int) (a1 : Int) : ex (topEnv C (CP C n) n F_civil_MonthDays) (some j) (bodyOf C.P F_civil_MonthDays) 1 [] [] (endOf C.P F_civil_MonthDays) (startOf C.P F_civil_MonthDays [.int .i64 a0, .int .i64 a1]) = T_civil_MonthDays_1 (CP C n) a0 a1 (fun x0 x1 b2 => j [true, false, true] [] (S_civil_MonthDays_13 x0 x1 b2)) := by kernel_rfl
def R_civil_MonthDays (cp : FuncId → List AV → Option AV) (n : Nat) (a0 : Int) (a1 : Int) : Option AV := T_civil_MonthDays_1 cp a0 a1 (J_civil_MonthDays_13 cp n)
theorem eq_civil_MonthDays (n : Nat) (a0 : Int) (a1 : Int) : CP C (n + 1) F_civil_MonthDays [.int .i64 a0, .int .i64 a1] = R_civil_MonthDays (CP C n) n a0 a1 :=
  (CP_pure C n F_civil_MonthDays _ (by kernel_rfl) (by kernel_rfl)).trans ((K_civil_MonthDays_1 _ n a0 a1).trans (congrArg (T_civil_MonthDays_1 (CP C n) a0 a1) (funext fun x0 => (funext fun x1 => (funext fun b2 => (JE_civil_MonthDays_13 n) x0 x1 b2)))))
-- civil_Check
def R_civil_Check (cp : FuncId → List AV → Option AV) (_n : Nat) (a0_0 : Int) (a0_1 : Int) (a0_2 : Int) : Option AV :=
 (cond (decide (a0_2 < 1))
 (some (.int .i64 7))
 ((cp F_civil_MonthDays [.int .i64 a0_0, .int .i64 a0_1]).bind fun r1 =>
 (AV.intK .i64 r1 fun i2 =>
 (cond (decide (a0_2 > i2))
 (some (.int .i64 7))
 (cond (decide (a0_0 < (-9999)))
 (some (.int .i64 8))
 (cond (decide (a0_0 > 9999))
 (some (.int .i64 8))
 (some (.int .i64 0))))))))
theorem eq_civil_Check (n : Nat) (a0_0 : Int) (a0_1 : Int) (a0_2 : Int) : CP C (n + 1) F_civil_Check [.agg [.int .i64 a0_0, .int .i64 a0_1, .int .i64 a0_2]] = R_civil_Check (CP C n) n a0_0 a0_1 a0_2 := by kernel_rfl
-- civil_floor
def R_civil_floor (cp : FuncId → List AV → Option AV) (_n : Nat) (a0 : Int) (a1 : Int) : Option AV :=
 (cond (decide (a1 = 0))
 none
 (cond (decide (a1 = 0))
 none
 (cond (decide ((Int.tmod a0 a1) < 0))
 (some (.tup [.int .i64 (IntKind.i64.wrap ((IntKind.i64.wrap (Int.tdiv a0 a1)) - 1)), .int .i64 (IntKind.i64.wrap ((Int.tmod a0 a1) + a1))]))
 (some (.tup [.int .i64 (IntKind.i64.wrap (Int.tdiv a0 a1)), .int .i64 (Int.tmod a0 a1)])))))
theorem eq_civil_floor (n : Nat) (a0 : Int) (a1 : Int) : CP C (n + 1) F_civil_floor [.int .i64 a0, .int .i64 a1] = R_civil_floor (CP C n) n a0 a1 := by kernel_rfl
-- civil_number
def R_civil_number (cp : FuncId → List AV → Option AV) (_n : Nat) (a0 : Int) (a1 : Int) (a2 : Int) : Option AV :=
 (bnd (IntKind.i64.wrap (Int.tdiv (IntKind.i64.wrap (14 - a1)) 12)) fun y1 =>
 ((cp F_civil_floor [.int .i64 (IntKind.i64.wrap (a0 - y1)), .int .i64 400]).bind fun r2 =>
 (AV.tupK r2 fun l3 =>
 (consK l3 fun v4 l5 =>
 (AV.intK .i64 v4 fun i6 =>
 (consK l5 fun v7 l8 =>
 (AV.intK .i64 v7 fun i9 =>
 (nilK l8
 (bnd (IntKind.i64.wrap ((IntKind.i64.wrap (a1 + (IntKind.i64.wrap (12 * y1)))) - 3)) fun y10 =>
 (bnd (IntKind.i64.wrap (Int.tdiv (IntKind.i64.wrap ((IntKind.i64.wrap (153 * y10)) + 2)) 5)) fun y11 =>
 (bnd (IntKind.i64.wrap ((IntKind.i64.wrap (i6 * 146097)) + (IntKind.i64.wrap (i9 * 365)))) fun y12 =>
 (bnd (IntKind.i64.wrap (y12 + (IntKind.i64.wrap (Int.tdiv i9 4)))) fun y13 =>
 (bnd (IntKind.i64.wrap (y13 - (IntKind.i64.wrap (Int.tdiv i9 100)))) fun y14 =>
 (bnd (IntKind.i64.wrap (y14 + (IntKind.i64.wrap ((IntKind.i64.wrap (y11 + a2)) - 1)))) fun y15 =>
 (some (.int .i64 (IntKind.i64.wrap (y15 - 719468))))))))))))))))))
theorem eq_civil_number (n : Nat) (a0 : Int) (a1 : Int) (a2 : Int) : CP C (n + 1) F_civil_number [.int .i64 a0, .int .i64 a1, .int .i64 a2] = R_civil_number (CP C n) n a0 a1 a2 := by kernel_rfl
-- civil_Days
def R_civil_Days (cp : FuncId → List AV → Option AV) (_n : Nat) (a0_0 : Int) (a0_1 : Int) (a0_2 : Int) : Option AV :=
 ((cp F_civil_Check [.agg [.int .i64 a0_0, .int .i64 a0_1, .int .i64 a0_2]]).bind fun r1 =>
 (AV.intK .i64 r1 fun i2 =>
 (cond (i2 != 0)
 (some (.tup [.int .i64 0, .int .i64 i2]))
 ((cp F_civil_number [.int .i64 a0_0, .int .i64 a0_1, .int .i64 a0_2]).bind fun r3 =>
 (AV.intK .i64 r3 fun i4 =>
 (some (.tup [.int .i64 i4, .int .i64 0])))))))
theorem eq_civil_Days (n : Nat) (a0_0 : Int) (a0_1 : Int) (a0_2 : Int) : CP C (n + 1) F_civil_Days [.agg [.int .i64 a0_0, .int .i64 a0_1, .int .i64 a0_2]] = R_civil_Days (CP C n) n a0_0 a0_1 a0_2 := by kernel_rfl
-- civiltime_of
def R_civiltime_of (cp : FuncId → List AV → Option AV) (_n : Nat) (a0_0 : Int) (a0_1 : Int) (a0_2 : Int) (a0_3 : Int) (a0_4 : Int) (a0_5 : Int) (a0_6 : Int) : Option AV :=
 ((cp F_clock_Nanos [.agg [.int .i64 a0_3, .int .i64 a0_4, .int .i64 a0_5, .int .i64 a0_6]]).bind fun r1 =>
 (AV.tupK r1 fun l2 =>
 (consK l2 fun v3 l4 =>
 (AV.intK .i64 v3 fun i5 =>
 (consK l4 fun v6 l7 =>
 (AV.intK .i64 v6 fun i8 =>
 (nilK l7
 (cond (i8 != 0)
 (some (.tup [.agg [.int .i64 0, .int .i64 0], .int .i64 i8]))
 ((cp F_civil_Days [.agg [.int .i64 a0_0, .int .i64 a0_1, .int .i64 a0_2]]).bind fun r9 =>
 (AV.tupK r9 fun l10 =>
 (consK l10 fun v11 l12 =>
 (AV.intK .i64 v11 fun i13 =>
 (consK l12 fun v14 l15 =>
 (AV.intK .i64 v14 fun i16 =>
 (nilK l15
 (cond (i16 != 0)
 (some (.tup [.agg [.int .i64 0, .int .i64 0], .int .i64 i16]))
 (some (.tup [.agg [.int .i64 i13, .int .i64 i5], .int .i64 0]))))))))))))))))))
theorem eq_civiltime_of (n : Nat) (a0_0 : Int) (a0_1 : Int) (a0_2 : Int) (a0_3 : Int) (a0_4 : Int) (a0_5 : Int) (a0_6 : Int) : CP C (n + 1) F_civiltime_of [.agg [.int .i64 a0_0, .int .i64 a0_1, .int .i64 a0_2, .int .i64 a0_3, .int .i64 a0_4, .int .i64 a0_5, .int .i64 a0_6]] = R_civiltime_of (CP C n) n a0_0 a0_1 a0_2 a0_3 a0_4 a0_5 a0_6 := by kernel_rfl
-- civiltime_day_seconds
def R_civiltime_day_seconds (cp : FuncId → List AV → Option AV) (_n : Nat) (a0_0 : Int) : Option AV :=
 (some (.int .i64 (IntKind.i64.wrap (a0_0 * 86400))))
theorem eq_civiltime_day_seconds (n : Nat) (a0_0 : Int) : CP C (n + 1) F_civiltime_day_seconds [.agg [.int .i64 a0_0]] = R_civiltime_day_seconds (CP C n) n a0_0 := by kernel_rfl
-- civiltime_Secs
def R_civiltime_Secs (cp : FuncId → List AV → Option AV) (_n : Nat) (a0_0 : Int) (a0_1 : Int) (a0_2 : Int) (a0_3 : Int) (a0_4 : Int) (a0_5 : Int) (a0_6 : Int) : Option AV :=
 ((cp F_civiltime_of [.agg [.int .i64 a0_0, .int .i64 a0_1, .int .i64 a0_2, .int .i64 a0_3, .int .i64 a0_4, .int .i64 a0_5, .int .i64 a0_6]]).bind fun r1 =>
 (AV.tupK r1 fun l2 =>
 (consK l2 fun v3 l4 =>
 (AV.aggK v3 fun l5 =>
 (consK l5 fun v6 l7 =>
 (AV.intK .i64 v6 fun i8 =>
 (consK l7 fun v9 l10 =>
 (AV.intK .i64 v9 fun i11 =>
 (nilK l10
 (consK l4 fun v12 l13 =>
 (AV.intK .i64 v12 fun i14 =>
 (nilK l13
 (cond (i14 != 0)
 (some (.tup [.int .i64 0, .int .i64 i14]))
 ((cp F_civiltime_day_seconds [.agg [.int .i64 i8]]).bind fun r15 =>
 (AV.intK .i64 r15 fun i16 =>
 (bnd (IntKind.i64.wrap (i16 + (IntKind.i64.wrap (Int.tdiv i11 1000000000)))) fun y17 =>
 (some (.tup [.int .i64 y17, .int .i64 0]))))))))))))))))))
theorem eq_civiltime_Secs (n : Nat) (a0_0 : Int) (a0_1 : Int) (a0_2 : Int) (a0_3 : Int) (a0_4 : Int) (a0_5 : Int) (a0_6 : Int) : CP C (n + 1) F_civiltime_Secs [.agg [.int .i64 a0_0, .int .i64 a0_1, .int .i64 a0_2, .int .i64 a0_3, .int .i64 a0_4, .int .i64 a0_5, .int .i64 a0_6]] = R_civiltime_Secs (CP C n) n a0_0 a0_1 a0_2 a0_3 a0_4 a0_5 a0_6 := by kernel_rfl
-- civil_DateOf
def R_civil_DateOf (cp : FuncId → List AV → Option AV) (_n : Nat) (a0 : Int) : Option AV :=
 (cond (decide (a0 < (-4371587)))
 (some (.tup [.agg [.int .i64 0, .int .i64 0, .int .i64 0], .int .i64 8]))
 (cond (decide (a0 > 2932896))
 (some (.tup [.agg [.int .i64 0, .int .i64 0, .int .i64 0], .int .i64 8]))
 ((cp F_civil_floor [.int .i64 (IntKind.i64.wrap (a0 + 719468)), .int .i64 146097]).bind fun r1 =>
 (AV.tupK r1 fun l2 =>
 (consK l2 fun v3 l4 =>
 (AV.intK .i64 v3 fun i5 =>
 (consK l4 fun v6 l7 =>
 (AV.intK .i64 v6 fun i8 =>
 (nilK l7
 (bnd (if 3 < (IntKind.i64.wrap (Int.tdiv i8 36524)) then 3 else (IntKind.i64.wrap (Int.tdiv i8 36524))) fun y9 =>
 (bnd (IntKind.i64.wrap (Int.tdiv (IntKind.i64.wrap (i8 - (IntKind.i64.wrap (y9 * 36524)))) 1461)) fun y10 =>
 (bnd (IntKind.i64.wrap ((IntKind.i64.wrap (i8 - (IntKind.i64.wrap (y9 * 36524)))) - (IntKind.i64.wrap (y10 * 1461)))) fun y11 =>
 (bnd (if 3 < (IntKind.i64.wrap (Int.tdiv y11 365)) then 3 else (IntKind.i64.wrap (Int.tdiv y11 365))) fun y12 =>
 (bnd (IntKind.i64.wrap (5 * (IntKind.i64.wrap (y11 - (IntKind.i64.wrap (y12 * 365)))))) fun y13 =>
 (bnd (IntKind.i64.wrap (Int.tdiv (IntKind.i64.wrap (y13 + 2)) 153)) fun y14 =>
 (bnd (IntKind.i64.wrap (Int.tdiv (IntKind.i64.wrap ((IntKind.i64.wrap (153 * y14)) + 2)) 5)) fun y15 =>
 (bnd (IntKind.i64.wrap ((IntKind.i64.wrap (y11 - (IntKind.i64.wrap (y12 * 365)))) - y15)) fun y16 =>
 (bnd (IntKind.i64.wrap ((IntKind.i64.wrap (400 * i5)) + (IntKind.i64.wrap (100 * y9)))) fun y17 =>
 (bnd (IntKind.i64.wrap ((IntKind.i64.wrap (y17 + (IntKind.i64.wrap (4 * y10)))) + y12)) fun y18 =>
 (cond (decide ((IntKind.i64.wrap (y14 + 3)) > 12))
 (some (.tup [.agg [.int .i64 (IntKind.i64.wrap (y18 + 1)), .int .i64 (IntKind.i64.wrap ((IntKind.i64.wrap (y14 + 3)) - 12)), .int .i64 (IntKind.i64.wrap (y16 + 1))], .int .i64 0]))
 (some (.tup [.agg [.int .i64 y18, .int .i64 (IntKind.i64.wrap (y14 + 3)), .int .i64 (IntKind.i64.wrap (y16 + 1))], .int .i64 0]))))))))))))))))))))))
theorem eq_civil_DateOf (n : Nat) (a0 : Int) : CP C (n + 1) F_civil_DateOf [.int .i64 a0] = R_civil_DateOf (CP C n) n a0 := by kernel_rfl
-- civiltime_day_date
def R_civiltime_day_date (cp : FuncId → List AV → Option AV) (_n : Nat) (a0_0 : Int) : Option AV :=
 ((cp F_civil_DateOf [.int .i64 a0_0]).bind fun r1 =>
 (AV.tupK r1 fun l2 =>
 (consK l2 fun v3 l4 =>
 (AV.aggK v3 fun l5 =>
 (consK l5 fun v6 l7 =>
 (AV.intK .i64 v6 fun i8 =>
 (consK l7 fun v9 l10 =>
 (AV.intK .i64 v9 fun i11 =>
 (consK l10 fun v12 l13 =>
 (AV.intK .i64 v12 fun i14 =>
 (nilK l13
 (consK l4 fun v15 l16 =>
 (AV.intK .i64 v15 fun i17 =>
 (nilK l16
 (some (.tup [.agg [.int .i64 i8, .int .i64 i11, .int .i64 i14], .int .i64 i17]))))))))))))))))
theorem eq_civiltime_day_date (n : Nat) (a0_0 : Int) : CP C (n + 1) F_civiltime_day_date [.agg [.int .i64 a0_0]] = R_civiltime_day_date (CP C n) n a0_0 := by kernel_rfl
-- clock_Of
def R_clock_Of (cp : FuncId → List AV → Option AV) (_n : Nat) (a0 : Int) : Option AV :=
 (cond (decide (a0 < 0))
 (some (.tup [.agg [.int .i64 0, .int .i64 0, .int .i64 0, .int .i64 0], .int .i64 8]))
 (cond (decide (a0 ≥ 86400000000000))
 (some (.tup [.agg [.int .i64 0, .int .i64 0, .int .i64 0, .int .i64 0], .int .i64 8]))
 (bnd (IntKind.i64.wrap (Int.tdiv (IntKind.i64.wrap (Int.tdiv a0 1000000000)) 3600)) fun y1 =>
 (bnd (IntKind.i64.wrap (Int.tdiv (IntKind.i64.wrap (Int.tdiv a0 1000000000)) 60)) fun y2 =>
 (some (.tup [.agg [.int .i64 y1, .int .i64 (Int.tmod y2 60), .int .i64 (Int.tmod (IntKind.i64.wrap (Int.tdiv a0 1000000000)) 60), .int .i64 (Int.tmod a0 1000000000)], .int .i64 0]))))))
theorem eq_clock_Of (n : Nat) (a0 : Int) : CP C (n + 1) F_clock_Of [.int .i64 a0] = R_clock_Of (CP C n) n a0 := by kernel_rfl
-- civiltime_reading_civil
def R_civiltime_reading_civil (cp : FuncId → List AV → Option AV) (_n : Nat) (a0_0 : Int) (a0_1 : Int) : Option AV :=
 ((cp F_civiltime_day_date [.agg [.int .i64 a0_0]]).bind fun r1 =>
 (AV.tupK r1 fun l2 =>
 (consK l2 fun v3 l4 =>
 (AV.aggK v3 fun l5 =>
 (consK l5 fun v6 l7 =>
 (AV.intK .i64 v6 fun i8 =>
 (consK l7 fun v9 l10 =>
 (AV.intK .i64 v9 fun i11 =>
 (consK l10 fun v12 l13 =>
 (AV.intK .i64 v12 fun i14 =>
 (nilK l13
 (consK l4 fun v15 l16 =>
 (AV.intK .i64 v15 fun i17 =>
 (nilK l16
 (cond (i17 != 0)
 (some (.tup [.agg [.int .i64 0, .int .i64 0, .int .i64 0, .int .i64 0, .int .i64 0, .int .i64 0, .int .i64 0], .int .i64 i17]))
 ((cp F_clock_Of [.int .i64 a0_1]).bind fun r18 =>
 (AV.tupK r18 fun l19 =>
 (consK l19 fun v20 l21 =>
 (AV.aggK v20 fun l22 =>
 (consK l22 fun v23 l24 =>
 (AV.intK .i64 v23 fun i25 =>
 (consK l24 fun v26 l27 =>
 (AV.intK .i64 v26 fun i28 =>
 (consK l27 fun v29 l30 =>
 (AV.intK .i64 v29 fun i31 =>
 (consK l30 fun v32 l33 =>
 (AV.intK .i64 v32 fun i34 =>
 (nilK l33
 (consK l21 fun v35 l36 =>
 (AV.intK .i64 v35 fun i37 =>
 (nilK l36
 (some (.tup [.agg [.int .i64 i8, .int .i64 i11, .int .i64 i14, .int .i64 i25, .int .i64 i28, .int .i64 i31, .int .i64 i34], .int .i64 i37])))))))))))))))))))))))))))))))))
theorem eq_civiltime_reading_civil (n : Nat) (a0_0 : Int) (a0_1 : Int) : CP C (n + 1) F_civiltime_reading_civil [.agg [.int .i64 a0_0, .int .i64 a0_1]] = R_civiltime_reading_civil (CP C n) n a0_0 a0_1 := by kernel_rfl
-- civiltime_Of
def R_civiltime_Of (cp : FuncId → List AV → Option AV) (_n : Nat) (a0 : Int) (a1 : Int) : Option AV :=
 (cond (decide (a1 < 0))
 (some (.tup [.agg [.int .i64 0, .int .i64 0, .int .i64 0, .int .i64 0, .int .i64 0, .int .i64 0, .int .i64 0], .int .i64 5]))
 (cond (decide (a1 ≥ 1000000000))
 (some (.tup [.agg [.int .i64 0, .int .i64 0, .int .i64 0, .int .i64 0, .int .i64 0, .int .i64 0, .int .i64 0], .int .i64 5]))
 (cond (decide (a0 < (-377705116800)))
 (some (.tup [.agg [.int .i64 0, .int .i64 0, .int .i64 0, .int .i64 0, .int .i64 0, .int .i64 0, .int .i64 0], .int .i64 8]))
 (cond (decide (a0 > 253402300799))
 (some (.tup [.agg [.int .i64 0, .int .i64 0, .int .i64 0, .int .i64 0, .int .i64 0, .int .i64 0, .int .i64 0], .int .i64 8]))
 (bnd (IntKind.i64.wrap (Int.tdiv (IntKind.i64.wrap (a0 - (-377705116800))) 86400)) fun y1 =>
 (bnd (IntKind.i64.wrap ((Int.tmod (IntKind.i64.wrap (a0 - (-377705116800))) 86400) * 1000000000)) fun y2 =>
 ((cp F_civiltime_reading_civil [.agg [.int .i64 (IntKind.i64.wrap ((-4371587) + y1)), .int .i64 (IntKind.i64.wrap (y2 + a1))]]).bind fun r3 =>
 (AV.tupK r3 fun l4 =>
 (consK l4 fun v5 l6 =>
 (AV.aggK v5 fun l7 =>
 (consK l7 fun v8 l9 =>
 (AV.intK .i64 v8 fun i10 =>
 (consK l9 fun v11 l12 =>
 (AV.intK .i64 v11 fun i13 =>
 (consK l12 fun v14 l15 =>
 (AV.intK .i64 v14 fun i16 =>
 (consK l15 fun v17 l18 =>
 (AV.intK .i64 v17 fun i19 =>
 (consK l18 fun v20 l21 =>
 (AV.intK .i64 v20 fun i22 =>
 (consK l21 fun v23 l24 =>
 (AV.intK .i64 v23 fun i25 =>
 (consK l24 fun v26 l27 =>
 (AV.intK .i64 v26 fun i28 =>
 (nilK l27
 (consK l6 fun v29 l30 =>
 (AV.intK .i64 v29 fun i31 =>
 (nilK l30
 (some (.tup [.agg [.int .i64 i10, .int .i64 i13, .int .i64 i16, .int .i64 i19, .int .i64 i22, .int .i64 i25, .int .i64 i28], .int .i64 i31]))))))))))))))))))))))))))))))
theorem eq_civiltime_Of (n : Nat) (a0 : Int) (a1 : Int) : CP C (n + 1) F_civiltime_Of [.int .i64 a0, .int .i64 a1] = R_civiltime_Of (CP C n) n a0 a1 := by kernel_rfl
-- dur_Check
def R_dur_Check (cp : FuncId → List AV → Option AV) (_n : Nat) (a0_0 : Int) (a0_1 : Int) : Option AV :=
 (cond (decide (a0_1 < 0))
 (some (.int .i64 5))
 (cond (decide (a0_1 ≥ 1000000000))
 (some (.int .i64 5))
 (cond (decide (a0_0 > 1099511627776))
 (some (.int .i64 8))
 (cond (decide (a0_0 < (-1099511627776)))
 (some (.int .i64 8))
 (cond ((a0_0 == 1099511627776) && ((a0_1 == (if 1 > a0_1 then 1 else a0_1)) && true))
 (some (.int .i64 8))
 (some (.int .i64 0)))))))
theorem eq_dur_Check (n : Nat) (a0_0 : Int) (a0_1 : Int) : CP C (n + 1) F_dur_Check [.agg [.int .i64 a0_0, .int .i64 a0_1]] = R_dur_Check (CP C n) n a0_0 a0_1 := by kernel_rfl
-- clock_Add
def S_clock_Add_1016 (x0 : Int) (x1 : Int) : St := ⟨[.junk, .junk, .junk, .junk, .ptr (some (2, 0)), .junk, .junk, .int .i64 x0, .junk, .junk, .int .i64 x1, .junk, .junk, .junk, .junk, .junk, .junk, .junk, .junk, .junk, .junk, .junk, .junk, .junk, .junk, .junk, .junk, .junk, .junk, .junk, .junk, .junk, .junk, .junk, .junk, .junk, .junk, .junk, .junk, .junk, .junk, .junk, .junk, .junk, .junk, .junk, .junk, .junk, .junk, .junk, .junk, .junk, .junk, .junk, .junk, .junk, .junk, .junk, .junk, .junk, .junk], [.dead, .dead, .cells 25 [.int .i64 0, .int .i64 0, .int .i64 0, .int .i64 0]]⟩
def S_clock_Add_2040 (x0 : Int) (x1 : Int) : St := ⟨[.junk, .junk, .junk, .junk, .ptr (some (2, 0)), .junk, .junk, .int .i64 x0, .junk, .junk, .int .i64 x1, .junk, .junk, .junk, .junk, .junk, .junk, .junk, .junk, .junk, .junk, .junk, .junk, .junk, .junk, .junk, .junk, .junk, .junk, .junk, .junk, .junk, .junk, .junk, .junk, .junk, .junk, .junk, .junk, .junk, .junk, .junk, .junk, .junk, .junk, .junk, .junk, .junk, .junk, .junk, .junk, .junk, .junk, .junk, .junk, .junk, .junk, .junk, .junk, .junk, .junk], [.dead, .dead, .cells 25 [.int .i64 0, .int .i64 0, .int .i64 0, .int .i64 0]]⟩
def T_clock_Add_2040 (cp : FuncId → List AV → Option AV) (x0 : Int) (x1 : Int) (r2040 : Int → Int → Option AV) : Option AV :=
 (cond (decide (x0 ≥ 86400000000000))
 (r2040 (IntKind.i64.wrap (x0 - 86400000000000)) (IntKind.i64.wrap (x1 + 1)))
 ((cp F_clock_Of [.int .i64 x0]).bind fun r1 =>
 (AV.tupK r1 fun l2 =>
 (consK l2 fun v3 l4 =>
 (AV.aggK v3 fun l5 =>
 (consK l5 fun v6 l7 =>
 (AV.intK .i64 v6 fun i8 =>
 (consK l7 fun v9 l10 =>
 (AV.intK .i64 v9 fun i11 =>
 (consK l10 fun v12 l13 =>
 (AV.intK .i64 v12 fun i14 =>
 (consK l13 fun v15 l16 =>
 (AV.intK .i64 v15 fun i17 =>
 (nilK l16
 (consK l4 fun v18 l19 =>
 (AV.intK .i64 v18 fun i20 =>
 (nilK l19
 (some (.tup [.agg [.int .i64 i8, .int .i64 i11, .int .i64 i14, .int .i64 i17], .int .i64 x1, .int .i64 0])))))))))))))))))))
theorem K_clock_Add_2040 (j : Jump) (n : Nat) (m2040 : Nat) (x0 : Int) (x1 : Int) : enter (topEnv C (CP C n) n F_clock_Add) (some j) (bodyOf C.P F_clock_Add) (endOf C.P F_clock_Add) [false, false, false, true, true, true, true, true, true, true] [(m2040 + 1)] (S_clock_Add_2040 x0 x1) = T_clock_Add_2040 (CP C n) x0 x1 (fun x0 x1 => j [false, false, false, true, true, true, true, true, true, true] [m2040] (S_clock_Add_2040 x0 x1)) := by kernel_rfl
def J_clock_Add_2040 (cp : FuncId → List AV → Option AV) (n : Nat) : Nat → Int → Int → Option AV
  | 0 => (fun x0 x1 => none)
  | m + 1 => (fun x0 x1 => T_clock_Add_2040 cp x0 x1 (J_clock_Add_2040 cp n m))
theorem Js_clock_Add_2040 (cp : FuncId → List AV → Option AV) (n : Nat) (m : Nat) (x0 : Int) (x1 : Int) : J_clock_Add_2040 cp n (m + 1) x0 x1 = T_clock_Add_2040 cp x0 x1 (J_clock_Add_2040 cp n m) := of_eq_true (eq_self _)
theorem JE_clock_Add_2040 (n : Nat) : ∀ (m : Nat) (x0 : Int) (x1 : Int), jT (topEnv C (CP C n) n F_clock_Add) (bodyOf C.P F_clock_Add) (endOf C.P F_clock_Add) [false, false, false, true, true, true, true, true, true, true] [m] (S_clock_Add_2040 x0 x1) = J_clock_Add_2040 (CP C n) n m x0 x1
  | 0, x0, x1 => (jT_eq _ _ _ _ _ _).trans (by kernel_rfl)
  | m + 1, x0, x1 => (jT_eq _ _ _ _ _ _).trans ((K_clock_Add_2040 _ n m x0 x1).trans (congrArg (T_clock_Add_2040 (CP C n) x0 x1) (funext fun x0 => (funext fun x1 => (JE_clock_Add_2040 n m) x0 x1))))
def T_clock_Add_1016 (cp : FuncId → List AV → Option AV) (x0 : Int) (x1 : Int) (r1016 : Int → Int → Option AV) (j2040 : Int → Int → Option AV) : Option AV :=
 (cond (decide (x0 < 0))
 (r1016 (IntKind.i64.wrap (x0 + 86400000000000)) (IntKind.i64.wrap (x1 - 1)))
 (j2040 x0 x1))
theorem K_clock_Add_1016 (j : Jump) (n : Nat) (m1016 : Nat) (x0 : Int) (x1 : Int) : enter (topEnv C (CP C n) n F_clock_Add) (some j) (bodyOf C.P F_clock_Add) (endOf C.P F_clock_Add) [false, false, false, true, true, true, true, true, true] [(m1016 + 1)] (S_clock_Add_1016 x0 x1) = T_clock_Add_1016 (CP C n) x0 x1 (fun x0 x1 => j [false, false, false, true, true, true, true, true, true] [m1016] (S_clock_Add_1016 x0 x1)) (fun x0 x1 => j [false, false, false, true, true, true, true, true, true, true] [(n + 300)] (S_clock_Add_2040 x0 x1)) := by kernel_rfl
def J_clock_Add_1016 (cp : FuncId → List AV → Option AV) (n : Nat) : Nat → Int → Int → Option AV
  | 0 => (fun x0 x1 => none)
  | m + 1 => (fun x0 x1 => T_clock_Add_1016 cp x0 x1 (J_clock_Add_1016 cp n m) (J_clock_Add_2040 cp n (n + 300)))
theorem Js_clock_Add_1016 (cp : FuncId → List AV → Option AV) (n : Nat) (m : Nat) (x0 : Int) (x1 : Int) : J_clock_Add_1016 cp n (m + 1) x0 x1 = T_clock_Add_1016 cp x0 x1 (J_clock_Add_1016 cp n m) (J_clock_Add_2040 cp n (n + 300)) := of_eq_true (eq_self _)
theorem JE_clock_Add_1016 (n : Nat) : ∀ (m : Nat) (x0 : Int) (x1 : Int), jT (topEnv C (CP C n) n F_clock_Add) (bodyOf C.P F_clock_Add) (endOf C.P F_clock_Add) [false, false, false, true, true, true, true, true, true] [m] (S_clock_Add_1016 x0 x1) = J_clock_Add_1016 (CP C n) n m x0 x1
  | 0, x0, x1 => (jT_eq _ _ _ _ _ _).trans (by kernel_rfl)
  | m + 1, x0, x1 => (jT_eq _ _ _ _ _ _).trans ((K_clock_Add_1016 _ n m x0 x1).trans (congr (congrArg (T_clock_Add_1016 (CP C n) x0 x1) (funext fun x0 => (funext fun x1 => (JE_clock_Add_1016 n m) x0 x1))) (funext fun x0 => (funext fun x1 => (JE_clock_Add_2040 n (n + 300)) x0 x1))))
def T_clock_Add_1 (cp : FuncId → List AV → Option AV) (a0_0 : Int) (a0_1 : Int) (a0_2 : Int) (a0_3 : Int) (a1_0 : Int) (a1_1 : Int) (j1016 : Int → Int → Option AV) : Option AV :=
 ((cp F_clock_Nanos [.agg [.int .i64 a0_0, .int .i64 a0_1, .int .i64 a0_2, .int .i64 a0_3]]).bind fun r1 =>
 (AV.tupK r1 fun l2 =>
 (consK l2 fun v3 l4 =>
 (AV.intK .i64 v3 fun i5 =>
 (consK l4 fun v6 l7 =>
 (AV.intK .i64 v6 fun i8 =>
 (nilK l7
 (cond (i8 != 0)
 (some (.tup [.agg [.int .i64 0, .int .i64 0, .int .i64 0, .int .i64 0], .int .i64 0, .int .i64 i8]))
 ((cp F_dur_Check [.agg [.int .i64 a1_0, .int .i64 a1_1]]).bind fun r9 =>
 (AV.intK .i64 r9 fun i10 =>
 (cond (i10 != 0)
 (some (.tup [.agg [.int .i64 0, .int .i64 0, .int .i64 0, .int .i64 0], .int .i64 0, .int .i64 i10]))
 (bnd (IntKind.i64.wrap ((IntKind.i64.wrap ((Int.tmod a1_0 86400) * 1000000000)) + a1_1)) fun y11 =>
 (j1016 (IntKind.i64.wrap (i5 + y11)) (IntKind.i64.wrap (Int.tdiv a1_0 86400)))))))))))))))
theorem K_clock_Add_1 (j : Jump) (n : Nat) (a0_0 : Int) (a0_1 : Int) (a0_2 : Int) (a0_3 : Int) (a1_0 : Int) (a1_1 : Int) : ex (topEnv C (CP C n) n F_clock_Add) (some j) (bodyOf C.P F_clock_Add) 1 [] [] (endOf C.P F_clock_Add) (startOf C.P F_clock_Add [.agg [.int .i64 a0_0, .int .i64 a0_1, .int .i64 a0_2, .int .i64 a0_3], .agg [.int .i64 a1_0, .int .i64 a1_1]]) = T_clock_Add_1 (CP C n) a0_0 a0_1 a0_2 a0_3 a1_0 a1_1 (fun x0 x1 => j [false, false, false, true, true, true, true, true, true] [(n + 300)] (S_clock_Add_1016 x0 x1)) := by kernel_rfl
def R_clock_Add (cp : FuncId → List AV → Option AV) (n : Nat) (a0_0 : Int) (a0_1 : Int) (a0_2 : Int) (a0_3 : Int) (a1_0 : Int) (a1_1 : Int) : Option AV := T_clock_Add_1 cp a0_0 a0_1 a0_2 a0_3 a1_0 a1_1 (J_clock_Add_1016 cp n (n + 300))
theorem eq_clock_Add (n : Nat) (a0_0 : Int) (a0_1 : Int) (a0_2 : Int) (a0_3 : Int) (a1_0 : Int) (a1_1 : Int) : CP C (n + 1) F_clock_Add [.agg [.int .i64 a0_0, .int .i64 a0_1, .int .i64 a0_2, .int .i64 a0_3], .agg [.int .i64 a1_0, .int .i64 a1_1]] = R_clock_Add (CP C n) n a0_0 a0_1 a0_2 a0_3 a1_0 a1_1 :=
  (CP_pure C n F_clock_Add _ (by kernel_rfl) (by kernel_rfl)).trans ((K_clock_Add_1 _ n a0_0 a0_1 a0_2 a0_3 a1_0 a1_1).trans (congrArg (T_clock_Add_1 (CP C n) a0_0 a0_1 a0_2 a0_3 a1_0 a1_1) (funext fun x0 => (funext fun x1 => (JE_clock_Add_1016 n (n + 300)) x0 x1))))
-- civiltime_Add
def S_civiltime_Add_61 (x0 : Int) (x1 : Int) (b2 : Bool) (x3 : Int) (x4 : Int) (x5 : Int) (x6 : Int) (x7 : Int) (x8 : Int) (x9 : Int) (x10 : Int) (x11 : Int) (x12 : Int) (x13 : Int) : St := ⟨[.junk, .junk, .ptr (some (0, 0)), .ptr (some (1, 0)), .ptr (some (2, 0)), .junk, .ptr (some (3, 0)), .int .i64 x0, .int .i64 x1, .junk, .junk, .junk, .junk, .junk, .junk, .junk, .junk, .junk, .junk, .junk, .junk, .junk, .junk, .junk, .junk, .junk, .junk, .junk, .junk, .junk, .junk, .bool b2, .junk, .junk, .junk, .junk, .junk, .junk, .junk, .junk, .junk, .junk, .junk, .junk, .junk, .junk, .junk, .junk, .junk, .junk, .junk, .junk, .junk, .junk, .junk, .junk, .junk, .junk, .junk, .junk, .junk, .junk], [.cells 27 [.int .i64 x3, .int .i64 x4, .int .i64 x5, .int .i64 x6, .int .i64 x7, .int .i64 x8, .int .i64 x9], .cells 43 [.int .i64 x10, .int .i64 x11], .cells 27 [.int .i64 0, .int .i64 0, .int .i64 0, .int .i64 0, .int .i64 0, .int .i64 0, .int .i64 0], .cells 56 [.int .i64 x12, .int .i64 x13]]⟩
def T_civiltime_Add_61 (cp : FuncId → List AV → Option AV) (x0 : Int) (x1 : Int) (b2 : Bool) (x3 : Int) (x4 : Int) (x5 : Int) (x6 : Int) (x7 : Int) (x8 : Int) (x9 : Int) (x10 : Int) (x11 : Int) (x12 : Int) (x13 : Int) : Option AV :=
 (cond b2
 (some (.tup [.agg [.int .i64 0, .int .i64 0, .int .i64 0, .int .i64 0, .int .i64 0, .int .i64 0, .int .i64 0], .int .i64 x0]))
 (cond (x1 != 0)
 (some (.tup [.agg [.int .i64 0, .int .i64 0, .int .i64 0, .int .i64 0, .int .i64 0, .int .i64 0, .int .i64 0], .int .i64 x1]))
 ((cp F_clock_Add [.agg [.int .i64 x6, .int .i64 x7, .int .i64 x8, .int .i64 x9], .agg [.int .i64 x10, .int .i64 x11]]).bind fun r1 =>
 (AV.tupK r1 fun l2 =>
 (consK l2 fun v3 l4 =>
 (AV.aggK v3 fun l5 =>
 (consK l5 fun v6 l7 =>
 (AV.intK .i64 v6 fun i8 =>
 (consK l7 fun v9 l10 =>
 (AV.intK .i64 v9 fun i11 =>
 (consK l10 fun v12 l13 =>
 (AV.intK .i64 v12 fun i14 =>
 (consK l13 fun v15 l16 =>
 (AV.intK .i64 v15 fun i17 =>
 (nilK l16
 (consK l4 fun v18 l19 =>
 (AV.intK .i64 v18 fun i20 =>
 (consK l19 fun v21 l22 =>
 (AV.intK .i64 v21 fun i23 =>
 (nilK l22
 ((cp F_clock_Nanos [.agg [.int .i64 i8, .int .i64 i11, .int .i64 i14, .int .i64 i17]]).bind fun r24 =>
 (AV.tupK r24 fun l25 =>
 (consK l25 fun v26 l27 =>
 (AV.intK .i64 v26 fun i28 =>
 (consK l27 fun v29 l30 =>
 (AV.intK .i64 v29 fun i31 =>
 (nilK l30
 ((cp F_civiltime_reading_civil [.agg [.int .i64 (IntKind.i64.wrap (x12 + i20)), .int .i64 i28]]).bind fun r32 =>
 (AV.tupK r32 fun l33 =>
 (consK l33 fun v34 l35 =>
 (AV.aggK v34 fun l36 =>
 (consK l36 fun v37 l38 =>
 (AV.intK .i64 v37 fun i39 =>
 (consK l38 fun v40 l41 =>
 (AV.intK .i64 v40 fun i42 =>
 (consK l41 fun v43 l44 =>
 (AV.intK .i64 v43 fun i45 =>
 (consK l44 fun v46 l47 =>
 (AV.intK .i64 v46 fun i48 =>
 (consK l47 fun v49 l50 =>
 (AV.intK .i64 v49 fun i51 =>
 (consK l50 fun v52 l53 =>
 (AV.intK .i64 v52 fun i54 =>
 (consK l53 fun v55 l56 =>
 (AV.intK .i64 v55 fun i57 =>
 (nilK l56
 (consK l35 fun v58 l59 =>
 (AV.intK .i64 v58 fun i60 =>
 (nilK l59
 (some (.tup [.agg [.int .i64 i39, .int .i64 i42, .int .i64 i45, .int .i64 i48, .int .i64 i51, .int .i64 i54, .int .i64 i57], .int .i64 i60])))))))))))))))))))))))))))))))))))))))))))))))))))
theorem K_civiltime_Add_61 (j : Jump) (n : Nat) (x0 : Int) (x1 : Int) (b2 : Bool) (x3 : Int) (x4 : Int) (x5 : Int) (x6 : Int) (x7 : Int) (x8 : Int) (x9 : Int) (x10 : Int) (x11 : Int) (x12 : Int) (x13 : Int) : enter (topEnv C (CP C n) n F_civiltime_Add) (some j) (bodyOf C.P F_civiltime_Add) (endOf C.P F_civiltime_Add) [true, false, true, true, true] [] (S_civiltime_Add_61 x0 x1 b2 x3 x4 x5 x6 x7 x8 x9 x10 x11 x12 x13) = T_civiltime_Add_61 (CP C n) x0 x1 b2 x3 x4 x5 x6 x7 x8 x9 x10 x11 x12 x13 := by kernel_rfl
def J_civiltime_Add_61 (cp : FuncId → List AV → Option AV) (n : Nat) (x0 : Int) (x1 : Int) (b2 : Bool) (x3 : Int) (x4 : Int) (x5 : Int) (x6 : Int) (x7 : Int) (x8 : Int) (x9 : Int) (x10 : Int) (x11 : Int) (x12 : Int) (x13 : Int) : Option AV := T_civiltime_Add_61 cp x0 x1 b2 x3 x4 x5 x6 x7 x8 x9 x10 x11 x12 x13
theorem JE_civiltime_Add_61 (n : Nat) (x0 : Int) (x1 : Int) (b2 : Bool) (x3 : Int) (x4 : Int) (x5 : Int) (x6 : Int) (x7 : Int) (x8 : Int) (x9 : Int) (x10 : Int) (x11 : Int) (x12 : Int) (x13 : Int) : jT (topEnv C (CP C n) n F_civiltime_Add) (bodyOf C.P F_civiltime_Add) (endOf C.P F_civiltime_Add) [true, false, true, true, true] [] (S_civiltime_Add_61 x0 x1 b2 x3 x4 x5 x6 x7 x8 x9 x10 x11 x12 x13) = J_civiltime_Add_61 (CP C n) n x0 x1 b2 x3 x4 x5 x6 x7 x8 x9 x10 x11 x12 x13 :=
  (jT_eq _ _ _ _ _ _).trans ((K_civiltime_Add_61 _ n x0 x1 b2 x3 x4 x5 x6 x7 x8 x9 x10 x11 x12 x13).trans (rfl))
def T_civiltime_Add_1 (cp : FuncId → List AV → Option AV) (a0_0 : Int) (a0_1 : Int) (a0_2 : Int) (a0_3 : Int) (a0_4 : Int) (a0_5 : Int) (a0_6 : Int) (a1_0 : Int) (a1_1 : Int) (j61 : Int → Int → Bool → Int → Int → Int → Int → Int → Int → Int → Int → Int → Int → Int → Option AV) : Option AV :=
 ((cp F_civiltime_of [.agg [.int .i64 a0_0, .int .i64 a0_1, .int .i64 a0_2, .int .i64 a0_3, .int .i64 a0_4, .int .i64 a0_5, .int .i64 a0_6]]).bind fun r1 =>
 (AV.tupK r1 fun l2 =>
 (consK l2 fun v3 l4 =>
 (AV.aggK v3 fun l5 =>
 (consK l5 fun v6 l7 =>
 (AV.intK .i64 v6 fun i8 =>
 (consK l7 fun v9 l10 =>
 (AV.intK .i64 v9 fun i11 =>
 (nilK l10
 (consK l4 fun v12 l13 =>
 (AV.intK .i64 v12 fun i14 =>
 (nilK l13
 ((cp F_dur_Check [.agg [.int .i64 a1_0, .int .i64 a1_1]]).bind fun r15 =>
 (AV.intK .i64 r15 fun i16 =>
 (cond (i14 != 0)
 (cond (i16 == 0)
 (j61 i14 i16 true a0_0 a0_1 a0_2 a0_3 a0_4 a0_5 a0_6 a1_0 a1_1 i8 i11)
 (j61 i14 i16 (decide (i14 < i16)) a0_0 a0_1 a0_2 a0_3 a0_4 a0_5 a0_6 a1_0 a1_1 i8 i11))
 (j61 i14 i16 false a0_0 a0_1 a0_2 a0_3 a0_4 a0_5 a0_6 a1_0 a1_1 i8 i11))))))))))))))))
theorem K_civiltime_Add_1 (j : Jump) (n : Nat) (a0_0 : Int) (a0_1 : Int) (a0_2 : Int) (a0_3 : Int) (a0_4 : Int) (a0_5 : Int) (a0_6 : Int) (a1_0 : Int) (a1_1 : Int) : ex (topEnv C (CP C n) n F_civiltime_Add) (some j) (bodyOf C.P F_civiltime_Add) 1 [] [] (endOf C.P F_civiltime_Add) (startOf C.P F_civiltime_Add [.agg [.int .i64 a0_0, .int .i64 a0_1, .int .i64 a0_2, .int .i64 a0_3, .int .i64 a0_4, .int .i64 a0_5, .int .i64 a0_6], .agg [.int .i64 a1_0, .int .i64 a1_1]]) = T_civiltime_Add_1 (CP C n) a0_0 a0_1 a0_2 a0_3 a0_4 a0_5 a0_6 a1_0 a1_1 (fun x0 x1 b2 x3 x4 x5 x6 x7 x8 x9 x10 x11 x12 x13 => j [true, false, true, true, true] [] (S_civiltime_Add_61 x0 x1 b2 x3 x4 x5 x6 x7 x8 x9 x10 x11 x12 x13)) := by kernel_rfl
def R_civiltime_Add (cp : FuncId → List AV → Option AV) (n : Nat) (a0_0 : Int) (a0_1 : Int) (a0_2 : Int) (a0_3 : Int) (a0_4 : Int) (a0_5 : Int) (a0_6 : Int) (a1_0 : Int) (a1_1 : Int) : Option AV := T_civiltime_Add_1 cp a0_0 a0_1 a0_2 a0_3 a0_4 a0_5 a0_6 a1_0 a1_1 (J_civiltime_Add_61 cp n)
theorem eq_civiltime_Add (n : Nat) (a0_0 : Int) (a0_1 : Int) (a0_2 : Int) (a0_3 : Int) (a0_4 : Int) (a0_5 : Int) (a0_6 : Int) (a1_0 : Int) (a1_1 : Int) : CP C (n + 1) F_civiltime_Add [.agg [.int .i64 a0_0, .int .i64 a0_1, .int .i64 a0_2, .int .i64 a0_3, .int .i64 a0_4, .int .i64 a0_5, .int .i64 a0_6], .agg [.int .i64 a1_0, .int .i64 a1_1]] = R_civiltime_Add (CP C n) n a0_0 a0_1 a0_2 a0_3 a0_4 a0_5 a0_6 a1_0 a1_1 :=
  (CP_pure C n F_civiltime_Add _ (by kernel_rfl) (by kernel_rfl)).trans ((K_civiltime_Add_1 _ n a0_0 a0_1 a0_2 a0_3 a0_4 a0_5 a0_6 a1_0 a1_1).trans (congrArg (T_civiltime_Add_1 (CP C n) a0_0 a0_1 a0_2 a0_3 a0_4 a0_5 a0_6 a1_0 a1_1) (funext fun x0 => (funext fun x1 => (funext fun b2 => (funext fun x3 => (funext fun x4 => (funext fun x5 => (funext fun x6 => (funext fun x7 => (funext fun x8 => (funext fun x9 => (funext fun x10 => (funext fun x11 => (funext fun x12 => (funext fun x13 => (JE_civiltime_Add_61 n) x0 x1 b2 x3 x4 x5 x6 x7 x8 x9 x10 x11 x12 x13))))))))))))))))
-- law09_awake
def R_law09_awake (cp : FuncId → List AV → Option AV) (_n : Nat) : Option AV :=
 ((cp F_civiltime_Secs [.agg [.int .i64 1970, .int .i64 1, .int .i64 2, .int .i64 0, .int .i64 0, .int .i64 1, .int .i64 0]]).bind fun r1 =>
 (AV.tupK r1 fun l2 =>
 (consK l2 fun v3 l4 =>
 (AV.intK .i64 v3 fun i5 =>
 (consK l4 fun v6 l7 =>
 (AV.intK .i64 v6 fun i8 =>
 (nilK l7
 ((cp F_civiltime_Of [.int .i64 (-1), .int .i64 5]).bind fun r9 =>
 (AV.tupK r9 fun l10 =>
 (consK l10 fun v11 l12 =>
 (AV.aggK v11 fun l13 =>
 (consK l13 fun v14 l15 =>
 (AV.intK .i64 v14 fun i16 =>
 (consK l15 fun v17 l18 =>
 (AV.intK .i64 v17 fun i19 =>
 (consK l18 fun v20 l21 =>
 (AV.intK .i64 v20 fun i22 =>
 (consK l21 fun v23 l24 =>
 (AV.intK .i64 v23 fun i25 =>
 (consK l24 fun v26 l27 =>
 (AV.intK .i64 v26 fun i28 =>
 (consK l27 fun v29 l30 =>
 (AV.intK .i64 v29 fun i31 =>
 (consK l30 fun v32 l33 =>
 (AV.intK .i64 v32 fun i34 =>
 (nilK l33
 (consK l12 fun v35 l36 =>
 (AV.intK .i64 v35 fun i37 =>
 (nilK l36
 ((cp F_civiltime_Add [.agg [.int .i64 9999, .int .i64 12, .int .i64 31, .int .i64 23, .int .i64 59, .int .i64 59, .int .i64 999999999], .agg [.int .i64 0, .int .i64 1]]).bind fun r38 =>
 (AV.tupK r38 fun l39 =>
 (consK l39 fun v40 l41 =>
 (AV.aggK v40 fun l42 =>
 (consK l42 fun v43 l44 =>
 (AV.intK .i64 v43 fun i45 =>
 (consK l44 fun v46 l47 =>
 (AV.intK .i64 v46 fun i48 =>
 (consK l47 fun v49 l50 =>
 (AV.intK .i64 v49 fun i51 =>
 (consK l50 fun v52 l53 =>
 (AV.intK .i64 v52 fun i54 =>
 (consK l53 fun v55 l56 =>
 (AV.intK .i64 v55 fun i57 =>
 (consK l56 fun v58 l59 =>
 (AV.intK .i64 v58 fun i60 =>
 (consK l59 fun v61 l62 =>
 (AV.intK .i64 v61 fun i63 =>
 (nilK l62
 (consK l41 fun v64 l65 =>
 (AV.intK .i64 v64 fun i66 =>
 (nilK l65
 (cond (i5 == 86401)
 (cond (i8 == 0)
 (bnd (((i16 == 1969) && ((i19 == 12) && ((i22 == 31) && true))) && (((i25 == 23) && ((i28 == 59) && ((i31 == 59) && ((i34 == 5) && true)))) && true)) fun z67 =>
 (cond z67
 (cond (i37 == 0)
 (some (.bool (i66 == 8)))
 (some (.bool false)))
 (some (.bool false))))
 (some (.bool false)))
 (some (.bool false))))))))))))))))))))))))))))))))))))))))))))))))))))))
theorem eq_law09_awake (n : Nat) : CP C (n + 1) F_law09_awake [] = R_law09_awake (CP C n) n := by kernel_rfl
-- law09_CiviltimeBack
def R_law09_CiviltimeBack (cp : FuncId → List AV → Option AV) (_n : Nat) (a0_0 : Int) (a0_1 : Int) (a0_2 : Int) (a0_3 : Int) (a0_4 : Int) (a0_5 : Int) (a0_6 : Int) : Option AV :=
 ((cp F_civiltime_Secs [.agg [.int .i64 a0_0, .int .i64 a0_1, .int .i64 a0_2, .int .i64 a0_3, .int .i64 a0_4, .int .i64 a0_5, .int .i64 a0_6]]).bind fun r1 =>
 (AV.tupK r1 fun l2 =>
 (consK l2 fun v3 l4 =>
 (AV.intK .i64 v3 fun i5 =>
 (consK l4 fun v6 l7 =>
 (AV.intK .i64 v6 fun i8 =>
 (nilK l7
 (cond (i8 != 0)
 (cond (i5 == 0)
 ((cp F_law09_awake []).bind fun r9 =>
 (AV.boolK r9 fun b10 =>
 (some (.bool b10))))
 (some (.bool false)))
 ((cp F_civiltime_Of [.int .i64 i5, .int .i64 a0_6]).bind fun r11 =>
 (AV.tupK r11 fun l12 =>
 (consK l12 fun v13 l14 =>
 (AV.aggK v13 fun l15 =>
 (consK l15 fun v16 l17 =>
 (AV.intK .i64 v16 fun i18 =>
 (consK l17 fun v19 l20 =>
 (AV.intK .i64 v19 fun i21 =>
 (consK l20 fun v22 l23 =>
 (AV.intK .i64 v22 fun i24 =>
 (consK l23 fun v25 l26 =>
 (AV.intK .i64 v25 fun i27 =>
 (consK l26 fun v28 l29 =>
 (AV.intK .i64 v28 fun i30 =>
 (consK l29 fun v31 l32 =>
 (AV.intK .i64 v31 fun i33 =>
 (consK l32 fun v34 l35 =>
 (AV.intK .i64 v34 fun i36 =>
 (nilK l35
 (consK l14 fun v37 l38 =>
 (AV.intK .i64 v37 fun i39 =>
 (nilK l38
 (bnd (((i18 == a0_0) && ((i21 == a0_1) && ((i24 == a0_2) && true))) && (((i27 == a0_3) && ((i30 == a0_4) && ((i33 == a0_5) && ((i36 == a0_6) && true)))) && true)) fun z40 =>
 (cond z40
 (cond (i39 == 0)
 ((cp F_law09_awake []).bind fun r41 =>
 (AV.boolK r41 fun b42 =>
 (some (.bool b42))))
 (some (.bool false)))
 (some (.bool false))))))))))))))))))))))))))))))))))
theorem eq_law09_CiviltimeBack (n : Nat) (a0_0 : Int) (a0_1 : Int) (a0_2 : Int) (a0_3 : Int) (a0_4 : Int) (a0_5 : Int) (a0_6 : Int) : CP C (n + 1) F_law09_CiviltimeBack [.agg [.int .i64 a0_0, .int .i64 a0_1, .int .i64 a0_2, .int .i64 a0_3, .int .i64 a0_4, .int .i64 a0_5, .int .i64 a0_6]] = R_law09_CiviltimeBack (CP C n) n a0_0 a0_1 a0_2 a0_3 a0_4 a0_5 a0_6 := by kernel_rfl
-- ref08_Check
def R_ref08_Check (cp : FuncId → List AV → Option AV) (_n : Nat) (a0_0 : Int) (a0_1 : Int) (a0_2 : Int) (a0_3 : Int) : Option AV :=
 (cond (decide (a0_0 < 0))
 (some (.int .i64 5))
 (cond (decide (a0_0 > 23))
 (some (.int .i64 5))
 (cond (decide (a0_1 < 0))
 (some (.int .i64 5))
 (cond (decide (a0_1 > 59))
 (some (.int .i64 5))
 (cond (decide (a0_2 < 0))
 (some (.int .i64 5))
 (cond (decide (a0_2 > 59))
 (some (.int .i64 5))
 (cond (decide (a0_3 < 0))
 (some (.int .i64 5))
 (cond (decide (a0_3 ≥ 1000000000))
 (some (.int .i64 5))
 (some (.int .i64 0))))))))))
theorem eq_ref08_Check (n : Nat) (a0_0 : Int) (a0_1 : Int) (a0_2 : Int) (a0_3 : Int) : CP C (n + 1) F_ref08_Check [.agg [.int .i64 a0_0, .int .i64 a0_1, .int .i64 a0_2, .int .i64 a0_3]] = R_ref08_Check (CP C n) n a0_0 a0_1 a0_2 a0_3 := by kernel_rfl
-- ref06_Leap
def R_ref06_Leap (cp : FuncId → List AV → Option AV) (_n : Nat) (a0 : Int) : Option AV :=
 (cond ((Int.tmod a0 4) == 0)
 (cond ((Int.tmod a0 100) != 0)
 (some (.bool true))
 (some (.bool ((Int.tmod a0 400) == 0))))
 (some (.bool false)))
theorem eq_ref06_Leap (n : Nat) (a0 : Int) : CP C (n + 1) F_ref06_Leap [.int .i64 a0] = R_ref06_Leap (CP C n) n a0 := by kernel_rfl
-- ref06_MonthDays
def R_ref06_MonthDays (cp : FuncId → List AV → Option AV) (_n : Nat) (a0 : Int) (a1 : Int) : Option AV :=
 (cond (a1 == 1)
 (some (.int .i64 31))
 (cond (a1 == 3)
 (some (.int .i64 31))
 (cond (a1 == 5)
 (some (.int .i64 31))
 (cond (a1 == 7)
 (some (.int .i64 31))
 (cond (a1 == 8)
 (some (.int .i64 31))
 (cond (a1 == 10)
 (some (.int .i64 31))
 (cond (a1 == 12)
 (some (.int .i64 31))
 (cond (a1 == 4)
 (some (.int .i64 30))
 (cond (a1 == 6)
 (some (.int .i64 30))
 (cond (a1 == 9)
 (some (.int .i64 30))
 (cond (a1 == 11)
 (some (.int .i64 30))
 (cond (a1 == 2)
 ((cp F_ref06_Leap [.int .i64 a0]).bind fun r1 =>
 (AV.boolK r1 fun b2 =>
 (cond b2
 (some (.int .i64 29))
 (some (.int .i64 28)))))
 (some (.int .i64 0))))))))))))))
theorem eq_ref06_MonthDays (n : Nat) (a0 : Int) (a1 : Int) : CP C (n + 1) F_ref06_MonthDays [.int .i64 a0, .int .i64 a1] = R_ref06_MonthDays (CP C n) n a0 a1 := by kernel_rfl
-- ref06_May
def R_ref06_May (cp : FuncId → List AV → Option AV) (_n : Nat) (a0_0 : Int) (a0_1 : Int) (a0_2 : Int) : Option AV :=
 (cond (decide (a0_2 ≥ 1))
 ((cp F_ref06_MonthDays [.int .i64 a0_0, .int .i64 a0_1]).bind fun r1 =>
 (AV.intK .i64 r1 fun i2 =>
 (some (.bool (decide (a0_2 ≤ i2))))))
 (some (.bool false)))
theorem eq_ref06_May (n : Nat) (a0_0 : Int) (a0_1 : Int) (a0_2 : Int) : CP C (n + 1) F_ref06_May [.agg [.int .i64 a0_0, .int .i64 a0_1, .int .i64 a0_2]] = R_ref06_May (CP C n) n a0_0 a0_1 a0_2 := by kernel_rfl
-- ref06_Check
def R_ref06_Check (cp : FuncId → List AV → Option AV) (_n : Nat) (a0_0 : Int) (a0_1 : Int) (a0_2 : Int) : Option AV :=
 ((cp F_ref06_May [.agg [.int .i64 a0_0, .int .i64 a0_1, .int .i64 a0_2]]).bind fun r1 =>
 (AV.boolK r1 fun b2 =>
 (cond (!b2)
 (some (.int .i64 7))
 (cond (decide (a0_0 < (-9999)))
 (some (.int .i64 8))
 (cond (decide (a0_0 > 9999))
 (some (.int .i64 8))
 (some (.int .i64 0)))))))
theorem eq_ref06_Check (n : Nat) (a0_0 : Int) (a0_1 : Int) (a0_2 : Int) : CP C (n + 1) F_ref06_Check [.agg [.int .i64 a0_0, .int .i64 a0_1, .int .i64 a0_2]] = R_ref06_Check (CP C n) n a0_0 a0_1 a0_2 := by kernel_rfl
-- ref09_Check
def R_ref09_Check (cp : FuncId → List AV → Option AV) (_n : Nat) (a0_0 : Int) (a0_1 : Int) (a0_2 : Int) (a0_3 : Int) (a0_4 : Int) (a0_5 : Int) (a0_6 : Int) : Option AV :=
 ((cp F_ref08_Check [.agg [.int .i64 a0_3, .int .i64 a0_4, .int .i64 a0_5, .int .i64 a0_6]]).bind fun r1 =>
 (AV.intK .i64 r1 fun i2 =>
 (cond (i2 != 0)
 (some (.int .i64 i2))
 ((cp F_ref06_Check [.agg [.int .i64 a0_0, .int .i64 a0_1, .int .i64 a0_2]]).bind fun r3 =>
 (AV.intK .i64 r3 fun i4 =>
 (some (.int .i64 i4)))))))
theorem eq_ref09_Check (n : Nat) (a0_0 : Int) (a0_1 : Int) (a0_2 : Int) (a0_3 : Int) (a0_4 : Int) (a0_5 : Int) (a0_6 : Int) : CP C (n + 1) F_ref09_Check [.agg [.int .i64 a0_0, .int .i64 a0_1, .int .i64 a0_2, .int .i64 a0_3, .int .i64 a0_4, .int .i64 a0_5, .int .i64 a0_6]] = R_ref09_Check (CP C n) n a0_0 a0_1 a0_2 a0_3 a0_4 a0_5 a0_6 := by kernel_rfl
-- ref06_YearDays
def R_ref06_YearDays (cp : FuncId → List AV → Option AV) (_n : Nat) (a0 : Int) : Option AV :=
 ((cp F_ref06_Leap [.int .i64 a0]).bind fun r1 =>
 (AV.boolK r1 fun b2 =>
 (cond b2
 (some (.int .i64 366))
 (some (.int .i64 365)))))
theorem eq_ref06_YearDays (n : Nat) (a0 : Int) : CP C (n + 1) F_ref06_YearDays [.int .i64 a0] = R_ref06_YearDays (CP C n) n a0 := by kernel_rfl
-- ref06_start
def S_ref06_start_120 (x0 : Int) (x1 : Int) (x2 : Int) : St := ⟨[.int .i64 x0, .junk, .junk, .int .i64 x1, .int .i64 x2, .junk, .junk, .junk, .junk, .junk, .junk, .junk, .junk, .junk, .junk, .junk, .junk, .junk, .junk, .junk, .junk, .junk, .junk, .junk, .junk, .junk, .junk, .junk, .junk, .junk], []⟩
def S_ref06_start_248 (x0 : Int) (x1 : Int) (x2 : Int) : St := ⟨[.int .i64 x0, .junk, .junk, .int .i64 x1, .int .i64 x2, .junk, .junk, .junk, .junk, .junk, .junk, .junk, .junk, .junk, .junk, .junk, .junk, .junk, .junk, .junk, .junk, .junk, .junk, .junk, .junk, .junk, .junk, .junk, .junk, .junk], []⟩
def S_ref06_start_504 (x0 : Int) (x1 : Int) (x2 : Int) : St := ⟨[.int .i64 x0, .junk, .junk, .int .i64 x1, .int .i64 x2, .junk, .junk, .junk, .junk, .junk, .junk, .junk, .junk, .junk, .junk, .junk, .junk, .junk, .junk, .junk, .junk, .junk, .junk, .junk, .junk, .junk, .junk, .junk, .junk, .junk], []⟩
def T_ref06_start_504 (cp : FuncId → List AV → Option AV) (x0 : Int) (x1 : Int) (x2 : Int) (r504 : Int → Int → Int → Option AV) : Option AV :=
 (cond (decide (x2 < x0))
 ((cp F_ref06_YearDays [.int .i64 x2]).bind fun r1 =>
 (AV.intK .i64 r1 fun i2 =>
 (r504 x0 (IntKind.i64.wrap (x1 + i2)) (IntKind.i64.wrap (x2 + 1)))))
 (some (.int .i64 x1)))
theorem K_ref06_start_504 (j : Jump) (n : Nat) (m504 : Nat) (x0 : Int) (x1 : Int) (x2 : Int) : enter (topEnv C (CP C n) n F_ref06_start) (some j) (bodyOf C.P F_ref06_start) (endOf C.P F_ref06_start) [false, false, false, true, true, true, true, true] [(m504 + 1)] (S_ref06_start_504 x0 x1 x2) = T_ref06_start_504 (CP C n) x0 x1 x2 (fun x0 x1 x2 => j [false, false, false, true, true, true, true, true] [m504] (S_ref06_start_504 x0 x1 x2)) := by kernel_rfl
def J_ref06_start_504 (cp : FuncId → List AV → Option AV) (n : Nat) : Nat → Int → Int → Int → Option AV
  | 0 => (fun x0 x1 x2 => none)
  | m + 1 => (fun x0 x1 x2 => T_ref06_start_504 cp x0 x1 x2 (J_ref06_start_504 cp n m))
theorem Js_ref06_start_504 (cp : FuncId → List AV → Option AV) (n : Nat) (m : Nat) (x0 : Int) (x1 : Int) (x2 : Int) : J_ref06_start_504 cp n (m + 1) x0 x1 x2 = T_ref06_start_504 cp x0 x1 x2 (J_ref06_start_504 cp n m) := of_eq_true (eq_self _)
theorem JE_ref06_start_504 (n : Nat) : ∀ (m : Nat) (x0 : Int) (x1 : Int) (x2 : Int), jT (topEnv C (CP C n) n F_ref06_start) (bodyOf C.P F_ref06_start) (endOf C.P F_ref06_start) [false, false, false, true, true, true, true, true] [m] (S_ref06_start_504 x0 x1 x2) = J_ref06_start_504 (CP C n) n m x0 x1 x2
  | 0, x0, x1, x2 => (jT_eq _ _ _ _ _ _).trans (by kernel_rfl)
  | m + 1, x0, x1, x2 => (jT_eq _ _ _ _ _ _).trans ((K_ref06_start_504 _ n m x0 x1 x2).trans (congrArg (T_ref06_start_504 (CP C n) x0 x1 x2) (funext fun x0 => (funext fun x1 => (funext fun x2 => (JE_ref06_start_504 n m) x0 x1 x2)))))
def T_ref06_start_248 (cp : FuncId → List AV → Option AV) (x0 : Int) (x1 : Int) (x2 : Int) (r248 : Int → Int → Int → Option AV) (j504 : Int → Int → Int → Option AV) : Option AV :=
 (cond (decide (x2 > x0))
 (r248 x0 (IntKind.i64.wrap (x1 - 146097)) (IntKind.i64.wrap (x2 - 400)))
 (j504 x0 x1 x2))
theorem K_ref06_start_248 (j : Jump) (n : Nat) (m248 : Nat) (x0 : Int) (x1 : Int) (x2 : Int) : enter (topEnv C (CP C n) n F_ref06_start) (some j) (bodyOf C.P F_ref06_start) (endOf C.P F_ref06_start) [false, false, false, true, true, true, true] [(m248 + 1)] (S_ref06_start_248 x0 x1 x2) = T_ref06_start_248 (CP C n) x0 x1 x2 (fun x0 x1 x2 => j [false, false, false, true, true, true, true] [m248] (S_ref06_start_248 x0 x1 x2)) (fun x0 x1 x2 => j [false, false, false, true, true, true, true, true] [(n + 300)] (S_ref06_start_504 x0 x1 x2)) := by kernel_rfl
def J_ref06_start_248 (cp : FuncId → List AV → Option AV) (n : Nat) : Nat → Int → Int → Int → Option AV
  | 0 => (fun x0 x1 x2 => none)
  | m + 1 => (fun x0 x1 x2 => T_ref06_start_248 cp x0 x1 x2 (J_ref06_start_248 cp n m) (J_ref06_start_504 cp n (n + 300)))
theorem Js_ref06_start_248 (cp : FuncId → List AV → Option AV) (n : Nat) (m : Nat) (x0 : Int) (x1 : Int) (x2 : Int) : J_ref06_start_248 cp n (m + 1) x0 x1 x2 = T_ref06_start_248 cp x0 x1 x2 (J_ref06_start_248 cp n m) (J_ref06_start_504 cp n (n + 300)) := of_eq_true (eq_self _)
theorem JE_ref06_start_248 (n : Nat) : ∀ (m : Nat) (x0 : Int) (x1 : Int) (x2 : Int), jT (topEnv C (CP C n) n F_ref06_start) (bodyOf C.P F_ref06_start) (endOf C.P F_ref06_start) [false, false, false, true, true, true, true] [m] (S_ref06_start_248 x0 x1 x2) = J_ref06_start_248 (CP C n) n m x0 x1 x2
  | 0, x0, x1, x2 => (jT_eq _ _ _ _ _ _).trans (by kernel_rfl)
  | m + 1, x0, x1, x2 => (jT_eq _ _ _ _ _ _).trans ((K_ref06_start_248 _ n m x0 x1 x2).trans (congr (congrArg (T_ref06_start_248 (CP C n) x0 x1 x2) (funext fun x0 => (funext fun x1 => (funext fun x2 => (JE_ref06_start_248 n m) x0 x1 x2)))) (funext fun x0 => (funext fun x1 => (funext fun x2 => (JE_ref06_start_504 n (n + 300)) x0 x1 x2)))))
def T_ref06_start_120 (cp : FuncId → List AV → Option AV) (x0 : Int) (x1 : Int) (x2 : Int) (r120 : Int → Int → Int → Option AV) (j248 : Int → Int → Int → Option AV) : Option AV :=
 (cond (decide ((IntKind.i64.wrap (x2 + 400)) ≤ x0))
 (r120 x0 (IntKind.i64.wrap (x1 + 146097)) (IntKind.i64.wrap (x2 + 400)))
 (j248 x0 x1 x2))
theorem K_ref06_start_120 (j : Jump) (n : Nat) (m120 : Nat) (x0 : Int) (x1 : Int) (x2 : Int) : enter (topEnv C (CP C n) n F_ref06_start) (some j) (bodyOf C.P F_ref06_start) (endOf C.P F_ref06_start) [false, false, false, true, true, true] [(m120 + 1)] (S_ref06_start_120 x0 x1 x2) = T_ref06_start_120 (CP C n) x0 x1 x2 (fun x0 x1 x2 => j [false, false, false, true, true, true] [m120] (S_ref06_start_120 x0 x1 x2)) (fun x0 x1 x2 => j [false, false, false, true, true, true, true] [(n + 300)] (S_ref06_start_248 x0 x1 x2)) := by kernel_rfl
def J_ref06_start_120 (cp : FuncId → List AV → Option AV) (n : Nat) : Nat → Int → Int → Int → Option AV
  | 0 => (fun x0 x1 x2 => none)
  | m + 1 => (fun x0 x1 x2 => T_ref06_start_120 cp x0 x1 x2 (J_ref06_start_120 cp n m) (J_ref06_start_248 cp n (n + 300)))
theorem Js_ref06_start_120 (cp : FuncId → List AV → Option AV) (n : Nat) (m : Nat) (x0 : Int) (x1 : Int) (x2 : Int) : J_ref06_start_120 cp n (m + 1) x0 x1 x2 = T_ref06_start_120 cp x0 x1 x2 (J_ref06_start_120 cp n m) (J_ref06_start_248 cp n (n + 300)) := of_eq_true (eq_self _)
theorem JE_ref06_start_120 (n : Nat) : ∀ (m : Nat) (x0 : Int) (x1 : Int) (x2 : Int), jT (topEnv C (CP C n) n F_ref06_start) (bodyOf C.P F_ref06_start) (endOf C.P F_ref06_start) [false, false, false, true, true, true] [m] (S_ref06_start_120 x0 x1 x2) = J_ref06_start_120 (CP C n) n m x0 x1 x2
  | 0, x0, x1, x2 => (jT_eq _ _ _ _ _ _).trans (by kernel_rfl)
  | m + 1, x0, x1, x2 => (jT_eq _ _ _ _ _ _).trans ((K_ref06_start_120 _ n m x0 x1 x2).trans (congr (congrArg (T_ref06_start_120 (CP C n) x0 x1 x2) (funext fun x0 => (funext fun x1 => (funext fun x2 => (JE_ref06_start_120 n m) x0 x1 x2)))) (funext fun x0 => (funext fun x1 => (funext fun x2 => (JE_ref06_start_248 n (n + 300)) x0 x1 x2)))))
def T_ref06_start_1 (cp : FuncId → List AV → Option AV) (a0 : Int) (j120 : Int → Int → Int → Option AV) : Option AV :=
 (j120 a0 10957 2000)
theorem K_ref06_start_1 (j : Jump) (n : Nat) (a0 : Int) : ex (topEnv C (CP C n) n F_ref06_start) (some j) (bodyOf C.P F_ref06_start) 1 [] [] (endOf C.P F_ref06_start) (startOf C.P F_ref06_start [.int .i64 a0]) = T_ref06_start_1 (CP C n) a0 (fun x0 x1 x2 => j [false, false, false, true, true, true] [(n + 300)] (S_ref06_start_120 x0 x1 x2)) := by kernel_rfl
def R_ref06_start (cp : FuncId → List AV → Option AV) (n : Nat) (a0 : Int) : Option AV := T_ref06_start_1 cp a0 (J_ref06_start_120 cp n (n + 300))
theorem eq_ref06_start (n : Nat) (a0 : Int) : CP C (n + 1) F_ref06_start [.int .i64 a0] = R_ref06_start (CP C n) n a0 :=
  (CP_pure C n F_ref06_start _ (by kernel_rfl) (by kernel_rfl)).trans ((K_ref06_start_1 _ n a0).trans (congrArg (T_ref06_start_1 (CP C n) a0) (funext fun x0 => (funext fun x1 => (funext fun x2 => (JE_ref06_start_120 n (n + 300)) x0 x1 x2)))))
-- ref06_Number
def S_ref06_Number_116 (x0 : Int) (x1 : Int) (x2 : Int) (x3 : Int) (x4 : Int) : St := ⟨[.junk, .ptr (some (0, 0)), .junk, .int .i64 x0, .int .i64 x1, .junk, .junk, .junk, .junk, .junk, .junk, .junk, .junk, .junk, .junk, .junk, .junk, .junk, .junk, .junk, .junk, .junk, .junk, .junk, .junk], [.cells 23 [.int .i64 x2, .int .i64 x3, .int .i64 x4]]⟩
def T_ref06_Number_116 (cp : FuncId → List AV → Option AV) (x0 : Int) (x1 : Int) (x2 : Int) (x3 : Int) (x4 : Int) (r116 : Int → Int → Int → Int → Int → Option AV) : Option AV :=
 (cond (decide (x1 < x3))
 ((cp F_ref06_MonthDays [.int .i64 x2, .int .i64 x1]).bind fun r1 =>
 (AV.intK .i64 r1 fun i2 =>
 (r116 (IntKind.i64.wrap (x0 + i2)) (IntKind.i64.wrap (x1 + 1)) x2 x3 x4)))
 (some (.int .i64 (IntKind.i64.wrap ((IntKind.i64.wrap (x0 + x4)) - 1)))))
theorem K_ref06_Number_116 (j : Jump) (n : Nat) (m116 : Nat) (x0 : Int) (x1 : Int) (x2 : Int) (x3 : Int) (x4 : Int) : enter (topEnv C (CP C n) n F_ref06_Number) (some j) (bodyOf C.P F_ref06_Number) (endOf C.P F_ref06_Number) [false, false, true, false, true, true] [(m116 + 1)] (S_ref06_Number_116 x0 x1 x2 x3 x4) = T_ref06_Number_116 (CP C n) x0 x1 x2 x3 x4 (fun x0 x1 x2 x3 x4 => j [false, false, true, false, true, true] [m116] (S_ref06_Number_116 x0 x1 x2 x3 x4)) := by kernel_rfl
def J_ref06_Number_116 (cp : FuncId → List AV → Option AV) (n : Nat) : Nat → Int → Int → Int → Int → Int → Option AV
  | 0 => (fun x0 x1 x2 x3 x4 => none)
  | m + 1 => (fun x0 x1 x2 x3 x4 => T_ref06_Number_116 cp x0 x1 x2 x3 x4 (J_ref06_Number_116 cp n m))
theorem Js_ref06_Number_116 (cp : FuncId → List AV → Option AV) (n : Nat) (m : Nat) (x0 : Int) (x1 : Int) (x2 : Int) (x3 : Int) (x4 : Int) : J_ref06_Number_116 cp n (m + 1) x0 x1 x2 x3 x4 = T_ref06_Number_116 cp x0 x1 x2 x3 x4 (J_ref06_Number_116 cp n m) := of_eq_true (eq_self _)
theorem JE_ref06_Number_116 (n : Nat) : ∀ (m : Nat) (x0 : Int) (x1 : Int) (x2 : Int) (x3 : Int) (x4 : Int), jT (topEnv C (CP C n) n F_ref06_Number) (bodyOf C.P F_ref06_Number) (endOf C.P F_ref06_Number) [false, false, true, false, true, true] [m] (S_ref06_Number_116 x0 x1 x2 x3 x4) = J_ref06_Number_116 (CP C n) n m x0 x1 x2 x3 x4
  | 0, x0, x1, x2, x3, x4 => (jT_eq _ _ _ _ _ _).trans (by kernel_rfl)
  | m + 1, x0, x1, x2, x3, x4 => (jT_eq _ _ _ _ _ _).trans ((K_ref06_Number_116 _ n m x0 x1 x2 x3 x4).trans (congrArg (T_ref06_Number_116 (CP C n) x0 x1 x2 x3 x4) (funext fun x0 => (funext fun x1 => (funext fun x2 => (funext fun x3 => (funext fun x4 => (JE_ref06_Number_116 n m) x0 x1 x2 x3 x4)))))))
def T_ref06_Number_1 (cp : FuncId → List AV → Option AV) (a0_0 : Int) (a0_1 : Int) (a0_2 : Int) (j116 : Int → Int → Int → Int → Int → Option AV) : Option AV :=
 ((cp F_ref06_start [.int .i64 a0_0]).bind fun r1 =>
 (AV.intK .i64 r1 fun i2 =>
 (j116 i2 1 a0_0 a0_1 a0_2)))
theorem K_ref06_Number_1 (j : Jump) (n : Nat) (a0_0 : Int) (a0_1 : Int) (a0_2 : Int) : ex (topEnv C (CP C n) n F_ref06_Number) (some j) (bodyOf C.P F_ref06_Number) 1 [] [] (endOf C.P F_ref06_Number) (startOf C.P F_ref06_Number [.agg [.int .i64 a0_0, .int .i64 a0_1, .int .i64 a0_2]]) = T_ref06_Number_1 (CP C n) a0_0 a0_1 a0_2 (fun x0 x1 x2 x3 x4 => j [false, false, true, false, true, true] [(n + 300)] (S_ref06_Number_116 x0 x1 x2 x3 x4)) := by kernel_rfl
def R_ref06_Number (cp : FuncId → List AV → Option AV) (n : Nat) (a0_0 : Int) (a0_1 : Int) (a0_2 : Int) : Option AV := T_ref06_Number_1 cp a0_0 a0_1 a0_2 (J_ref06_Number_116 cp n (n + 300))
theorem eq_ref06_Number (n : Nat) (a0_0 : Int) (a0_1 : Int) (a0_2 : Int) : CP C (n + 1) F_ref06_Number [.agg [.int .i64 a0_0, .int .i64 a0_1, .int .i64 a0_2]] = R_ref06_Number (CP C n) n a0_0 a0_1 a0_2 :=
  (CP_pure C n F_ref06_Number _ (by kernel_rfl) (by kernel_rfl)).trans ((K_ref06_Number_1 _ n a0_0 a0_1 a0_2).trans (congrArg (T_ref06_Number_1 (CP C n) a0_0 a0_1 a0_2) (funext fun x0 => (funext fun x1 => (funext fun x2 => (funext fun x3 => (funext fun x4 => (JE_ref06_Number_116 n (n + 300)) x0 x1 x2 x3 x4)))))))
-- ref08_Secs
def R_ref08_Secs (cp : FuncId → List AV → Option AV) (_n : Nat) (a0_0 : Int) (a0_1 : Int) (a0_2 : Int) (a0_3 : Int) : Option AV :=
 (bnd (IntKind.i64.wrap ((IntKind.i64.wrap (3600 * a0_0)) + (IntKind.i64.wrap (60 * a0_1)))) fun y1 =>
 (some (.int .i64 (IntKind.i64.wrap (y1 + a0_2)))))
theorem eq_ref08_Secs (n : Nat) (a0_0 : Int) (a0_1 : Int) (a0_2 : Int) (a0_3 : Int) : CP C (n + 1) F_ref08_Secs [.agg [.int .i64 a0_0, .int .i64 a0_1, .int .i64 a0_2, .int .i64 a0_3]] = R_ref08_Secs (CP C n) n a0_0 a0_1 a0_2 a0_3 := by kernel_rfl
-- ref09_Number
def R_ref09_Number (cp : FuncId → List AV → Option AV) (_n : Nat) (a0_0 : Int) (a0_1 : Int) (a0_2 : Int) (a0_3 : Int) (a0_4 : Int) (a0_5 : Int) (a0_6 : Int) : Option AV :=
 ((cp F_ref06_Number [.agg [.int .i64 a0_0, .int .i64 a0_1, .int .i64 a0_2]]).bind fun r1 =>
 (AV.intK .i64 r1 fun i2 =>
 ((cp F_ref08_Secs [.agg [.int .i64 a0_3, .int .i64 a0_4, .int .i64 a0_5, .int .i64 a0_6]]).bind fun r3 =>
 (AV.intK .i64 r3 fun i4 =>
 (some (.int .i64 (IntKind.i64.wrap ((IntKind.i64.wrap (i2 * 86400)) + i4))))))))
theorem eq_ref09_Number (n : Nat) (a0_0 : Int) (a0_1 : Int) (a0_2 : Int) (a0_3 : Int) (a0_4 : Int) (a0_5 : Int) (a0_6 : Int) : CP C (n + 1) F_ref09_Number [.agg [.int .i64 a0_0, .int .i64 a0_1, .int .i64 a0_2, .int .i64 a0_3, .int .i64 a0_4, .int .i64 a0_5, .int .i64 a0_6]] = R_ref09_Number (CP C n) n a0_0 a0_1 a0_2 a0_3 a0_4 a0_5 a0_6 := by kernel_rfl
-- ref09_Secs
def R_ref09_Secs (cp : FuncId → List AV → Option AV) (_n : Nat) (a0_0 : Int) (a0_1 : Int) (a0_2 : Int) (a0_3 : Int) (a0_4 : Int) (a0_5 : Int) (a0_6 : Int) : Option AV :=
 ((cp F_ref09_Check [.agg [.int .i64 a0_0, .int .i64 a0_1, .int .i64 a0_2, .int .i64 a0_3, .int .i64 a0_4, .int .i64 a0_5, .int .i64 a0_6]]).bind fun r1 =>
 (AV.intK .i64 r1 fun i2 =>
 (cond (i2 != 0)
 (some (.tup [.int .i64 0, .int .i64 i2]))
 ((cp F_ref09_Number [.agg [.int .i64 a0_0, .int .i64 a0_1, .int .i64 a0_2, .int .i64 a0_3, .int .i64 a0_4, .int .i64 a0_5, .int .i64 a0_6]]).bind fun r3 =>
 (AV.intK .i64 r3 fun i4 =>
 (some (.tup [.int .i64 i4, .int .i64 0])))))))
theorem eq_ref09_Secs (n : Nat) (a0_0 : Int) (a0_1 : Int) (a0_2 : Int) (a0_3 : Int) (a0_4 : Int) (a0_5 : Int) (a0_6 : Int) : CP C (n + 1) F_ref09_Secs [.agg [.int .i64 a0_0, .int .i64 a0_1, .int .i64 a0_2, .int .i64 a0_3, .int .i64 a0_4, .int .i64 a0_5, .int .i64 a0_6]] = R_ref09_Secs (CP C n) n a0_0 a0_1 a0_2 a0_3 a0_4 a0_5 a0_6 := by kernel_rfl
-- ref06_DateOf
def S_ref06_DateOf_248 (x0 : Int) (x1 : Int) : St := ⟨[.junk, .junk, .ptr (some (0, 0)), .junk, .int .i64 x0, .int .i64 x1, .junk, .junk, .junk, .junk, .junk, .junk, .junk, .junk, .junk, .junk, .junk, .junk, .junk, .junk, .junk, .junk, .junk, .junk, .junk, .junk, .junk, .junk, .junk, .junk, .junk, .junk, .junk, .junk, .junk, .junk, .junk, .junk, .junk, .junk, .junk, .junk, .junk, .junk, .junk, .junk, .junk, .junk, .junk, .junk, .junk, .junk, .junk, .junk, .junk], [.cells 23 [.int .i64 0, .int .i64 0, .int .i64 0]]⟩
def S_ref06_DateOf_504 (x0 : Int) (x1 : Int) : St := ⟨[.junk, .junk, .ptr (some (0, 0)), .junk, .int .i64 x0, .int .i64 x1, .junk, .junk, .junk, .junk, .junk, .junk, .junk, .junk, .junk, .junk, .junk, .junk, .junk, .junk, .junk, .junk, .junk, .junk, .junk, .junk, .junk, .junk, .junk, .junk, .junk, .junk, .junk, .junk, .junk, .junk, .junk, .junk, .junk, .junk, .junk, .junk, .junk, .junk, .junk, .junk, .junk, .junk, .junk, .junk, .junk, .junk, .junk, .junk, .junk], [.cells 23 [.int .i64 0, .int .i64 0, .int .i64 0]]⟩
def S_ref06_DateOf_1016 (x0 : Int) (x1 : Int) : St := ⟨[.junk, .junk, .ptr (some (0, 0)), .junk, .int .i64 x0, .int .i64 x1, .junk, .junk, .junk, .junk, .junk, .junk, .junk, .junk, .junk, .junk, .junk, .junk, .junk, .junk, .junk, .junk, .junk, .junk, .junk, .junk, .junk, .junk, .junk, .junk, .junk, .junk, .junk, .junk, .junk, .junk, .junk, .junk, .junk, .junk, .junk, .junk, .junk, .junk, .junk, .junk, .junk, .junk, .junk, .junk, .junk, .junk, .junk, .junk, .junk], [.cells 23 [.int .i64 0, .int .i64 0, .int .i64 0]]⟩
def S_ref06_DateOf_4088 (x0 : Int) (x1 : Int) (x2 : Int) : St := ⟨[.junk, .junk, .ptr (some (0, 0)), .junk, .int .i64 x0, .int .i64 x1, .int .i64 x2, .junk, .junk, .junk, .junk, .junk, .junk, .junk, .junk, .junk, .junk, .junk, .junk, .junk, .junk, .junk, .junk, .junk, .junk, .junk, .junk, .junk, .junk, .junk, .junk, .junk, .junk, .junk, .junk, .junk, .junk, .junk, .junk, .junk, .junk, .junk, .junk, .junk, .junk, .junk, .junk, .junk, .junk, .junk, .junk, .junk, .junk, .junk, .junk], [.cells 23 [.int .i64 0, .int .i64 0, .int .i64 0]]⟩
def T_ref06_DateOf_4088 (cp : FuncId → List AV → Option AV) (x0 : Int) (x1 : Int) (x2 : Int) (r4088 : Int → Int → Int → Option AV) : Option AV :=
 ((cp F_ref06_MonthDays [.int .i64 x0, .int .i64 x2]).bind fun r1 =>
 (AV.intK .i64 r1 fun i2 =>
 (cond (decide (x1 ≥ i2))
 ((cp F_ref06_MonthDays [.int .i64 x0, .int .i64 x2]).bind fun r3 =>
 (AV.intK .i64 r3 fun i4 =>
 (r4088 x0 (IntKind.i64.wrap (x1 - i4)) (IntKind.i64.wrap (x2 + 1)))))
 (some (.tup [.agg [.int .i64 x0, .int .i64 x2, .int .i64 (IntKind.i64.wrap (x1 + 1))], .int .i64 0])))))
theorem K_ref06_DateOf_4088 (j : Jump) (n : Nat) (m4088 : Nat) (x0 : Int) (x1 : Int) (x2 : Int) : enter (topEnv C (CP C n) n F_ref06_DateOf) (some j) (bodyOf C.P F_ref06_DateOf) (endOf C.P F_ref06_DateOf) [false, false, false, true, true, true, true, true, true, true, true] [(m4088 + 1)] (S_ref06_DateOf_4088 x0 x1 x2) = T_ref06_DateOf_4088 (CP C n) x0 x1 x2 (fun x0 x1 x2 => j [false, false, false, true, true, true, true, true, true, true, true] [m4088] (S_ref06_DateOf_4088 x0 x1 x2)) := by kernel_rfl
def J_ref06_DateOf_4088 (cp : FuncId → List AV → Option AV) (n : Nat) : Nat → Int → Int → Int → Option AV
  | 0 => (fun x0 x1 x2 => none)
  | m + 1 => (fun x0 x1 x2 => T_ref06_DateOf_4088 cp x0 x1 x2 (J_ref06_DateOf_4088 cp n m))
theorem Js_ref06_DateOf_4088 (cp : FuncId → List AV → Option AV) (n : Nat) (m : Nat) (x0 : Int) (x1 : Int) (x2 : Int) : J_ref06_DateOf_4088 cp n (m + 1) x0 x1 x2 = T_ref06_DateOf_4088 cp x0 x1 x2 (J_ref06_DateOf_4088 cp n m) := of_eq_true (eq_self _)
theorem JE_ref06_DateOf_4088 (n : Nat) : ∀ (m : Nat) (x0 : Int) (x1 : Int) (x2 : Int), jT (topEnv C (CP C n) n F_ref06_DateOf) (bodyOf C.P F_ref06_DateOf) (endOf C.P F_ref06_DateOf) [false, false, false, true, true, true, true, true, true, true, true] [m] (S_ref06_DateOf_4088 x0 x1 x2) = J_ref06_DateOf_4088 (CP C n) n m x0 x1 x2
  | 0, x0, x1, x2 => (jT_eq _ _ _ _ _ _).trans (by kernel_rfl)
  | m + 1, x0, x1, x2 => (jT_eq _ _ _ _ _ _).trans ((K_ref06_DateOf_4088 _ n m x0 x1 x2).trans (congrArg (T_ref06_DateOf_4088 (CP C n) x0 x1 x2) (funext fun x0 => (funext fun x1 => (funext fun x2 => (JE_ref06_DateOf_4088 n m) x0 x1 x2)))))
def T_ref06_DateOf_1016 (cp : FuncId → List AV → Option AV) (x0 : Int) (x1 : Int) (r1016 : Int → Int → Option AV) (j4088 : Int → Int → Int → Option AV) : Option AV :=
 ((cp F_ref06_YearDays [.int .i64 x0]).bind fun r1 =>
 (AV.intK .i64 r1 fun i2 =>
 (cond (decide (x1 ≥ i2))
 ((cp F_ref06_YearDays [.int .i64 x0]).bind fun r3 =>
 (AV.intK .i64 r3 fun i4 =>
 (r1016 (IntKind.i64.wrap (x0 + 1)) (IntKind.i64.wrap (x1 - i4)))))
 (j4088 x0 x1 1))))
theorem K_ref06_DateOf_1016 (j : Jump) (n : Nat) (m1016 : Nat) (x0 : Int) (x1 : Int) : enter (topEnv C (CP C n) n F_ref06_DateOf) (some j) (bodyOf C.P F_ref06_DateOf) (endOf C.P F_ref06_DateOf) [false, false, false, true, true, true, true, true, true] [(m1016 + 1)] (S_ref06_DateOf_1016 x0 x1) = T_ref06_DateOf_1016 (CP C n) x0 x1 (fun x0 x1 => j [false, false, false, true, true, true, true, true, true] [m1016] (S_ref06_DateOf_1016 x0 x1)) (fun x0 x1 x2 => j [false, false, false, true, true, true, true, true, true, true, true] [(n + 300)] (S_ref06_DateOf_4088 x0 x1 x2)) := by kernel_rfl
def J_ref06_DateOf_1016 (cp : FuncId → List AV → Option AV) (n : Nat) : Nat → Int → Int → Option AV
  | 0 => (fun x0 x1 => none)
  | m + 1 => (fun x0 x1 => T_ref06_DateOf_1016 cp x0 x1 (J_ref06_DateOf_1016 cp n m) (J_ref06_DateOf_4088 cp n (n + 300)))
theorem Js_ref06_DateOf_1016 (cp : FuncId → List AV → Option AV) (n : Nat) (m : Nat) (x0 : Int) (x1 : Int) : J_ref06_DateOf_1016 cp n (m + 1) x0 x1 = T_ref06_DateOf_1016 cp x0 x1 (J_ref06_DateOf_1016 cp n m) (J_ref06_DateOf_4088 cp n (n + 300)) := of_eq_true (eq_self _)
theorem JE_ref06_DateOf_1016 (n : Nat) : ∀ (m : Nat) (x0 : Int) (x1 : Int), jT (topEnv C (CP C n) n F_ref06_DateOf) (bodyOf C.P F_ref06_DateOf) (endOf C.P F_ref06_DateOf) [false, false, false, true, true, true, true, true, true] [m] (S_ref06_DateOf_1016 x0 x1) = J_ref06_DateOf_1016 (CP C n) n m x0 x1
  | 0, x0, x1 => (jT_eq _ _ _ _ _ _).trans (by kernel_rfl)
  | m + 1, x0, x1 => (jT_eq _ _ _ _ _ _).trans ((K_ref06_DateOf_1016 _ n m x0 x1).trans (congr (congrArg (T_ref06_DateOf_1016 (CP C n) x0 x1) (funext fun x0 => (funext fun x1 => (JE_ref06_DateOf_1016 n m) x0 x1))) (funext fun x0 => (funext fun x1 => (funext fun x2 => (JE_ref06_DateOf_4088 n (n + 300)) x0 x1 x2)))))
def T_ref06_DateOf_504 (cp : FuncId → List AV → Option AV) (x0 : Int) (x1 : Int) (r504 : Int → Int → Option AV) (j1016 : Int → Int → Option AV) : Option AV :=
 (cond (decide (x1 ≥ 146097))
 (r504 (IntKind.i64.wrap (x0 + 400)) (IntKind.i64.wrap (x1 - 146097)))
 (j1016 x0 x1))
theorem K_ref06_DateOf_504 (j : Jump) (n : Nat) (m504 : Nat) (x0 : Int) (x1 : Int) : enter (topEnv C (CP C n) n F_ref06_DateOf) (some j) (bodyOf C.P F_ref06_DateOf) (endOf C.P F_ref06_DateOf) [false, false, false, true, true, true, true, true] [(m504 + 1)] (S_ref06_DateOf_504 x0 x1) = T_ref06_DateOf_504 (CP C n) x0 x1 (fun x0 x1 => j [false, false, false, true, true, true, true, true] [m504] (S_ref06_DateOf_504 x0 x1)) (fun x0 x1 => j [false, false, false, true, true, true, true, true, true] [(n + 300)] (S_ref06_DateOf_1016 x0 x1)) := by kernel_rfl
def J_ref06_DateOf_504 (cp : FuncId → List AV → Option AV) (n : Nat) : Nat → Int → Int → Option AV
  | 0 => (fun x0 x1 => none)
  | m + 1 => (fun x0 x1 => T_ref06_DateOf_504 cp x0 x1 (J_ref06_DateOf_504 cp n m) (J_ref06_DateOf_1016 cp n (n + 300)))
theorem Js_ref06_DateOf_504 (cp : FuncId → List AV → Option AV) (n : Nat) (m : Nat) (x0 : Int) (x1 : Int) : J_ref06_DateOf_504 cp n (m + 1) x0 x1 = T_ref06_DateOf_504 cp x0 x1 (J_ref06_DateOf_504 cp n m) (J_ref06_DateOf_1016 cp n (n + 300)) := of_eq_true (eq_self _)
theorem JE_ref06_DateOf_504 (n : Nat) : ∀ (m : Nat) (x0 : Int) (x1 : Int), jT (topEnv C (CP C n) n F_ref06_DateOf) (bodyOf C.P F_ref06_DateOf) (endOf C.P F_ref06_DateOf) [false, false, false, true, true, true, true, true] [m] (S_ref06_DateOf_504 x0 x1) = J_ref06_DateOf_504 (CP C n) n m x0 x1
  | 0, x0, x1 => (jT_eq _ _ _ _ _ _).trans (by kernel_rfl)
  | m + 1, x0, x1 => (jT_eq _ _ _ _ _ _).trans ((K_ref06_DateOf_504 _ n m x0 x1).trans (congr (congrArg (T_ref06_DateOf_504 (CP C n) x0 x1) (funext fun x0 => (funext fun x1 => (JE_ref06_DateOf_504 n m) x0 x1))) (funext fun x0 => (funext fun x1 => (JE_ref06_DateOf_1016 n (n + 300)) x0 x1))))
def T_ref06_DateOf_248 (cp : FuncId → List AV → Option AV) (x0 : Int) (x1 : Int) (r248 : Int → Int → Option AV) (j504 : Int → Int → Option AV) : Option AV :=
 (cond (decide (x1 < 0))
 (r248 (IntKind.i64.wrap (x0 - 400)) (IntKind.i64.wrap (x1 + 146097)))
 (j504 x0 x1))
theorem K_ref06_DateOf_248 (j : Jump) (n : Nat) (m248 : Nat) (x0 : Int) (x1 : Int) : enter (topEnv C (CP C n) n F_ref06_DateOf) (some j) (bodyOf C.P F_ref06_DateOf) (endOf C.P F_ref06_DateOf) [false, false, false, true, true, true, true] [(m248 + 1)] (S_ref06_DateOf_248 x0 x1) = T_ref06_DateOf_248 (CP C n) x0 x1 (fun x0 x1 => j [false, false, false, true, true, true, true] [m248] (S_ref06_DateOf_248 x0 x1)) (fun x0 x1 => j [false, false, false, true, true, true, true, true] [(n + 300)] (S_ref06_DateOf_504 x0 x1)) := by kernel_rfl
def J_ref06_DateOf_248 (cp : FuncId → List AV → Option AV) (n : Nat) : Nat → Int → Int → Option AV
  | 0 => (fun x0 x1 => none)
  | m + 1 => (fun x0 x1 => T_ref06_DateOf_248 cp x0 x1 (J_ref06_DateOf_248 cp n m) (J_ref06_DateOf_504 cp n (n + 300)))
theorem Js_ref06_DateOf_248 (cp : FuncId → List AV → Option AV) (n : Nat) (m : Nat) (x0 : Int) (x1 : Int) : J_ref06_DateOf_248 cp n (m + 1) x0 x1 = T_ref06_DateOf_248 cp x0 x1 (J_ref06_DateOf_248 cp n m) (J_ref06_DateOf_504 cp n (n + 300)) := of_eq_true (eq_self _)
theorem JE_ref06_DateOf_248 (n : Nat) : ∀ (m : Nat) (x0 : Int) (x1 : Int), jT (topEnv C (CP C n) n F_ref06_DateOf) (bodyOf C.P F_ref06_DateOf) (endOf C.P F_ref06_DateOf) [false, false, false, true, true, true, true] [m] (S_ref06_DateOf_248 x0 x1) = J_ref06_DateOf_248 (CP C n) n m x0 x1
  | 0, x0, x1 => (jT_eq _ _ _ _ _ _).trans (by kernel_rfl)
  | m + 1, x0, x1 => (jT_eq _ _ _ _ _ _).trans ((K_ref06_DateOf_248 _ n m x0 x1).trans (congr (congrArg (T_ref06_DateOf_248 (CP C n) x0 x1) (funext fun x0 => (funext fun x1 => (JE_ref06_DateOf_248 n m) x0 x1))) (funext fun x0 => (funext fun x1 => (JE_ref06_DateOf_504 n (n + 300)) x0 x1))))
def T_ref06_DateOf_1 (cp : FuncId → List AV → Option AV) (a0 : Int) (j248 : Int → Int → Option AV) : Option AV :=
 (cond (decide (a0 < (-4371587)))
 (some (.tup [.agg [.int .i64 0, .int .i64 0, .int .i64 0], .int .i64 8]))
 (cond (decide (a0 > 2932896))
 (some (.tup [.agg [.int .i64 0, .int .i64 0, .int .i64 0], .int .i64 8]))
 (j248 2000 (IntKind.i64.wrap (a0 - 10957)))))
theorem K_ref06_DateOf_1 (j : Jump) (n : Nat) (a0 : Int) : ex (topEnv C (CP C n) n F_ref06_DateOf) (some j) (bodyOf C.P F_ref06_DateOf) 1 [] [] (endOf C.P F_ref06_DateOf) (startOf C.P F_ref06_DateOf [.int .i64 a0]) = T_ref06_DateOf_1 (CP C n) a0 (fun x0 x1 => j [false, false, false, true, true, true, true] [(n + 300)] (S_ref06_DateOf_248 x0 x1)) := by kernel_rfl
def R_ref06_DateOf (cp : FuncId → List AV → Option AV) (n : Nat) (a0 : Int) : Option AV := T_ref06_DateOf_1 cp a0 (J_ref06_DateOf_248 cp n (n + 300))
theorem eq_ref06_DateOf (n : Nat) (a0 : Int) : CP C (n + 1) F_ref06_DateOf [.int .i64 a0] = R_ref06_DateOf (CP C n) n a0 :=
  (CP_pure C n F_ref06_DateOf _ (by kernel_rfl) (by kernel_rfl)).trans ((K_ref06_DateOf_1 _ n a0).trans (congrArg (T_ref06_DateOf_1 (CP C n) a0) (funext fun x0 => (funext fun x1 => (JE_ref06_DateOf_248 n (n + 300)) x0 x1))))
-- ref08_OfSecs
def R_ref08_OfSecs (cp : FuncId → List AV → Option AV) (_n : Nat) (a0 : Int) (a1 : Int) : Option AV :=
 (some (.agg [.int .i64 (IntKind.i64.wrap (Int.tdiv a0 3600)), .int .i64 (Int.tmod (IntKind.i64.wrap (Int.tdiv a0 60)) 60), .int .i64 (Int.tmod a0 60), .int .i64 a1]))
theorem eq_ref08_OfSecs (n : Nat) (a0 : Int) (a1 : Int) : CP C (n + 1) F_ref08_OfSecs [.int .i64 a0, .int .i64 a1] = R_ref08_OfSecs (CP C n) n a0 a1 := by kernel_rfl
-- ref09_Of
def R_ref09_Of (cp : FuncId → List AV → Option AV) (_n : Nat) (a0 : Int) (a1 : Int) : Option AV :=
 (cond (decide (a1 < 0))
 (some (.tup [.agg [.int .i64 0, .int .i64 0, .int .i64 0, .int .i64 0, .int .i64 0, .int .i64 0, .int .i64 0], .int .i64 5]))
 (cond (decide (a1 ≥ 1000000000))
 (some (.tup [.agg [.int .i64 0, .int .i64 0, .int .i64 0, .int .i64 0, .int .i64 0, .int .i64 0, .int .i64 0], .int .i64 5]))
 (cond (decide (a0 < (-377705116800)))
 (some (.tup [.agg [.int .i64 0, .int .i64 0, .int .i64 0, .int .i64 0, .int .i64 0, .int .i64 0, .int .i64 0], .int .i64 8]))
 (cond (decide (a0 > 253402300799))
 (some (.tup [.agg [.int .i64 0, .int .i64 0, .int .i64 0, .int .i64 0, .int .i64 0, .int .i64 0, .int .i64 0], .int .i64 8]))
 (cond (decide ((Int.tmod a0 86400) < 0))
 (bnd (IntKind.i64.wrap ((IntKind.i64.wrap (Int.tdiv a0 86400)) - 1)) fun y1 =>
 ((cp F_ref06_DateOf [.int .i64 y1]).bind fun r2 =>
 (AV.tupK r2 fun l3 =>
 (consK l3 fun v4 l5 =>
 (AV.aggK v4 fun l6 =>
 (consK l6 fun v7 l8 =>
 (AV.intK .i64 v7 fun i9 =>
 (consK l8 fun v10 l11 =>
 (AV.intK .i64 v10 fun i12 =>
 (consK l11 fun v13 l14 =>
 (AV.intK .i64 v13 fun i15 =>
 (nilK l14
 (consK l5 fun v16 l17 =>
 (AV.intK .i64 v16 fun i18 =>
 (nilK l17
 ((cp F_ref08_OfSecs [.int .i64 (IntKind.i64.wrap ((Int.tmod a0 86400) + 86400)), .int .i64 a1]).bind fun r19 =>
 (AV.aggK r19 fun l20 =>
 (consK l20 fun v21 l22 =>
 (AV.intK .i64 v21 fun i23 =>
 (consK l22 fun v24 l25 =>
 (AV.intK .i64 v24 fun i26 =>
 (consK l25 fun v27 l28 =>
 (AV.intK .i64 v27 fun i29 =>
 (consK l28 fun v30 l31 =>
 (AV.intK .i64 v30 fun i32 =>
 (nilK l31
 (some (.tup [.agg [.int .i64 i9, .int .i64 i12, .int .i64 i15, .int .i64 i23, .int .i64 i26, .int .i64 i29, .int .i64 i32], .int .i64 0]))))))))))))))))))))))))))))
 ((cp F_ref06_DateOf [.int .i64 (IntKind.i64.wrap (Int.tdiv a0 86400))]).bind fun r33 =>
 (AV.tupK r33 fun l34 =>
 (consK l34 fun v35 l36 =>
 (AV.aggK v35 fun l37 =>
 (consK l37 fun v38 l39 =>
 (AV.intK .i64 v38 fun i40 =>
 (consK l39 fun v41 l42 =>
 (AV.intK .i64 v41 fun i43 =>
 (consK l42 fun v44 l45 =>
 (AV.intK .i64 v44 fun i46 =>
 (nilK l45
 (consK l36 fun v47 l48 =>
 (AV.intK .i64 v47 fun i49 =>
 (nilK l48
 ((cp F_ref08_OfSecs [.int .i64 (Int.tmod a0 86400), .int .i64 a1]).bind fun r50 =>
 (AV.aggK r50 fun l51 =>
 (consK l51 fun v52 l53 =>
 (AV.intK .i64 v52 fun i54 =>
 (consK l53 fun v55 l56 =>
 (AV.intK .i64 v55 fun i57 =>
 (consK l56 fun v58 l59 =>
 (AV.intK .i64 v58 fun i60 =>
 (consK l59 fun v61 l62 =>
 (AV.intK .i64 v61 fun i63 =>
 (nilK l62
 (some (.tup [.agg [.int .i64 i40, .int .i64 i43, .int .i64 i46, .int .i64 i54, .int .i64 i57, .int .i64 i60, .int .i64 i63], .int .i64 0]))))))))))))))))))))))))))))))))
theorem eq_ref09_Of (n : Nat) (a0 : Int) (a1 : Int) : CP C (n + 1) F_ref09_Of [.int .i64 a0, .int .i64 a1] = R_ref09_Of (CP C n) n a0 a1 := by kernel_rfl
-- civiltime_Check
def R_civiltime_Check (cp : FuncId → List AV → Option AV) (_n : Nat) (a0_0 : Int) (a0_1 : Int) (a0_2 : Int) (a0_3 : Int) (a0_4 : Int) (a0_5 : Int) (a0_6 : Int) : Option AV :=
 ((cp F_civiltime_of [.agg [.int .i64 a0_0, .int .i64 a0_1, .int .i64 a0_2, .int .i64 a0_3, .int .i64 a0_4, .int .i64 a0_5, .int .i64 a0_6]]).bind fun r1 =>
 (AV.tupK r1 fun l2 =>
 (consK l2 fun v3 l4 =>
 (AV.aggK v3 fun l5 =>
 (consK l5 fun v6 l7 =>
 (AV.intK .i64 v6 fun i8 =>
 (consK l7 fun v9 l10 =>
 (AV.intK .i64 v9 fun i11 =>
 (nilK l10
 (consK l4 fun v12 l13 =>
 (AV.intK .i64 v12 fun i14 =>
 (nilK l13
 (some (.int .i64 i14))))))))))))))
theorem eq_civiltime_Check (n : Nat) (a0_0 : Int) (a0_1 : Int) (a0_2 : Int) (a0_3 : Int) (a0_4 : Int) (a0_5 : Int) (a0_6 : Int) : CP C (n + 1) F_civiltime_Check [.agg [.int .i64 a0_0, .int .i64 a0_1, .int .i64 a0_2, .int .i64 a0_3, .int .i64 a0_4, .int .i64 a0_5, .int .i64 a0_6]] = R_civiltime_Check (CP C n) n a0_0 a0_1 a0_2 a0_3 a0_4 a0_5 a0_6 := by kernel_rfl
-- law09_CiviltimeSecs
def R_law09_CiviltimeSecs (cp : FuncId → List AV → Option AV) (_n : Nat) (a0_0 : Int) (a0_1 : Int) (a0_2 : Int) (a0_3 : Int) (a0_4 : Int) (a0_5 : Int) (a0_6 : Int) (a1 : Int) (a2 : Int) : Option AV :=
 ((cp F_civiltime_Secs [.agg [.int .i64 a0_0, .int .i64 a0_1, .int .i64 a0_2, .int .i64 a0_3, .int .i64 a0_4, .int .i64 a0_5, .int .i64 a0_6]]).bind fun r1 =>
 (AV.tupK r1 fun l2 =>
 (consK l2 fun v3 l4 =>
 (AV.intK .i64 v3 fun i5 =>
 (consK l4 fun v6 l7 =>
 (AV.intK .i64 v6 fun i8 =>
 (nilK l7
 ((cp F_ref09_Secs [.agg [.int .i64 a0_0, .int .i64 a0_1, .int .i64 a0_2, .int .i64 a0_3, .int .i64 a0_4, .int .i64 a0_5, .int .i64 a0_6]]).bind fun r9 =>
 (AV.tupK r9 fun l10 =>
 (consK l10 fun v11 l12 =>
 (AV.intK .i64 v11 fun i13 =>
 (consK l12 fun v14 l15 =>
 (AV.intK .i64 v14 fun i16 =>
 (nilK l15
 ((cp F_civiltime_Of [.int .i64 a1, .int .i64 a2]).bind fun r17 =>
 (AV.tupK r17 fun l18 =>
 (consK l18 fun v19 l20 =>
 (AV.aggK v19 fun l21 =>
 (consK l21 fun v22 l23 =>
 (AV.intK .i64 v22 fun i24 =>
 (consK l23 fun v25 l26 =>
 (AV.intK .i64 v25 fun i27 =>
 (consK l26 fun v28 l29 =>
 (AV.intK .i64 v28 fun i30 =>
 (consK l29 fun v31 l32 =>
 (AV.intK .i64 v31 fun i33 =>
 (consK l32 fun v34 l35 =>
 (AV.intK .i64 v34 fun i36 =>
 (consK l35 fun v37 l38 =>
 (AV.intK .i64 v37 fun i39 =>
 (consK l38 fun v40 l41 =>
 (AV.intK .i64 v40 fun i42 =>
 (nilK l41
 (consK l20 fun v43 l44 =>
 (AV.intK .i64 v43 fun i45 =>
 (nilK l44
 ((cp F_ref09_Of [.int .i64 a1, .int .i64 a2]).bind fun r46 =>
 (AV.tupK r46 fun l47 =>
 (consK l47 fun v48 l49 =>
 (AV.aggK v48 fun l50 =>
 (consK l50 fun v51 l52 =>
 (AV.intK .i64 v51 fun i53 =>
 (consK l52 fun v54 l55 =>
 (AV.intK .i64 v54 fun i56 =>
 (consK l55 fun v57 l58 =>
 (AV.intK .i64 v57 fun i59 =>
 (consK l58 fun v60 l61 =>
 (AV.intK .i64 v60 fun i62 =>
 (consK l61 fun v63 l64 =>
 (AV.intK .i64 v63 fun i65 =>
 (consK l64 fun v66 l67 =>
 (AV.intK .i64 v66 fun i68 =>
 (consK l67 fun v69 l70 =>
 (AV.intK .i64 v69 fun i71 =>
 (nilK l70
 (consK l49 fun v72 l73 =>
 (AV.intK .i64 v72 fun i74 =>
 (nilK l73
 (cond (i5 == i13)
 (cond (i8 == i16)
 (bnd (((i24 == i53) && ((i27 == i56) && ((i30 == i59) && true))) && (((i33 == i62) && ((i36 == i65) && ((i39 == i68) && ((i42 == i71) && true)))) && true)) fun z75 =>
 (cond z75
 (cond (i45 == i74)
 ((cp F_civiltime_Check [.agg [.int .i64 a0_0, .int .i64 a0_1, .int .i64 a0_2, .int .i64 a0_3, .int .i64 a0_4, .int .i64 a0_5, .int .i64 a0_6]]).bind fun r76 =>
 (AV.intK .i64 r76 fun i77 =>
 ((cp F_ref09_Check [.agg [.int .i64 a0_0, .int .i64 a0_1, .int .i64 a0_2, .int .i64 a0_3, .int .i64 a0_4, .int .i64 a0_5, .int .i64 a0_6]]).bind fun r78 =>
 (AV.intK .i64 r78 fun i79 =>
 (cond (i77 == i79)
 ((cp F_law09_awake []).bind fun r80 =>
 (AV.boolK r80 fun b81 =>
 (some (.bool b81))))
 (some (.bool false)))))))
 (some (.bool false)))
 (some (.bool false))))
 (some (.bool false)))
 (some (.bool false)))))))))))))))))))))))))))))))))))))))))))))))))))))))))))))
theorem eq_law09_CiviltimeSecs (n : Nat) (a0_0 : Int) (a0_1 : Int) (a0_2 : Int) (a0_3 : Int) (a0_4 : Int) (a0_5 : Int) (a0_6 : Int) (a1 : Int) (a2 : Int) : CP C (n + 1) F_law09_CiviltimeSecs [.agg [.int .i64 a0_0, .int .i64 a0_1, .int .i64 a0_2, .int .i64 a0_3, .int .i64 a0_4, .int .i64 a0_5, .int .i64 a0_6], .int .i64 a1, .int .i64 a2] = R_law09_CiviltimeSecs (CP C n) n a0_0 a0_1 a0_2 a0_3 a0_4 a0_5 a0_6 a1 a2 := by kernel_rfl
-- ref03_CheckDur
def R_ref03_CheckDur (cp : FuncId → List AV → Option AV) (_n : Nat) (a0_0 : Int) (a0_1 : Int) : Option AV :=
 (cond (decide (a0_1 < 0))
 (some (.int .i64 5))
 (cond (decide (a0_1 ≥ 1000000000))
 (some (.int .i64 5))
 (cond (decide (a0_0 < (-1099511627776)))
 (some (.int .i64 8))
 (cond (decide (a0_0 > 1099511627776))
 (some (.int .i64 8))
 (cond (a0_0 == 1099511627776)
 (cond (decide (a0_1 > 0))
 (some (.int .i64 8))
 (some (.int .i64 0)))
 (some (.int .i64 0)))))))
theorem eq_ref03_CheckDur (n : Nat) (a0_0 : Int) (a0_1 : Int) : CP C (n + 1) F_ref03_CheckDur [.agg [.int .i64 a0_0, .int .i64 a0_1]] = R_ref03_CheckDur (CP C n) n a0_0 a0_1 := by kernel_rfl
-- ref03_Check
def R_ref03_Check (cp : FuncId → List AV → Option AV) (_n : Nat) (a0_0 : Int) (a0_1 : Int) : Option AV :=
 (cond (decide (a0_1 < 0))
 (some (.int .i64 5))
 (cond (decide (a0_1 ≥ 1000000000))
 (some (.int .i64 5))
 (cond (decide (a0_0 < (-377705116800)))
 (some (.int .i64 8))
 (cond (decide (a0_0 > 253402300799))
 (some (.int .i64 8))
 (some (.int .i64 0))))))
theorem eq_ref03_Check (n : Nat) (a0_0 : Int) (a0_1 : Int) : CP C (n + 1) F_ref03_Check [.agg [.int .i64 a0_0, .int .i64 a0_1]] = R_ref03_Check (CP C n) n a0_0 a0_1 := by kernel_rfl
-- ref01_sum
def S_ref01_sum_116 (b0 : Bool) (x1 : Int) (l2 : List AV) (l3 : List AV) (l4 : List AV) : St := ⟨[.junk, .junk, .bool b0, .ptr (some (0, 0)), .ptr (some (1, 0)), .junk, .ptr (some (2, 0)), .junk, .ptr (some (3, 0)), .int .i64 x1, .junk, .junk, .junk, .junk, .junk, .junk, .junk, .junk, .junk, .junk, .junk, .junk, .junk, .junk, .junk, .junk, .junk, .junk, .junk, .junk, .junk, .junk, .junk, .junk, .junk, .junk, .junk], [.cells 114 l2, .cells 114 l3, .cells 114 [.bool false, .bool false, .bool false, .bool false, .bool false, .bool false, .bool false, .bool false, .bool false, .bool false, .bool false, .bool false, .bool false, .bool false, .bool false, .bool false, .bool false, .bool false, .bool false, .bool false, .bool false, .bool false, .bool false, .bool false, .bool false, .bool false, .bool false, .bool false, .bool false, .bool false, .bool false, .bool false, .bool false, .bool false, .bool false, .bool false, .bool false, .bool false, .bool false, .bool false, .bool false, .bool false, .bool false, .bool false, .bool false, .bool false, .bool false, .bool false, .bool false, .bool false, .bool false, .bool false, .bool false, .bool false, .bool false, .bool false, .bool false, .bool false, .bool false, .bool false, .bool false, .bool false, .bool false, .bool false, .bool false, .bool false, .bool false, .bool false, .bool false, .bool false, .bool false, .bool false, .bool false, .bool false, .bool false, .bool false, .bool false, .bool false, .bool false, .bool false, .bool false, .bool false, .bool false, .bool false, .bool false, .bool false, .bool false, .bool false, .bool false, .bool false, .bool false, .bool false, .bool false, .bool false, .bool false, .bool false, .bool false, .bool false, .bool false, .bool false, .bool false, .bool false, .bool false, .bool false, .bool false, .bool false, .bool false, .bool false, .bool false, .bool false, .bool false, .bool false, .bool false, .bool false, .bool false, .bool false, .bool false, .bool false, .bool false, .bool false, .bool false, .bool false, .bool false, .bool false, .bool false, .bool false, .bool false, .bool false], .cells 114 l4]⟩
def S_ref01_sum_3731 (b0 : Bool) (x1 : Int) (x2 : Int) (l3 : List AV) (l4 : List AV) (l5 : List AV) : St := ⟨[.junk, .junk, .bool b0, .ptr (some (0, 0)), .ptr (some (1, 0)), .junk, .ptr (some (2, 0)), .junk, .ptr (some (3, 0)), .int .i64 x1, .int .i64 x2, .junk, .junk, .junk, .junk, .junk, .junk, .junk, .junk, .junk, .junk, .junk, .junk, .junk, .junk, .junk, .junk, .junk, .junk, .junk, .junk, .junk, .junk, .junk, .junk, .junk, .junk], [.cells 114 l3, .cells 114 l4, .cells 114 [.bool false, .bool false, .bool false, .bool false, .bool false, .bool false, .bool false, .bool false, .bool false, .bool false, .bool false, .bool false, .bool false, .bool false, .bool false, .bool false, .bool false, .bool false, .bool false, .bool false, .bool false, .bool false, .bool false, .bool false, .bool false, .bool false, .bool false, .bool false, .bool false, .bool false, .bool false, .bool false, .bool false, .bool false, .bool false, .bool false, .bool false, .bool false, .bool false, .bool false, .bool false, .bool false, .bool false, .bool false, .bool false, .bool false, .bool false, .bool false, .bool false, .bool false, .bool false, .bool false, .bool false, .bool false, .bool false, .bool false, .bool false, .bool false, .bool false, .bool false, .bool false, .bool false, .bool false, .bool false, .bool false, .bool false, .bool false, .bool false, .bool false, .bool false, .bool false, .bool false, .bool false, .bool false, .bool false, .bool false, .bool false, .bool false, .bool false, .bool false, .bool false, .bool false, .bool false, .bool false, .bool false, .bool false, .bool false, .bool false, .bool false, .bool false, .bool false, .bool false, .bool false, .bool false, .bool false, .bool false, .bool false, .bool false, .bool false, .bool false, .bool false, .bool false, .bool false, .bool false, .bool false, .bool false, .bool false, .bool false, .bool false, .bool false, .bool false, .bool false, .bool false, .bool false, .bool false, .bool false, .bool false, .bool false, .bool false, .bool false, .bool false, .bool false, .bool false, .bool false, .bool false, .bool false, .bool false, .bool false], .cells 114 l5]⟩
def S_ref01_sum_7463 (b0 : Bool) (x1 : Int) (x2 : Int) (l3 : List AV) (l4 : List AV) (l5 : List AV) : St := ⟨[.junk, .junk, .bool b0, .ptr (some (0, 0)), .ptr (some (1, 0)), .junk, .ptr (some (2, 0)), .junk, .ptr (some (3, 0)), .int .i64 x1, .int .i64 x2, .junk, .junk, .junk, .junk, .junk, .junk, .junk, .junk, .junk, .junk, .junk, .junk, .junk, .junk, .junk, .junk, .junk, .junk, .junk, .junk, .junk, .junk, .junk, .junk, .junk, .junk], [.cells 114 l3, .cells 114 l4, .cells 114 [.bool false, .bool false, .bool false, .bool false, .bool false, .bool false, .bool false, .bool false, .bool false, .bool false, .bool false, .bool false, .bool false, .bool false, .bool false, .bool false, .bool false, .bool false, .bool false, .bool false, .bool false, .bool false, .bool false, .bool false, .bool false, .bool false, .bool false, .bool false, .bool false, .bool false, .bool false, .bool false, .bool false, .bool false, .bool false, .bool false, .bool false, .bool false, .bool false, .bool false, .bool false, .bool false, .bool false, .bool false, .bool false, .bool false, .bool false, .bool false, .bool false, .bool false, .bool false, .bool false, .bool false, .bool false, .bool false, .bool false, .bool false, .bool false, .bool false, .bool false, .bool false, .bool false, .bool false, .bool false, .bool false, .bool false, .bool false, .bool false, .bool false, .bool false, .bool false, .bool false, .bool false, .bool false, .bool false, .bool false, .bool false, .bool false, .bool false, .bool false, .bool false, .bool false, .bool false, .bool false, .bool false, .bool false, .bool false, .bool false, .bool false, .bool false, .bool false, .bool false, .bool false, .bool false, .bool false, .bool false, .bool false, .bool false, .bool false, .bool false, .bool false, .bool false, .bool false, .bool false, .bool false, .bool false, .bool false, .bool false, .bool false, .bool false, .bool false, .bool false, .bool false, .bool false, .bool false, .bool false, .bool false, .bool false, .bool false, .bool false, .bool false, .bool false, .bool false, .bool false, .bool false, .bool false, .bool false, .bool false], .cells 114 l5]⟩
def S_ref01_sum_14927 (x0 : Int) (x1 : Int) (l2 : List AV) (l3 : List AV) (l4 : List AV) : St := ⟨[.junk, .junk, .junk, .ptr (some (0, 0)), .ptr (some (1, 0)), .junk, .ptr (some (2, 0)), .junk, .ptr (some (3, 0)), .int .i64 x0, .int .i64 x1, .junk, .junk, .junk, .junk, .junk, .junk, .junk, .junk, .junk, .junk, .junk, .junk, .junk, .junk, .junk, .junk, .junk, .junk, .junk, .junk, .junk, .junk, .junk, .junk, .junk, .junk], [.cells 114 l2, .cells 114 l3, .cells 114 [.bool false, .bool false, .bool false, .bool false, .bool false, .bool false, .bool false, .bool false, .bool false, .bool false, .bool false, .bool false, .bool false, .bool false, .bool false, .bool false, .bool false, .bool false, .bool false, .bool false, .bool false, .bool false, .bool false, .bool false, .bool false, .bool false, .bool false, .bool false, .bool false, .bool false, .bool false, .bool false, .bool false, .bool false, .bool false, .bool false, .bool false, .bool false, .bool false, .bool false, .bool false, .bool false, .bool false, .bool false, .bool false, .bool false, .bool false, .bool false, .bool false, .bool false, .bool false, .bool false, .bool false, .bool false, .bool false, .bool false, .bool false, .bool false, .bool false, .bool false, .bool false, .bool false, .bool false, .bool false, .bool false, .bool false, .bool false, .bool false, .bool false, .bool false, .bool false, .bool false, .bool false, .bool false, .bool false, .bool false, .bool false, .bool false, .bool false, .bool false, .bool false, .bool false, .bool false, .bool false, .bool false, .bool false, .bool false, .bool false, .bool false, .bool false, .bool false, .bool false, .bool false, .bool false, .bool false, .bool false, .bool false, .bool false, .bool false, .bool false, .bool false, .bool false, .bool false, .bool false, .bool false, .bool false, .bool false, .bool false, .bool false, .bool false, .bool false, .bool false, .bool false, .bool false, .bool false, .bool false, .bool false, .bool false, .bool false, .bool false, .bool false, .bool false, .bool false, .bool false, .bool false, .bool false, .bool false, .bool false], .cells 114 l4]⟩
def S_ref01_sum_467 (b0 : Bool) (x1 : Int) (l2 : List AV) (l3 : List AV) (l4 : List AV) : St := ⟨[.junk, .junk, .bool b0, .ptr (some (0, 0)), .ptr (some (1, 0)), .junk, .ptr (some (2, 0)), .junk, .ptr (some (3, 0)), .int .i64 x1, .junk, .junk, .junk, .junk, .junk, .junk, .junk, .junk, .junk, .junk, .junk, .junk, .junk, .junk, .junk, .junk, .junk, .junk, .junk, .junk, .junk, .junk, .junk, .junk, .junk, .junk, .junk], [.cells 114 l2, .cells 114 l3, .cells 114 [.bool false, .bool false, .bool false, .bool false, .bool false, .bool false, .bool false, .bool false, .bool false, .bool false, .bool false, .bool false, .bool false, .bool false, .bool false, .bool false, .bool false, .bool false, .bool false, .bool false, .bool false, .bool false, .bool false, .bool false, .bool false, .bool false, .bool false, .bool false, .bool false, .bool false, .bool false, .bool false, .bool false, .bool false, .bool false, .bool false, .bool false, .bool false, .bool false, .bool false, .bool false, .bool false, .bool false, .bool false, .bool false, .bool false, .bool false, .bool false, .bool false, .bool false, .bool false, .bool false, .bool false, .bool false, .bool false, .bool false, .bool false, .bool false, .bool false, .bool false, .bool false, .bool false, .bool false, .bool false, .bool false, .bool false, .bool false, .bool false, .bool false, .bool false, .bool false, .bool false, .bool false, .bool false, .bool false, .bool false, .bool false, .bool false, .bool false, .bool false, .bool false, .bool false, .bool false, .bool false, .bool false, .bool false, .bool false, .bool false, .bool false, .bool false, .bool false, .bool false, .bool false, .bool false, .bool false, .bool false, .bool false, .bool false, .bool false, .bool false, .bool false, .bool false, .bool false, .bool false, .bool false, .bool false, .bool false, .bool false, .bool false, .bool false, .bool false, .bool false, .bool false, .bool false, .bool false, .bool false, .bool false, .bool false, .bool false, .bool false, .bool false, .bool false, .bool false, .bool false, .bool false, .bool false, .bool false, .bool false], .cells 114 l4]⟩
def T_ref01_sum_467 (cp : FuncId → List AV → Option AV) (b0 : Bool) (x1 : Int) (l2 : List AV) (l3 : List AV) (l4 : List AV) (r116 : Bool → Int → List AV → List AV → List AV → Option AV) : Option AV :=
 (r116 b0 (IntKind.i64.wrap (x1 + 1)) l2 l3 l4)
theorem K_ref01_sum_467 (j : Jump) (n : Nat) (m116 : Nat) (b0 : Bool) (x1 : Int) (l2 : List AV) (l3 : List AV) (l4 : List AV) : enter (topEnv C (CP C n) n F_ref01_sum) (some j) (bodyOf C.P F_ref01_sum) (endOf C.P F_ref01_sum) [true, true, false, false, true, false, true, true] [m116] (S_ref01_sum_467 b0 x1 l2 l3 l4) = T_ref01_sum_467 (CP C n) b0 x1 l2 l3 l4 (fun b0 x1 l2 l3 l4 => j [false, false, true, false, true, true] [m116] (S_ref01_sum_116 b0 x1 l2 l3 l4)) := by kernel_rfl
def J_ref01_sum_467 (cp : FuncId → List AV → Option AV) (n : Nat) (r116 : Bool → Int → List AV → List AV → List AV → Option AV) (b0 : Bool) (x1 : Int) (l2 : List AV) (l3 : List AV) (l4 : List AV) : Option AV := T_ref01_sum_467 cp b0 x1 l2 l3 l4 r116
theorem JE_ref01_sum_467 (n : Nat) (m116 : Nat) (r116 : Bool → Int → List AV → List AV → List AV → Option AV) (h116 : ∀ (b0 : Bool) (x1 : Int) (l2 : List AV) (l3 : List AV) (l4 : List AV), jT (topEnv C (CP C n) n F_ref01_sum) (bodyOf C.P F_ref01_sum) (endOf C.P F_ref01_sum) [false, false, true, false, true, true] [m116] (S_ref01_sum_116 b0 x1 l2 l3 l4) = r116 b0 x1 l2 l3 l4) (b0 : Bool) (x1 : Int) (l2 : List AV) (l3 : List AV) (l4 : List AV) : jT (topEnv C (CP C n) n F_ref01_sum) (bodyOf C.P F_ref01_sum) (endOf C.P F_ref01_sum) [true, true, false, false, true, false, true, true] [m116] (S_ref01_sum_467 b0 x1 l2 l3 l4) = J_ref01_sum_467 (CP C n) n r116 b0 x1 l2 l3 l4 :=
  (jT_eq _ _ _ _ _ _).trans ((K_ref01_sum_467 _ n m116 b0 x1 l2 l3 l4).trans (congrArg (T_ref01_sum_467 (CP C n) b0 x1 l2 l3 l4) (funext fun b0 => (funext fun x1 => (funext fun l2 => (funext fun l3 => (funext fun l4 => h116 b0 x1 l2 l3 l4)))))))
def T_ref01_sum_14927 (cp : FuncId → List AV → Option AV) (x0 : Int) (x1 : Int) (l2 : List AV) (l3 : List AV) (l4 : List AV) (j467 : Bool → Int → List AV → List AV → List AV → Option AV) : Option AV :=
 (bnd (IntKind.i64.wrap ((BitVec.ofInt 64 x1 &&& BitVec.ofInt 64 1).toNat : Int)) fun y1 =>
 (cond ((decide (0 ≤ x0)) && (decide (x0 < 128)))
 (cond (fits (0 + ((Int.toNat x0) * 1)) 1 l4)
 (j467 (decide (x1 ≥ 2)) x0 l2 l3 (splice l4 (0 + ((Int.toNat x0) * 1)) [.bool (y1 == 1)]))
 none)
 none))
theorem K_ref01_sum_14927 (j : Jump) (n : Nat) (m116 : Nat) (x0 : Int) (x1 : Int) (l2 : List AV) (l3 : List AV) (l4 : List AV) : enter (topEnv C (CP C n) n F_ref01_sum) (some j) (bodyOf C.P F_ref01_sum) (endOf C.P F_ref01_sum) [true, true, true, true, false, false, true, false, false, true, false, true, true] [m116] (S_ref01_sum_14927 x0 x1 l2 l3 l4) = T_ref01_sum_14927 (CP C n) x0 x1 l2 l3 l4 (fun b0 x1 l2 l3 l4 => j [true, true, false, false, true, false, true, true] [m116] (S_ref01_sum_467 b0 x1 l2 l3 l4)) := by kernel_rfl
def J_ref01_sum_14927 (cp : FuncId → List AV → Option AV) (n : Nat) (r116 : Bool → Int → List AV → List AV → List AV → Option AV) (x0 : Int) (x1 : Int) (l2 : List AV) (l3 : List AV) (l4 : List AV) : Option AV := T_ref01_sum_14927 cp x0 x1 l2 l3 l4 (J_ref01_sum_467 cp n r116)
theorem JE_ref01_sum_14927 (n : Nat) (m116 : Nat) (r116 : Bool → Int → List AV → List AV → List AV → Option AV) (h116 : ∀ (b0 : Bool) (x1 : Int) (l2 : List AV) (l3 : List AV) (l4 : List AV), jT (topEnv C (CP C n) n F_ref01_sum) (bodyOf C.P F_ref01_sum) (endOf C.P F_ref01_sum) [false, false, true, false, true, true] [m116] (S_ref01_sum_116 b0 x1 l2 l3 l4) = r116 b0 x1 l2 l3 l4) (x0 : Int) (x1 : Int) (l2 : List AV) (l3 : List AV) (l4 : List AV) : jT (topEnv C (CP C n) n F_ref01_sum) (bodyOf C.P F_ref01_sum) (endOf C.P F_ref01_sum) [true, true, true, true, false, false, true, false, false, true, false, true, true] [m116] (S_ref01_sum_14927 x0 x1 l2 l3 l4) = J_ref01_sum_14927 (CP C n) n r116 x0 x1 l2 l3 l4 :=
  (jT_eq _ _ _ _ _ _).trans ((K_ref01_sum_14927 _ n m116 x0 x1 l2 l3 l4).trans (congrArg (T_ref01_sum_14927 (CP C n) x0 x1 l2 l3 l4) (funext fun b0 => (funext fun x1 => (funext fun l2 => (funext fun l3 => (funext fun l4 => (JE_ref01_sum_467 n m116 r116 h116) b0 x1 l2 l3 l4)))))))
def T_ref01_sum_7463 (cp : FuncId → List AV → Option AV) (b0 : Bool) (x1 : Int) (x2 : Int) (l3 : List AV) (l4 : List AV) (l5 : List AV) (j14927 : Int → Int → List AV → List AV → List AV → Option AV) : Option AV :=
 (cond b0
 (j14927 x1 (IntKind.i64.wrap (x2 + 1)) l3 l4 l5)
 (j14927 x1 x2 l3 l4 l5))
theorem K_ref01_sum_7463 (j : Jump) (n : Nat) (m116 : Nat) (b0 : Bool) (x1 : Int) (x2 : Int) (l3 : List AV) (l4 : List AV) (l5 : List AV) : enter (topEnv C (CP C n) n F_ref01_sum) (some j) (bodyOf C.P F_ref01_sum) (endOf C.P F_ref01_sum) [true, true, true, false, false, true, false, false, true, false, true, true] [m116] (S_ref01_sum_7463 b0 x1 x2 l3 l4 l5) = T_ref01_sum_7463 (CP C n) b0 x1 x2 l3 l4 l5 (fun x0 x1 l2 l3 l4 => j [true, true, true, true, false, false, true, false, false, true, false, true, true] [m116] (S_ref01_sum_14927 x0 x1 l2 l3 l4)) := by kernel_rfl
def J_ref01_sum_7463 (cp : FuncId → List AV → Option AV) (n : Nat) (r116 : Bool → Int → List AV → List AV → List AV → Option AV) (b0 : Bool) (x1 : Int) (x2 : Int) (l3 : List AV) (l4 : List AV) (l5 : List AV) : Option AV := T_ref01_sum_7463 cp b0 x1 x2 l3 l4 l5 (J_ref01_sum_14927 cp n r116)
theorem JE_ref01_sum_7463 (n : Nat) (m116 : Nat) (r116 : Bool → Int → List AV → List AV → List AV → Option AV) (h116 : ∀ (b0 : Bool) (x1 : Int) (l2 : List AV) (l3 : List AV) (l4 : List AV), jT (topEnv C (CP C n) n F_ref01_sum) (bodyOf C.P F_ref01_sum) (endOf C.P F_ref01_sum) [false, false, true, false, true, true] [m116] (S_ref01_sum_116 b0 x1 l2 l3 l4) = r116 b0 x1 l2 l3 l4) (b0 : Bool) (x1 : Int) (x2 : Int) (l3 : List AV) (l4 : List AV) (l5 : List AV) : jT (topEnv C (CP C n) n F_ref01_sum) (bodyOf C.P F_ref01_sum) (endOf C.P F_ref01_sum) [true, true, true, false, false, true, false, false, true, false, true, true] [m116] (S_ref01_sum_7463 b0 x1 x2 l3 l4 l5) = J_ref01_sum_7463 (CP C n) n r116 b0 x1 x2 l3 l4 l5 :=
  (jT_eq _ _ _ _ _ _).trans ((K_ref01_sum_7463 _ n m116 b0 x1 x2 l3 l4 l5).trans (congrArg (T_ref01_sum_7463 (CP C n) b0 x1 x2 l3 l4 l5) (funext fun x0 => (funext fun x1 => (funext fun l2 => (funext fun l3 => (funext fun l4 => (JE_ref01_sum_14927 n m116 r116 h116) x0 x1 l2 l3 l4)))))))
def T_ref01_sum_3731 (cp : FuncId → List AV → Option AV) (b0 : Bool) (x1 : Int) (x2 : Int) (l3 : List AV) (l4 : List AV) (l5 : List AV) (j7463 : Bool → Int → Int → List AV → List AV → List AV → Option AV) : Option AV :=
 (cond ((decide (0 ≤ x1)) && (decide (x1 < 128)))
 (cond (fits (0 + ((Int.toNat x1) * 1)) 1 l4)
 (AV.boolK (nth l4 (0 + ((Int.toNat x1) * 1))) fun b1 =>
 (cond b1
 (j7463 b0 x1 (IntKind.i64.wrap (x2 + 1)) l3 l4 l5)
 (j7463 b0 x1 x2 l3 l4 l5)))
 none)
 none)
theorem K_ref01_sum_3731 (j : Jump) (n : Nat) (m116 : Nat) (b0 : Bool) (x1 : Int) (x2 : Int) (l3 : List AV) (l4 : List AV) (l5 : List AV) : enter (topEnv C (CP C n) n F_ref01_sum) (some j) (bodyOf C.P F_ref01_sum) (endOf C.P F_ref01_sum) [true, true, false, false, true, false, false, true, false, true, true] [m116] (S_ref01_sum_3731 b0 x1 x2 l3 l4 l5) = T_ref01_sum_3731 (CP C n) b0 x1 x2 l3 l4 l5 (fun b0 x1 x2 l3 l4 l5 => j [true, true, true, false, false, true, false, false, true, false, true, true] [m116] (S_ref01_sum_7463 b0 x1 x2 l3 l4 l5)) := by kernel_rfl
def J_ref01_sum_3731 (cp : FuncId → List AV → Option AV) (n : Nat) (r116 : Bool → Int → List AV → List AV → List AV → Option AV) (b0 : Bool) (x1 : Int) (x2 : Int) (l3 : List AV) (l4 : List AV) (l5 : List AV) : Option AV := T_ref01_sum_3731 cp b0 x1 x2 l3 l4 l5 (J_ref01_sum_7463 cp n r116)
theorem JE_ref01_sum_3731 (n : Nat) (m116 : Nat) (r116 : Bool → Int → List AV → List AV → List AV → Option AV) (h116 : ∀ (b0 : Bool) (x1 : Int) (l2 : List AV) (l3 : List AV) (l4 : List AV), jT (topEnv C (CP C n) n F_ref01_sum) (bodyOf C.P F_ref01_sum) (endOf C.P F_ref01_sum) [false, false, true, false, true, true] [m116] (S_ref01_sum_116 b0 x1 l2 l3 l4) = r116 b0 x1 l2 l3 l4) (b0 : Bool) (x1 : Int) (x2 : Int) (l3 : List AV) (l4 : List AV) (l5 : List AV) : jT (topEnv C (CP C n) n F_ref01_sum) (bodyOf C.P F_ref01_sum) (endOf C.P F_ref01_sum) [true, true, false, false, true, false, false, true, false, true, true] [m116] (S_ref01_sum_3731 b0 x1 x2 l3 l4 l5) = J_ref01_sum_3731 (CP C n) n r116 b0 x1 x2 l3 l4 l5 :=
  (jT_eq _ _ _ _ _ _).trans ((K_ref01_sum_3731 _ n m116 b0 x1 x2 l3 l4 l5).trans (congrArg (T_ref01_sum_3731 (CP C n) b0 x1 x2 l3 l4 l5) (funext fun b0 => (funext fun x1 => (funext fun x2 => (funext fun l3 => (funext fun l4 => (funext fun l5 => (JE_ref01_sum_7463 n m116 r116 h116) b0 x1 x2 l3 l4 l5))))))))
def T_ref01_sum_116 (cp : FuncId → List AV → Option AV) (b0 : Bool) (x1 : Int) (l2 : List AV) (l3 : List AV) (l4 : List AV) (j3731 : Bool → Int → Int → List AV → List AV → List AV → Option AV) : Option AV :=
 (cond (decide (x1 < 128))
 (cond ((decide (0 ≤ x1)) && (decide (x1 < 128)))
 (cond (fits (0 + ((Int.toNat x1) * 1)) 1 l2)
 (AV.boolK (nth l2 (0 + ((Int.toNat x1) * 1))) fun b1 =>
 (cond b1
 (j3731 b0 x1 1 l2 l3 l4)
 (j3731 b0 x1 0 l2 l3 l4)))
 none)
 none)
 (cond (fits 0 128 l4)
 (cond (lenIs (List.take 128 (List.drop 0 l4)) 128)
 (cond (cellsOk (List.take 128 (List.drop 0 l4)))
 (cond (fits 0 128 (splice [.bool false, .bool false, .bool false, .bool false, .bool false, .bool false, .bool false, .bool false, .bool false, .bool false, .bool false, .bool false, .bool false, .bool false, .bool false, .bool false, .bool false, .bool false, .bool false, .bool false, .bool false, .bool false, .bool false, .bool false, .bool false, .bool false, .bool false, .bool false, .bool false, .bool false, .bool false, .bool false, .bool false, .bool false, .bool false, .bool false, .bool false, .bool false, .bool false, .bool false, .bool false, .bool false, .bool false, .bool false, .bool false, .bool false, .bool false, .bool false, .bool false, .bool false, .bool false, .bool false, .bool false, .bool false, .bool false, .bool false, .bool false, .bool false, .bool false, .bool false, .bool false, .bool false, .bool false, .bool false, .bool false, .bool false, .bool false, .bool false, .bool false, .bool false, .bool false, .bool false, .bool false, .bool false, .bool false, .bool false, .bool false, .bool false, .bool false, .bool false, .bool false, .bool false, .bool false, .bool false, .bool false, .bool false, .bool false, .bool false, .bool false, .bool false, .bool false, .bool false, .bool false, .bool false, .bool false, .bool false, .bool false, .bool false, .bool false, .bool false, .bool false, .bool false, .bool false, .bool false, .bool false, .bool false, .bool false, .bool false, .bool false, .bool false, .bool false, .bool false, .bool false, .bool false, .bool false, .bool false, .bool false, .bool false, .bool false, .bool false, .bool false, .bool false, .bool false, .bool false, .bool false, .bool false, .bool false, .bool false] 0 (List.take 128 (List.drop 0 l4))))
 (cond ((AV.pureL (List.take 128 (List.drop 0 (splice [.bool false, .bool false, .bool false, .bool false, .bool false, .bool false, .bool false, .bool false, .bool false, .bool false, .bool false, .bool false, .bool false, .bool false, .bool false, .bool false, .bool false, .bool false, .bool false, .bool false, .bool false, .bool false, .bool false, .bool false, .bool false, .bool false, .bool false, .bool false, .bool false, .bool false, .bool false, .bool false, .bool false, .bool false, .bool false, .bool false, .bool false, .bool false, .bool false, .bool false, .bool false, .bool false, .bool false, .bool false, .bool false, .bool false, .bool false, .bool false, .bool false, .bool false, .bool false, .bool false, .bool false, .bool false, .bool false, .bool false, .bool false, .bool false, .bool false, .bool false, .bool false, .bool false, .bool false, .bool false, .bool false, .bool false, .bool false, .bool false, .bool false, .bool false, .bool false, .bool false, .bool false, .bool false, .bool false, .bool false, .bool false, .bool false, .bool false, .bool false, .bool false, .bool false, .bool false, .bool false, .bool false, .bool false, .bool false, .bool false, .bool false, .bool false, .bool false, .bool false, .bool false, .bool false, .bool false, .bool false, .bool false, .bool false, .bool false, .bool false, .bool false, .bool false, .bool false, .bool false, .bool false, .bool false, .bool false, .bool false, .bool false, .bool false, .bool false, .bool false, .bool false, .bool false, .bool false, .bool false, .bool false, .bool false, .bool false, .bool false, .bool false, .bool false, .bool false, .bool false, .bool false, .bool false, .bool false, .bool false] 0 (List.take 128 (List.drop 0 l4)))))) && true)
 (some (.tup [.agg (List.take 128 (List.drop 0 (splice [.bool false, .bool false, .bool false, .bool false, .bool false, .bool false, .bool false, .bool false, .bool false, .bool false, .bool false, .bool false, .bool false, .bool false, .bool false, .bool false, .bool false, .bool false, .bool false, .bool false, .bool false, .bool false, .bool false, .bool false, .bool false, .bool false, .bool false, .bool false, .bool false, .bool false, .bool false, .bool false, .bool false, .bool false, .bool false, .bool false, .bool false, .bool false, .bool false, .bool false, .bool false, .bool false, .bool false, .bool false, .bool false, .bool false, .bool false, .bool false, .bool false, .bool false, .bool false, .bool false, .bool false, .bool false, .bool false, .bool false, .bool false, .bool false, .bool false, .bool false, .bool false, .bool false, .bool false, .bool false, .bool false, .bool false, .bool false, .bool false, .bool false, .bool false, .bool false, .bool false, .bool false, .bool false, .bool false, .bool false, .bool false, .bool false, .bool false, .bool false, .bool false, .bool false, .bool false, .bool false, .bool false, .bool false, .bool false, .bool false, .bool false, .bool false, .bool false, .bool false, .bool false, .bool false, .bool false, .bool false, .bool false, .bool false, .bool false, .bool false, .bool false, .bool false, .bool false, .bool false, .bool false, .bool false, .bool false, .bool false, .bool false, .bool false, .bool false, .bool false, .bool false, .bool false, .bool false, .bool false, .bool false, .bool false, .bool false, .bool false, .bool false, .bool false, .bool false, .bool false, .bool false, .bool false, .bool false, .bool false] 0 (List.take 128 (List.drop 0 l4))))), .bool b0]))
 none)
 none)
 none)
 none)
 none))
theorem K_ref01_sum_116 (j : Jump) (n : Nat) (m116 : Nat) (b0 : Bool) (x1 : Int) (l2 : List AV) (l3 : List AV) (l4 : List AV) : enter (topEnv C (CP C n) n F_ref01_sum) (some j) (bodyOf C.P F_ref01_sum) (endOf C.P F_ref01_sum) [false, false, true, false, true, true] [(m116 + 1)] (S_ref01_sum_116 b0 x1 l2 l3 l4) = T_ref01_sum_116 (CP C n) b0 x1 l2 l3 l4 (fun b0 x1 x2 l3 l4 l5 => j [true, true, false, false, true, false, false, true, false, true, true] [m116] (S_ref01_sum_3731 b0 x1 x2 l3 l4 l5)) := by kernel_rfl
def J_ref01_sum_116 (cp : FuncId → List AV → Option AV) (n : Nat) : Nat → Bool → Int → List AV → List AV → List AV → Option AV
  | 0 => (fun b0 x1 l2 l3 l4 => none)
  | m + 1 => (fun b0 x1 l2 l3 l4 => T_ref01_sum_116 cp b0 x1 l2 l3 l4 (J_ref01_sum_3731 cp n (J_ref01_sum_116 cp n m)))
theorem Js_ref01_sum_116 (cp : FuncId → List AV → Option AV) (n : Nat) (m : Nat) (b0 : Bool) (x1 : Int) (l2 : List AV) (l3 : List AV) (l4 : List AV) : J_ref01_sum_116 cp n (m + 1) b0 x1 l2 l3 l4 = T_ref01_sum_116 cp b0 x1 l2 l3 l4 (J_ref01_sum_3731 cp n (J_ref01_sum_116 cp n m)) := of_eq_true (eq_self _)
theorem JE_ref01_sum_116 (n : Nat) : ∀ (m : Nat) (b0 : Bool) (x1 : Int) (l2 : List AV) (l3 : List AV) (l4 : List AV), jT (topEnv C (CP C n) n F_ref01_sum) (bodyOf C.P F_ref01_sum) (endOf C.P F_ref01_sum) [false, false, true, false, true, true] [m] (S_ref01_sum_116 b0 x1 l2 l3 l4) = J_ref01_sum_116 (CP C n) n m b0 x1 l2 l3 l4
  | 0, b0, x1, l2, l3, l4 => (jT_eq _ _ _ _ _ _).trans (by kernel_rfl)
  | m + 1, b0, x1, l2, l3, l4 => (jT_eq _ _ _ _ _ _).trans ((K_ref01_sum_116 _ n m b0 x1 l2 l3 l4).trans (congrArg (T_ref01_sum_116 (CP C n) b0 x1 l2 l3 l4) (funext fun b0 => (funext fun x1 => (funext fun x2 => (funext fun l3 => (funext fun l4 => (funext fun l5 => (JE_ref01_sum_3731 n m (J_ref01_sum_116 (CP C n) n m) (JE_ref01_sum_116 n m)) b0 x1 x2 l3 l4 l5))))))))
def T_ref01_sum_1 (cp : FuncId → List AV → Option AV) (a0 : List AV) (a1 : List AV) (a2 : Bool) (j116 : Bool → Int → List AV → List AV → List AV → Option AV) : Option AV :=
 (j116 a2 0 a0 a1 [.bool false, .bool false, .bool false, .bool false, .bool false, .bool false, .bool false, .bool false, .bool false, .bool false, .bool false, .bool false, .bool false, .bool false, .bool false, .bool false, .bool false, .bool false, .bool false, .bool false, .bool false, .bool false, .bool false, .bool false, .bool false, .bool false, .bool false, .bool false, .bool false, .bool false, .bool false, .bool false, .bool false, .bool false, .bool false, .bool false, .bool false, .bool false, .bool false, .bool false, .bool false, .bool false, .bool false, .bool false, .bool false, .bool false, .bool false, .bool false, .bool false, .bool false, .bool false, .bool false, .bool false, .bool false, .bool false, .bool false, .bool false, .bool false, .bool false, .bool false, .bool false, .bool false, .bool false, .bool false, .bool false, .bool false, .bool false, .bool false, .bool false, .bool false, .bool false, .bool false, .bool false, .bool false, .bool false, .bool false, .bool false, .bool false, .bool false, .bool false, .bool false, .bool false, .bool false, .bool false, .bool false, .bool false, .bool false, .bool false, .bool false, .bool false, .bool false, .bool false, .bool false, .bool false, .bool false, .bool false, .bool false, .bool false, .bool false, .bool false, .bool false, .bool false, .bool false, .bool false, .bool false, .bool false, .bool false, .bool false, .bool false, .bool false, .bool false, .bool false, .bool false, .bool false, .bool false, .bool false, .bool false, .bool false, .bool false, .bool false, .bool false, .bool false, .bool false, .bool false, .bool false, .bool false, .bool false, .bool false])
theorem K_ref01_sum_1 (j : Jump) (n : Nat) (a0 : List AV) (a1 : List AV) (a2 : Bool) : ex (topEnv C (CP C n) n F_ref01_sum) (some j) (bodyOf C.P F_ref01_sum) 1 [] [] (endOf C.P F_ref01_sum) (startOf C.P F_ref01_sum [.agg a0, .agg a1, .bool a2]) = T_ref01_sum_1 (CP C n) a0 a1 a2 (fun b0 x1 l2 l3 l4 => j [false, false, true, false, true, true] [(n + 300)] (S_ref01_sum_116 b0 x1 l2 l3 l4)) := by kernel_rfl
def R_ref01_sum (cp : FuncId → List AV → Option AV) (n : Nat) (a0 : List AV) (a1 : List AV) (a2 : Bool) : Option AV := T_ref01_sum_1 cp a0 a1 a2 (J_ref01_sum_116 cp n (n + 300))
theorem eq_ref01_sum (n : Nat) (a0 : List AV) (a1 : List AV) (a2 : Bool) : CP C (n + 1) F_ref01_sum [.agg a0, .agg a1, .bool a2] = cond (AV.pureL [.agg a0, .agg a1, .bool a2]) (R_ref01_sum (CP C n) n a0 a1 a2) none :=
  (CP_run C n F_ref01_sum _ (by kernel_rfl)).trans (congrArg (fun x => cond (AV.pureL [.agg a0, .agg a1, .bool a2]) x none) ((K_ref01_sum_1 _ n a0 a1 a2).trans (congrArg (T_ref01_sum_1 (CP C n) a0 a1 a2) (funext fun b0 => (funext fun x1 => (funext fun l2 => (funext fun l3 => (funext fun l4 => (JE_ref01_sum_116 n (n + 300)) b0 x1 l2 l3 l4))))))))
-- ref01_bits
def S_ref01_bits_116 (x0 : Int) (x1 : Int) (x2 : Int) (l3 : List AV) : St := ⟨[.junk, .ptr (some (0, 0)), .ptr (some (1, 0)), .ptr (some (2, 0)), .int .i64 x0, .junk, .junk, .junk, .junk, .junk, .junk, .junk, .junk, .junk, .junk, .junk, .junk, .junk, .junk, .junk, .junk, .junk, .junk, .junk, .junk, .junk, .junk, .junk, .junk], [.cells 94 [.int .u64 x1, .int .u64 x2], .cells 114 [.bool false, .bool false, .bool false, .bool false, .bool false, .bool false, .bool false, .bool false, .bool false, .bool false, .bool false, .bool false, .bool false, .bool false, .bool false, .bool false, .bool false, .bool false, .bool false, .bool false, .bool false, .bool false, .bool false, .bool false, .bool false, .bool false, .bool false, .bool false, .bool false, .bool false, .bool false, .bool false, .bool false, .bool false, .bool false, .bool false, .bool false, .bool false, .bool false, .bool false, .bool false, .bool false, .bool false, .bool false, .bool false, .bool false, .bool false, .bool false, .bool false, .bool false, .bool false, .bool false, .bool false, .bool false, .bool false, .bool false, .bool false, .bool false, .bool false, .bool false, .bool false, .bool false, .bool false, .bool false, .bool false, .bool false, .bool false, .bool false, .bool false, .bool false, .bool false, .bool false, .bool false, .bool false, .bool false, .bool false, .bool false, .bool false, .bool false, .bool false, .bool false, .bool false, .bool false, .bool false, .bool false, .bool false, .bool false, .bool false, .bool false, .bool false, .bool false, .bool false, .bool false, .bool false, .bool false, .bool false, .bool false, .bool false, .bool false, .bool false, .bool false, .bool false, .bool false, .bool false, .bool false, .bool false, .bool false, .bool false, .bool false, .bool false, .bool false, .bool false, .bool false, .bool false, .bool false, .bool false, .bool false, .bool false, .bool false, .bool false, .bool false, .bool false, .bool false, .bool false, .bool false, .bool false, .bool false, .bool false], .cells 114 l3]⟩
def T_ref01_bits_116 (cp : FuncId → List AV → Option AV) (x0 : Int) (x1 : Int) (x2 : Int) (l3 : List AV) (r116 : Int → Int → Int → List AV → Option AV) : Option AV :=
 (cond (decide (x0 < 64))
 (cond (decide ((IntKind.u64.wrap x0) < 0))
 none
 (bnd (Int.fdiv x2 (2 ^ (min (Int.toNat (IntKind.u64.wrap x0)) 64))) fun y1 =>
 (bnd (IntKind.u64.wrap ((BitVec.ofInt 64 y1 &&& BitVec.ofInt 64 1).toNat : Int)) fun y2 =>
 (cond ((decide (0 ≤ x0)) && (decide (x0 < 128)))
 (cond (fits (0 + ((Int.toNat x0) * 1)) 1 l3)
 (cond (decide ((IntKind.u64.wrap x0) < 0))
 none
 (bnd (Int.fdiv x1 (2 ^ (min (Int.toNat (IntKind.u64.wrap x0)) 64))) fun y3 =>
 (bnd (IntKind.u64.wrap ((BitVec.ofInt 64 y3 &&& BitVec.ofInt 64 1).toNat : Int)) fun y4 =>
 (cond ((decide (0 ≤ (IntKind.i64.wrap (64 + x0)))) && (decide ((IntKind.i64.wrap (64 + x0)) < 128)))
 (cond (fits (0 + ((Int.toNat (IntKind.i64.wrap (64 + x0))) * 1)) 1 (splice l3 (0 + ((Int.toNat x0) * 1)) [.bool (y2 == 1)]))
 (r116 (IntKind.i64.wrap (x0 + 1)) x1 x2 (splice (splice l3 (0 + ((Int.toNat x0) * 1)) [.bool (y2 == 1)]) (0 + ((Int.toNat (IntKind.i64.wrap (64 + x0))) * 1)) [.bool (y4 == 1)]))
 none)
 none))))
 none)
 none))))
 (cond (fits 0 128 l3)
 (cond (lenIs (List.take 128 (List.drop 0 l3)) 128)
 (cond (cellsOk (List.take 128 (List.drop 0 l3)))
 (cond (fits 0 128 (splice [.bool false, .bool false, .bool false, .bool false, .bool false, .bool false, .bool false, .bool false, .bool false, .bool false, .bool false, .bool false, .bool false, .bool false, .bool false, .bool false, .bool false, .bool false, .bool false, .bool false, .bool false, .bool false, .bool false, .bool false, .bool false, .bool false, .bool false, .bool false, .bool false, .bool false, .bool false, .bool false, .bool false, .bool false, .bool false, .bool false, .bool false, .bool false, .bool false, .bool false, .bool false, .bool false, .bool false, .bool false, .bool false, .bool false, .bool false, .bool false, .bool false, .bool false, .bool false, .bool false, .bool false, .bool false, .bool false, .bool false, .bool false, .bool false, .bool false, .bool false, .bool false, .bool false, .bool false, .bool false, .bool false, .bool false, .bool false, .bool false, .bool false, .bool false, .bool false, .bool false, .bool false, .bool false, .bool false, .bool false, .bool false, .bool false, .bool false, .bool false, .bool false, .bool false, .bool false, .bool false, .bool false, .bool false, .bool false, .bool false, .bool false, .bool false, .bool false, .bool false, .bool false, .bool false, .bool false, .bool false, .bool false, .bool false, .bool false, .bool false, .bool false, .bool false, .bool false, .bool false, .bool false, .bool false, .bool false, .bool false, .bool false, .bool false, .bool false, .bool false, .bool false, .bool false, .bool false, .bool false, .bool false, .bool false, .bool false, .bool false, .bool false, .bool false, .bool false, .bool false, .bool false, .bool false, .bool false, .bool false] 0 (List.take 128 (List.drop 0 l3))))
 (cond (AV.pureL (List.take 128 (List.drop 0 (splice [.bool false, .bool false, .bool false, .bool false, .bool false, .bool false, .bool false, .bool false, .bool false, .bool false, .bool false, .bool false, .bool false, .bool false, .bool false, .bool false, .bool false, .bool false, .bool false, .bool false, .bool false, .bool false, .bool false, .bool false, .bool false, .bool false, .bool false, .bool false, .bool false, .bool false, .bool false, .bool false, .bool false, .bool false, .bool false, .bool false, .bool false, .bool false, .bool false, .bool false, .bool false, .bool false, .bool false, .bool false, .bool false, .bool false, .bool false, .bool false, .bool false, .bool false, .bool false, .bool false, .bool false, .bool false, .bool false, .bool false, .bool false, .bool false, .bool false, .bool false, .bool false, .bool false, .bool false, .bool false, .bool false, .bool false, .bool false, .bool false, .bool false, .bool false, .bool false, .bool false, .bool false, .bool false, .bool false, .bool false, .bool false, .bool false, .bool false, .bool false, .bool false, .bool false, .bool false, .bool false, .bool false, .bool false, .bool false, .bool false, .bool false, .bool false, .bool false, .bool false, .bool false, .bool false, .bool false, .bool false, .bool false, .bool false, .bool false, .bool false, .bool false, .bool false, .bool false, .bool false, .bool false, .bool false, .bool false, .bool false, .bool false, .bool false, .bool false, .bool false, .bool false, .bool false, .bool false, .bool false, .bool false, .bool false, .bool false, .bool false, .bool false, .bool false, .bool false, .bool false, .bool false, .bool false, .bool false, .bool false] 0 (List.take 128 (List.drop 0 l3))))))
 (some (.agg (List.take 128 (List.drop 0 (splice [.bool false, .bool false, .bool false, .bool false, .bool false, .bool false, .bool false, .bool false, .bool false, .bool false, .bool false, .bool false, .bool false, .bool false, .bool false, .bool false, .bool false, .bool false, .bool false, .bool false, .bool false, .bool false, .bool false, .bool false, .bool false, .bool false, .bool false, .bool false, .bool false, .bool false, .bool false, .bool false, .bool false, .bool false, .bool false, .bool false, .bool false, .bool false, .bool false, .bool false, .bool false, .bool false, .bool false, .bool false, .bool false, .bool false, .bool false, .bool false, .bool false, .bool false, .bool false, .bool false, .bool false, .bool false, .bool false, .bool false, .bool false, .bool false, .bool false, .bool false, .bool false, .bool false, .bool false, .bool false, .bool false, .bool false, .bool false, .bool false, .bool false, .bool false, .bool false, .bool false, .bool false, .bool false, .bool false, .bool false, .bool false, .bool false, .bool false, .bool false, .bool false, .bool false, .bool false, .bool false, .bool false, .bool false, .bool false, .bool false, .bool false, .bool false, .bool false, .bool false, .bool false, .bool false, .bool false, .bool false, .bool false, .bool false, .bool false, .bool false, .bool false, .bool false, .bool false, .bool false, .bool false, .bool false, .bool false, .bool false, .bool false, .bool false, .bool false, .bool false, .bool false, .bool false, .bool false, .bool false, .bool false, .bool false, .bool false, .bool false, .bool false, .bool false, .bool false, .bool false, .bool false, .bool false, .bool false, .bool false] 0 (List.take 128 (List.drop 0 l3)))))))
 none)
 none)
 none)
 none)
 none))
theorem K_ref01_bits_116 (j : Jump) (n : Nat) (m116 : Nat) (x0 : Int) (x1 : Int) (x2 : Int) (l3 : List AV) : enter (topEnv C (CP C n) n F_ref01_bits) (some j) (bodyOf C.P F_ref01_bits) (endOf C.P F_ref01_bits) [false, false, true, false, true, true] [(m116 + 1)] (S_ref01_bits_116 x0 x1 x2 l3) = T_ref01_bits_116 (CP C n) x0 x1 x2 l3 (fun x0 x1 x2 l3 => j [false, false, true, false, true, true] [m116] (S_ref01_bits_116 x0 x1 x2 l3)) := by kernel_rfl
def J_ref01_bits_116 (cp : FuncId → List AV → Option AV) (n : Nat) : Nat → Int → Int → Int → List AV → Option AV
  | 0 => (fun x0 x1 x2 l3 => none)
  | m + 1 => (fun x0 x1 x2 l3 => T_ref01_bits_116 cp x0 x1 x2 l3 (J_ref01_bits_116 cp n m))
theorem Js_ref01_bits_116 (cp : FuncId → List AV → Option AV) (n : Nat) (m : Nat) (x0 : Int) (x1 : Int) (x2 : Int) (l3 : List AV) : J_ref01_bits_116 cp n (m + 1) x0 x1 x2 l3 = T_ref01_bits_116 cp x0 x1 x2 l3 (J_ref01_bits_116 cp n m) := of_eq_true (eq_self _)
theorem JE_ref01_bits_116 (n : Nat) : ∀ (m : Nat) (x0 : Int) (x1 : Int) (x2 : Int) (l3 : List AV), jT (topEnv C (CP C n) n F_ref01_bits) (bodyOf C.P F_ref01_bits) (endOf C.P F_ref01_bits) [false, false, true, false, true, true] [m] (S_ref01_bits_116 x0 x1 x2 l3) = J_ref01_bits_116 (CP C n) n m x0 x1 x2 l3
  | 0, x0, x1, x2, l3 => (jT_eq _ _ _ _ _ _).trans (by kernel_rfl)
  | m + 1, x0, x1, x2, l3 => (jT_eq _ _ _ _ _ _).trans ((K_ref01_bits_116 _ n m x0 x1 x2 l3).trans (congrArg (T_ref01_bits_116 (CP C n) x0 x1 x2 l3) (funext fun x0 => (funext fun x1 => (funext fun x2 => (funext fun l3 => (JE_ref01_bits_116 n m) x0 x1 x2 l3))))))
def T_ref01_bits_1 (cp : FuncId → List AV → Option AV) (a0_0 : Int) (a0_1 : Int) (j116 : Int → Int → Int → List AV → Option AV) : Option AV :=
 (j116 0 a0_0 a0_1 [.bool false, .bool false, .bool false, .bool false, .bool false, .bool false, .bool false, .bool false, .bool false, .bool false, .bool false, .bool false, .bool false, .bool false, .bool false, .bool false, .bool false, .bool false, .bool false, .bool false, .bool false, .bool false, .bool false, .bool false, .bool false, .bool false, .bool false, .bool false, .bool false, .bool false, .bool false, .bool false, .bool false, .bool false, .bool false, .bool false, .bool false, .bool false, .bool false, .bool false, .bool false, .bool false, .bool false, .bool false, .bool false, .bool false, .bool false, .bool false, .bool false, .bool false, .bool false, .bool false, .bool false, .bool false, .bool false, .bool false, .bool false, .bool false, .bool false, .bool false, .bool false, .bool false, .bool false, .bool false, .bool false, .bool false, .bool false, .bool false, .bool false, .bool false, .bool false, .bool false, .bool false, .bool false, .bool false, .bool false, .bool false, .bool false, .bool false, .bool false, .bool false, .bool false, .bool false, .bool false, .bool false, .bool false, .bool false, .bool false, .bool false, .bool false, .bool false, .bool false, .bool false, .bool false, .bool false, .bool false, .bool false, .bool false, .bool false, .bool false, .bool false, .bool false, .bool false, .bool false, .bool false, .bool false, .bool false, .bool false, .bool false, .bool false, .bool false, .bool false, .bool false, .bool false, .bool false, .bool false, .bool false, .bool false, .bool false, .bool false, .bool false, .bool false, .bool false, .bool false, .bool false, .bool false, .bool false, .bool false])
theorem K_ref01_bits_1 (j : Jump) (n : Nat) (a0_0 : Int) (a0_1 : Int) : ex (topEnv C (CP C n) n F_ref01_bits) (some j) (bodyOf C.P F_ref01_bits) 1 [] [] (endOf C.P F_ref01_bits) (startOf C.P F_ref01_bits [.agg [.int .u64 a0_0, .int .u64 a0_1]]) = T_ref01_bits_1 (CP C n) a0_0 a0_1 (fun x0 x1 x2 l3 => j [false, false, true, false, true, true] [(n + 300)] (S_ref01_bits_116 x0 x1 x2 l3)) := by kernel_rfl
def R_ref01_bits (cp : FuncId → List AV → Option AV) (n : Nat) (a0_0 : Int) (a0_1 : Int) : Option AV := T_ref01_bits_1 cp a0_0 a0_1 (J_ref01_bits_116 cp n (n + 300))
theorem eq_ref01_bits (n : Nat) (a0_0 : Int) (a0_1 : Int) : CP C (n + 1) F_ref01_bits [.agg [.int .u64 a0_0, .int .u64 a0_1]] = R_ref01_bits (CP C n) n a0_0 a0_1 :=
  (CP_pure C n F_ref01_bits _ (by kernel_rfl) (by kernel_rfl)).trans ((K_ref01_bits_1 _ n a0_0 a0_1).trans (congrArg (T_ref01_bits_1 (CP C n) a0_0 a0_1) (funext fun x0 => (funext fun x1 => (funext fun x2 => (funext fun l3 => (JE_ref01_bits_116 n (n + 300)) x0 x1 x2 l3))))))
-- ref01_wide
def S_ref01_wide_116 (x0 : Int) (l1 : List AV) (x2 : Int) (x3 : Int) : St := ⟨[.junk, .ptr (some (0, 0)), .ptr (some (1, 0)), .ptr (some (2, 0)), .int .i64 x0, .junk, .junk, .junk, .junk, .junk, .junk, .junk, .junk, .junk, .junk, .junk, .junk, .junk, .junk, .junk, .junk, .junk, .junk, .junk, .junk, .junk, .junk, .junk, .junk, .junk, .junk], [.cells 114 l1, .cells 94 [.int .u64 0, .int .u64 0], .cells 94 [.int .u64 x2, .int .u64 x3]]⟩
def T_ref01_wide_116 (cp : FuncId → List AV → Option AV) (x0 : Int) (l1 : List AV) (x2 : Int) (x3 : Int) (r116 : Int → List AV → Int → Int → Option AV) : Option AV :=
 (cond (decide (x0 < 64))
 (cond ((decide (0 ≤ x0)) && (decide (x0 < 128)))
 (cond (fits (0 + ((Int.toNat x0) * 1)) 1 l1)
 (AV.boolK (nth l1 (0 + ((Int.toNat x0) * 1))) fun b1 =>
 (cond b1
 (cond (decide ((IntKind.u64.wrap x0) < 0))
 none
 (bnd (IntKind.u64.wrap (1 * (2 ^ (min (Int.toNat (IntKind.u64.wrap x0)) 64)))) fun y2 =>
 (bnd (IntKind.u64.wrap ((BitVec.ofInt 64 x3 ||| BitVec.ofInt 64 y2).toNat : Int)) fun y3 =>
 (cond ((decide (0 ≤ (IntKind.i64.wrap (64 + x0)))) && (decide ((IntKind.i64.wrap (64 + x0)) < 128)))
 (cond (fits (0 + ((Int.toNat (IntKind.i64.wrap (64 + x0))) * 1)) 1 l1)
 (AV.boolK (nth l1 (0 + ((Int.toNat (IntKind.i64.wrap (64 + x0))) * 1))) fun b4 =>
 (cond b4
 (cond (decide ((IntKind.u64.wrap x0) < 0))
 none
 (bnd (IntKind.u64.wrap (1 * (2 ^ (min (Int.toNat (IntKind.u64.wrap x0)) 64)))) fun y5 =>
 (bnd (IntKind.u64.wrap ((BitVec.ofInt 64 x2 ||| BitVec.ofInt 64 y5).toNat : Int)) fun y6 =>
 (r116 (IntKind.i64.wrap (x0 + 1)) l1 y6 y3))))
 (r116 (IntKind.i64.wrap (x0 + 1)) l1 x2 y3)))
 none)
 none))))
 (cond ((decide (0 ≤ (IntKind.i64.wrap (64 + x0)))) && (decide ((IntKind.i64.wrap (64 + x0)) < 128)))
 (cond (fits (0 + ((Int.toNat (IntKind.i64.wrap (64 + x0))) * 1)) 1 l1)
 (AV.boolK (nth l1 (0 + ((Int.toNat (IntKind.i64.wrap (64 + x0))) * 1))) fun b7 =>
 (cond b7
 (cond (decide ((IntKind.u64.wrap x0) < 0))
 none
 (bnd (IntKind.u64.wrap (1 * (2 ^ (min (Int.toNat (IntKind.u64.wrap x0)) 64)))) fun y8 =>
 (bnd (IntKind.u64.wrap ((BitVec.ofInt 64 x2 ||| BitVec.ofInt 64 y8).toNat : Int)) fun y9 =>
 (r116 (IntKind.i64.wrap (x0 + 1)) l1 y9 x3))))
 (r116 (IntKind.i64.wrap (x0 + 1)) l1 x2 x3)))
 none)
 none)))
 none)
 none)
 (some (.agg [.int .u64 x2, .int .u64 x3])))
theorem K_ref01_wide_116 (j : Jump) (n : Nat) (m116 : Nat) (x0 : Int) (l1 : List AV) (x2 : Int) (x3 : Int) : enter (topEnv C (CP C n) n F_ref01_wide) (some j) (bodyOf C.P F_ref01_wide) (endOf C.P F_ref01_wide) [false, false, true, false, true, true] [(m116 + 1)] (S_ref01_wide_116 x0 l1 x2 x3) = T_ref01_wide_116 (CP C n) x0 l1 x2 x3 (fun x0 l1 x2 x3 => j [false, false, true, false, true, true] [m116] (S_ref01_wide_116 x0 l1 x2 x3)) := by kernel_rfl
def J_ref01_wide_116 (cp : FuncId → List AV → Option AV) (n : Nat) : Nat → Int → List AV → Int → Int → Option AV
  | 0 => (fun x0 l1 x2 x3 => none)
  | m + 1 => (fun x0 l1 x2 x3 => T_ref01_wide_116 cp x0 l1 x2 x3 (J_ref01_wide_116 cp n m))
theorem Js_ref01_wide_116 (cp : FuncId → List AV → Option AV) (n : Nat) (m : Nat) (x0 : Int) (l1 : List AV) (x2 : Int) (x3 : Int) : J_ref01_wide_116 cp n (m + 1) x0 l1 x2 x3 = T_ref01_wide_116 cp x0 l1 x2 x3 (J_ref01_wide_116 cp n m) := of_eq_true (eq_self _)
theorem JE_ref01_wide_116 (n : Nat) : ∀ (m : Nat) (x0 : Int) (l1 : List AV) (x2 : Int) (x3 : Int), jT (topEnv C (CP C n) n F_ref01_wide) (bodyOf C.P F_ref01_wide) (endOf C.P F_ref01_wide) [false, false, true, false, true, true] [m] (S_ref01_wide_116 x0 l1 x2 x3) = J_ref01_wide_116 (CP C n) n m x0 l1 x2 x3
  | 0, x0, l1, x2, x3 => (jT_eq _ _ _ _ _ _).trans (by kernel_rfl)
  | m + 1, x0, l1, x2, x3 => (jT_eq _ _ _ _ _ _).trans ((K_ref01_wide_116 _ n m x0 l1 x2 x3).trans (congrArg (T_ref01_wide_116 (CP C n) x0 l1 x2 x3) (funext fun x0 => (funext fun l1 => (funext fun x2 => (funext fun x3 => (JE_ref01_wide_116 n m) x0 l1 x2 x3))))))
def T_ref01_wide_1 (cp : FuncId → List AV → Option AV) (a0 : List AV) (j116 : Int → List AV → Int → Int → Option AV) : Option AV :=
 (j116 0 a0 0 0)
theorem K_ref01_wide_1 (j : Jump) (n : Nat) (a0 : List AV) : ex (topEnv C (CP C n) n F_ref01_wide) (some j) (bodyOf C.P F_ref01_wide) 1 [] [] (endOf C.P F_ref01_wide) (startOf C.P F_ref01_wide [.agg a0]) = T_ref01_wide_1 (CP C n) a0 (fun x0 l1 x2 x3 => j [false, false, true, false, true, true] [(n + 300)] (S_ref01_wide_116 x0 l1 x2 x3)) := by kernel_rfl
def R_ref01_wide (cp : FuncId → List AV → Option AV) (n : Nat) (a0 : List AV) : Option AV := T_ref01_wide_1 cp a0 (J_ref01_wide_116 cp n (n + 300))
theorem eq_ref01_wide (n : Nat) (a0 : List AV) : CP C (n + 1) F_ref01_wide [.agg a0] = cond (AV.pureL [.agg a0]) (R_ref01_wide (CP C n) n a0) none :=
  (CP_run C n F_ref01_wide _ (by kernel_rfl)).trans (congrArg (fun x => cond (AV.pureL [.agg a0]) x none) ((K_ref01_wide_1 _ n a0).trans (congrArg (T_ref01_wide_1 (CP C n) a0) (funext fun x0 => (funext fun l1 => (funext fun x2 => (funext fun x3 => (JE_ref01_wide_116 n (n + 300)) x0 l1 x2 x3)))))))
-- ref01_Add
def R_ref01_Add (cp : FuncId → List AV → Option AV) (_n : Nat) (a0_0 : Int) (a0_1 : Int) (a1_0 : Int) (a1_1 : Int) : Option AV :=
 ((cp F_ref01_bits [.agg [.int .u64 a0_0, .int .u64 a0_1]]).bind fun r1 =>
 (AV.aggK r1 fun l2 =>
 ((cp F_ref01_bits [.agg [.int .u64 a1_0, .int .u64 a1_1]]).bind fun r3 =>
 (AV.aggK r3 fun l4 =>
 (cond ((AV.pureL l2) && ((AV.pureL l4) && true))
 ((cp F_ref01_sum [.agg l2, .agg l4, .bool false]).bind fun r5 =>
 (AV.tupK r5 fun l6 =>
 (consK l6 fun v7 l8 =>
 (AV.aggK v7 fun l9 =>
 (consK l8 fun v10 l11 =>
 (AV.boolK v10 fun b12 =>
 (nilK l11
 (cond (lenIs l9 128)
 (cond (cellsOk l9)
 (cond (fits 0 128 (splice [.bool false, .bool false, .bool false, .bool false, .bool false, .bool false, .bool false, .bool false, .bool false, .bool false, .bool false, .bool false, .bool false, .bool false, .bool false, .bool false, .bool false, .bool false, .bool false, .bool false, .bool false, .bool false, .bool false, .bool false, .bool false, .bool false, .bool false, .bool false, .bool false, .bool false, .bool false, .bool false, .bool false, .bool false, .bool false, .bool false, .bool false, .bool false, .bool false, .bool false, .bool false, .bool false, .bool false, .bool false, .bool false, .bool false, .bool false, .bool false, .bool false, .bool false, .bool false, .bool false, .bool false, .bool false, .bool false, .bool false, .bool false, .bool false, .bool false, .bool false, .bool false, .bool false, .bool false, .bool false, .bool false, .bool false, .bool false, .bool false, .bool false, .bool false, .bool false, .bool false, .bool false, .bool false, .bool false, .bool false, .bool false, .bool false, .bool false, .bool false, .bool false, .bool false, .bool false, .bool false, .bool false, .bool false, .bool false, .bool false, .bool false, .bool false, .bool false, .bool false, .bool false, .bool false, .bool false, .bool false, .bool false, .bool false, .bool false, .bool false, .bool false, .bool false, .bool false, .bool false, .bool false, .bool false, .bool false, .bool false, .bool false, .bool false, .bool false, .bool false, .bool false, .bool false, .bool false, .bool false, .bool false, .bool false, .bool false, .bool false, .bool false, .bool false, .bool false, .bool false, .bool false, .bool false, .bool false, .bool false] 0 l9))
 (cond ((AV.pureL (List.take 128 (List.drop 0 (splice [.bool false, .bool false, .bool false, .bool false, .bool false, .bool false, .bool false, .bool false, .bool false, .bool false, .bool false, .bool false, .bool false, .bool false, .bool false, .bool false, .bool false, .bool false, .bool false, .bool false, .bool false, .bool false, .bool false, .bool false, .bool false, .bool false, .bool false, .bool false, .bool false, .bool false, .bool false, .bool false, .bool false, .bool false, .bool false, .bool false, .bool false, .bool false, .bool false, .bool false, .bool false, .bool false, .bool false, .bool false, .bool false, .bool false, .bool false, .bool false, .bool false, .bool false, .bool false, .bool false, .bool false, .bool false, .bool false, .bool false, .bool false, .bool false, .bool false, .bool false, .bool false, .bool false, .bool false, .bool false, .bool false, .bool false, .bool false, .bool false, .bool false, .bool false, .bool false, .bool false, .bool false, .bool false, .bool false, .bool false, .bool false, .bool false, .bool false, .bool false, .bool false, .bool false, .bool false, .bool false, .bool false, .bool false, .bool false, .bool false, .bool false, .bool false, .bool false, .bool false, .bool false, .bool false, .bool false, .bool false, .bool false, .bool false, .bool false, .bool false, .bool false, .bool false, .bool false, .bool false, .bool false, .bool false, .bool false, .bool false, .bool false, .bool false, .bool false, .bool false, .bool false, .bool false, .bool false, .bool false, .bool false, .bool false, .bool false, .bool false, .bool false, .bool false, .bool false, .bool false, .bool false, .bool false, .bool false, .bool false] 0 l9)))) && true)
 ((cp F_ref01_wide [.agg (List.take 128 (List.drop 0 (splice [.bool false, .bool false, .bool false, .bool false, .bool false, .bool false, .bool false, .bool false, .bool false, .bool false, .bool false, .bool false, .bool false, .bool false, .bool false, .bool false, .bool false, .bool false, .bool false, .bool false, .bool false, .bool false, .bool false, .bool false, .bool false, .bool false, .bool false, .bool false, .bool false, .bool false, .bool false, .bool false, .bool false, .bool false, .bool false, .bool false, .bool false, .bool false, .bool false, .bool false, .bool false, .bool false, .bool false, .bool false, .bool false, .bool false, .bool false, .bool false, .bool false, .bool false, .bool false, .bool false, .bool false, .bool false, .bool false, .bool false, .bool false, .bool false, .bool false, .bool false, .bool false, .bool false, .bool false, .bool false, .bool false, .bool false, .bool false, .bool false, .bool false, .bool false, .bool false, .bool false, .bool false, .bool false, .bool false, .bool false, .bool false, .bool false, .bool false, .bool false, .bool false, .bool false, .bool false, .bool false, .bool false, .bool false, .bool false, .bool false, .bool false, .bool false, .bool false, .bool false, .bool false, .bool false, .bool false, .bool false, .bool false, .bool false, .bool false, .bool false, .bool false, .bool false, .bool false, .bool false, .bool false, .bool false, .bool false, .bool false, .bool false, .bool false, .bool false, .bool false, .bool false, .bool false, .bool false, .bool false, .bool false, .bool false, .bool false, .bool false, .bool false, .bool false, .bool false, .bool false, .bool false, .bool false, .bool false, .bool false] 0 l9)))]).bind fun r13 =>
 (AV.aggK r13 fun l14 =>
 (consK l14 fun v15 l16 =>
 (AV.intK .u64 v15 fun i17 =>
 (consK l16 fun v18 l19 =>
 (AV.intK .u64 v18 fun i20 =>
 (nilK l19
 (some (.tup [.agg [.int .u64 i17, .int .u64 i20], .bool b12])))))))))
 none)
 none)
 none)
 none))))))))
 none)))))
theorem eq_ref01_Add (n : Nat) (a0_0 : Int) (a0_1 : Int) (a1_0 : Int) (a1_1 : Int) : CP C (n + 1) F_ref01_Add [.agg [.int .u64 a0_0, .int .u64 a0_1], .agg [.int .u64 a1_0, .int .u64 a1_1]] = R_ref01_Add (CP C n) n a0_0 a0_1 a1_0 a1_1 := by kernel_rfl
-- ref01_Mul
def S_ref01_Mul_116 (x0 : Int) (x1 : Int) (x2 : Int) (l3 : List AV) : St := ⟨[.int .u64 x0, .int .u64 x1, .junk, .junk, .ptr (some (0, 0)), .ptr (some (1, 0)), .ptr (some (2, 0)), .int .i64 x2, .junk, .junk, .junk, .junk, .junk, .junk, .junk, .junk, .junk, .junk, .junk, .junk, .junk, .junk, .junk, .junk, .junk, .junk, .junk, .junk, .junk, .junk, .junk, .junk, .junk, .junk, .junk, .junk, .junk, .junk, .junk, .junk, .junk, .junk, .junk, .junk, .junk, .junk, .junk, .junk, .junk, .junk, .junk], [.cells 94 [.int .u64 0, .int .u64 0], .cells 114 [.bool false, .bool false, .bool false, .bool false, .bool false, .bool false, .bool false, .bool false, .bool false, .bool false, .bool false, .bool false, .bool false, .bool false, .bool false, .bool false, .bool false, .bool false, .bool false, .bool false, .bool false, .bool false, .bool false, .bool false, .bool false, .bool false, .bool false, .bool false, .bool false, .bool false, .bool false, .bool false, .bool false, .bool false, .bool false, .bool false, .bool false, .bool false, .bool false, .bool false, .bool false, .bool false, .bool false, .bool false, .bool false, .bool false, .bool false, .bool false, .bool false, .bool false, .bool false, .bool false, .bool false, .bool false, .bool false, .bool false, .bool false, .bool false, .bool false, .bool false, .bool false, .bool false, .bool false, .bool false, .bool false, .bool false, .bool false, .bool false, .bool false, .bool false, .bool false, .bool false, .bool false, .bool false, .bool false, .bool false, .bool false, .bool false, .bool false, .bool false, .bool false, .bool false, .bool false, .bool false, .bool false, .bool false, .bool false, .bool false, .bool false, .bool false, .bool false, .bool false, .bool false, .bool false, .bool false, .bool false, .bool false, .bool false, .bool false, .bool false, .bool false, .bool false, .bool false, .bool false, .bool false, .bool false, .bool false, .bool false, .bool false, .bool false, .bool false, .bool false, .bool false, .bool false, .bool false, .bool false, .bool false, .bool false, .bool false, .bool false, .bool false, .bool false, .bool false, .bool false, .bool false, .bool false, .bool false, .bool false], .cells 114 l3]⟩
def S_ref01_Mul_244 (x0 : Int) (x1 : Int) (l2 : List AV) (l3 : List AV) : St := ⟨[.junk, .int .u64 x0, .junk, .junk, .ptr (some (0, 0)), .ptr (some (1, 0)), .ptr (some (2, 0)), .junk, .int .i64 x1, .junk, .junk, .junk, .junk, .junk, .junk, .junk, .junk, .junk, .junk, .junk, .junk, .junk, .junk, .junk, .junk, .junk, .junk, .junk, .junk, .junk, .junk, .junk, .junk, .junk, .junk, .junk, .junk, .junk, .junk, .junk, .junk, .junk, .junk, .junk, .junk, .junk, .junk, .junk, .junk, .junk, .junk], [.cells 94 [.int .u64 0, .int .u64 0], .cells 114 l2, .cells 114 l3]⟩
def S_ref01_Mul_62612 (x0 : Int) (x1 : Int) (x2 : Int) (l3 : List AV) (l4 : List AV) : St := ⟨[.junk, .int .u64 x0, .junk, .junk, .ptr (some (0, 0)), .ptr (some (1, 0)), .ptr (some (2, 0)), .junk, .int .i64 x1, .int .i64 x2, .junk, .junk, .junk, .junk, .junk, .junk, .junk, .junk, .junk, .junk, .junk, .junk, .junk, .junk, .junk, .junk, .junk, .junk, .junk, .junk, .junk, .junk, .junk, .junk, .junk, .junk, .junk, .junk, .junk, .junk, .junk, .junk, .junk, .junk, .junk, .junk, .junk, .junk, .junk, .junk, .junk], [.cells 94 [.int .u64 0, .int .u64 0], .cells 114 l3, .cells 114 l4]⟩
def T_ref01_Mul_62612 (cp : FuncId → List AV → Option AV) (x0 : Int) (x1 : Int) (x2 : Int) (l3 : List AV) (l4 : List AV) (r62612 : Int → Int → Int → List AV → List AV → Option AV) (r244 : Int → Int → List AV → List AV → Option AV) : Option AV :=
 (cond (decide (x2 > 0))
 (cond ((decide (0 ≤ (IntKind.i64.wrap (x2 - 1)))) && (decide ((IntKind.i64.wrap (x2 - 1)) < 128)))
 (cond (fits (0 + ((Int.toNat (IntKind.i64.wrap (x2 - 1))) * 1)) 1 l4)
 (cond ((decide (0 ≤ x2)) && (decide (x2 < 128)))
 (cond (lenIs (cellsOf (nth l4 (0 + ((Int.toNat (IntKind.i64.wrap (x2 - 1))) * 1)))) 1)
 (cond (cellsOk (cellsOf (nth l4 (0 + ((Int.toNat (IntKind.i64.wrap (x2 - 1))) * 1)))))
 (cond (fits (0 + ((Int.toNat x2) * 1)) 1 l4)
 (r62612 x0 x1 (IntKind.i64.wrap (x2 - 1)) l3 (splice l4 (0 + ((Int.toNat x2) * 1)) (cellsOf (nth l4 (0 + ((Int.toNat (IntKind.i64.wrap (x2 - 1))) * 1))))))
 none)
 none)
 none)
 none)
 none)
 none)
 (cond (fits 0 1 l4)
 (r244 x0 (IntKind.i64.wrap (x1 + 1)) l3 (splice l4 0 [.bool false]))
 none))
theorem K_ref01_Mul_62612 (j : Jump) (n : Nat) (m62612 : Nat) (m244 : Nat) (x0 : Int) (x1 : Int) (x2 : Int) (l3 : List AV) (l4 : List AV) : enter (topEnv C (CP C n) n F_ref01_Mul) (some j) (bodyOf C.P F_ref01_Mul) (endOf C.P F_ref01_Mul) [false, false, true, false, true, false, false, true, false, false, true, false, true, true, true] [(m62612 + 1), m244] (S_ref01_Mul_62612 x0 x1 x2 l3 l4) = T_ref01_Mul_62612 (CP C n) x0 x1 x2 l3 l4 (fun x0 x1 x2 l3 l4 => j [false, false, true, false, true, false, false, true, false, false, true, false, true, true, true] [m62612, m244] (S_ref01_Mul_62612 x0 x1 x2 l3 l4)) (fun x0 x1 l2 l3 => j [false, false, true, false, true, true, true] [m244] (S_ref01_Mul_244 x0 x1 l2 l3)) := by kernel_rfl
def J_ref01_Mul_62612 (cp : FuncId → List AV → Option AV) (n : Nat) (r244 : Int → Int → List AV → List AV → Option AV) : Nat → Int → Int → Int → List AV → List AV → Option AV
  | 0 => (fun x0 x1 x2 l3 l4 => none)
  | m + 1 => (fun x0 x1 x2 l3 l4 => T_ref01_Mul_62612 cp x0 x1 x2 l3 l4 (J_ref01_Mul_62612 cp n r244 m) r244)
theorem Js_ref01_Mul_62612 (cp : FuncId → List AV → Option AV) (n : Nat) (r244 : Int → Int → List AV → List AV → Option AV) (m : Nat) (x0 : Int) (x1 : Int) (x2 : Int) (l3 : List AV) (l4 : List AV) : J_ref01_Mul_62612 cp n r244 (m + 1) x0 x1 x2 l3 l4 = T_ref01_Mul_62612 cp x0 x1 x2 l3 l4 (J_ref01_Mul_62612 cp n r244 m) r244 := of_eq_true (eq_self _)
theorem JE_ref01_Mul_62612 (n : Nat) (m244 : Nat) (r244 : Int → Int → List AV → List AV → Option AV) (h244 : ∀ (x0 : Int) (x1 : Int) (l2 : List AV) (l3 : List AV), jT (topEnv C (CP C n) n F_ref01_Mul) (bodyOf C.P F_ref01_Mul) (endOf C.P F_ref01_Mul) [false, false, true, false, true, true, true] [m244] (S_ref01_Mul_244 x0 x1 l2 l3) = r244 x0 x1 l2 l3) : ∀ (m : Nat) (x0 : Int) (x1 : Int) (x2 : Int) (l3 : List AV) (l4 : List AV), jT (topEnv C (CP C n) n F_ref01_Mul) (bodyOf C.P F_ref01_Mul) (endOf C.P F_ref01_Mul) [false, false, true, false, true, false, false, true, false, false, true, false, true, true, true] [m, m244] (S_ref01_Mul_62612 x0 x1 x2 l3 l4) = J_ref01_Mul_62612 (CP C n) n r244 m x0 x1 x2 l3 l4
  | 0, x0, x1, x2, l3, l4 => (jT_eq _ _ _ _ _ _).trans (by kernel_rfl)
  | m + 1, x0, x1, x2, l3, l4 => (jT_eq _ _ _ _ _ _).trans ((K_ref01_Mul_62612 _ n m m244 x0 x1 x2 l3 l4).trans (congr (congrArg (T_ref01_Mul_62612 (CP C n) x0 x1 x2 l3 l4) (funext fun x0 => (funext fun x1 => (funext fun x2 => (funext fun l3 => (funext fun l4 => (JE_ref01_Mul_62612 n m244 r244 h244 m) x0 x1 x2 l3 l4)))))) (funext fun x0 => (funext fun x1 => (funext fun l2 => (funext fun l3 => h244 x0 x1 l2 l3))))))
def T_ref01_Mul_244 (cp : FuncId → List AV → Option AV) (x0 : Int) (x1 : Int) (l2 : List AV) (l3 : List AV) (j62612 : Int → Int → Int → List AV → List AV → Option AV) : Option AV :=
 (cond (decide (x1 < 64))
 (cond (decide ((IntKind.u64.wrap x1) < 0))
 none
 (bnd (Int.fdiv x0 (2 ^ (min (Int.toNat (IntKind.u64.wrap x1)) 64))) fun y1 =>
 (bnd (IntKind.u64.wrap ((BitVec.ofInt 64 y1 &&& BitVec.ofInt 64 1).toNat : Int)) fun y2 =>
 (cond (y2 == 1)
 (cond (fits 0 128 l2)
 (cond (fits 0 128 l3)
 (cond ((AV.pureL (List.take 128 (List.drop 0 l2))) && ((AV.pureL (List.take 128 (List.drop 0 l3))) && true))
 ((cp F_ref01_sum [.agg (List.take 128 (List.drop 0 l2)), .agg (List.take 128 (List.drop 0 l3)), .bool false]).bind fun r3 =>
 (AV.tupK r3 fun l4 =>
 (consK l4 fun v5 l6 =>
 (AV.aggK v5 fun l7 =>
 (consK l6 fun v8 l9 =>
 (AV.boolK v8 fun b10 =>
 (nilK l9
 (cond (lenIs l7 128)
 (cond (cellsOk l7)
 (cond (fits 0 128 l2)
 (j62612 x0 x1 127 (splice l2 0 l7) l3)
 none)
 none)
 none))))))))
 none)
 none)
 none)
 (j62612 x0 x1 127 l2 l3)))))
 (cond (fits 0 128 l2)
 (cond ((AV.pureL (List.take 128 (List.drop 0 l2))) && true)
 ((cp F_ref01_wide [.agg (List.take 128 (List.drop 0 l2))]).bind fun r11 =>
 (AV.aggK r11 fun l12 =>
 (consK l12 fun v13 l14 =>
 (AV.intK .u64 v13 fun i15 =>
 (consK l14 fun v16 l17 =>
 (AV.intK .u64 v16 fun i18 =>
 (nilK l17
 (some (.agg [.int .u64 i15, .int .u64 i18])))))))))
 none)
 none))
theorem K_ref01_Mul_244 (j : Jump) (n : Nat) (m244 : Nat) (x0 : Int) (x1 : Int) (l2 : List AV) (l3 : List AV) : enter (topEnv C (CP C n) n F_ref01_Mul) (some j) (bodyOf C.P F_ref01_Mul) (endOf C.P F_ref01_Mul) [false, false, true, false, true, true, true] [(m244 + 1)] (S_ref01_Mul_244 x0 x1 l2 l3) = T_ref01_Mul_244 (CP C n) x0 x1 l2 l3 (fun x0 x1 x2 l3 l4 => j [false, false, true, false, true, false, false, true, false, false, true, false, true, true, true] [(n + 300), m244] (S_ref01_Mul_62612 x0 x1 x2 l3 l4)) := by kernel_rfl
def J_ref01_Mul_244 (cp : FuncId → List AV → Option AV) (n : Nat) : Nat → Int → Int → List AV → List AV → Option AV
  | 0 => (fun x0 x1 l2 l3 => none)
  | m + 1 => (fun x0 x1 l2 l3 => T_ref01_Mul_244 cp x0 x1 l2 l3 (J_ref01_Mul_62612 cp n (J_ref01_Mul_244 cp n m) (n + 300)))
theorem Js_ref01_Mul_244 (cp : FuncId → List AV → Option AV) (n : Nat) (m : Nat) (x0 : Int) (x1 : Int) (l2 : List AV) (l3 : List AV) : J_ref01_Mul_244 cp n (m + 1) x0 x1 l2 l3 = T_ref01_Mul_244 cp x0 x1 l2 l3 (J_ref01_Mul_62612 cp n (J_ref01_Mul_244 cp n m) (n + 300)) := of_eq_true (eq_self _)
theorem JE_ref01_Mul_244 (n : Nat) : ∀ (m : Nat) (x0 : Int) (x1 : Int) (l2 : List AV) (l3 : List AV), jT (topEnv C (CP C n) n F_ref01_Mul) (bodyOf C.P F_ref01_Mul) (endOf C.P F_ref01_Mul) [false, false, true, false, true, true, true] [m] (S_ref01_Mul_244 x0 x1 l2 l3) = J_ref01_Mul_244 (CP C n) n m x0 x1 l2 l3
  | 0, x0, x1, l2, l3 => (jT_eq _ _ _ _ _ _).trans (by kernel_rfl)
  | m + 1, x0, x1, l2, l3 => (jT_eq _ _ _ _ _ _).trans ((K_ref01_Mul_244 _ n m x0 x1 l2 l3).trans (congrArg (T_ref01_Mul_244 (CP C n) x0 x1 l2 l3) (funext fun x0 => (funext fun x1 => (funext fun x2 => (funext fun l3 => (funext fun l4 => (JE_ref01_Mul_62612 n m (J_ref01_Mul_244 (CP C n) n m) (JE_ref01_Mul_244 n m) (n + 300)) x0 x1 x2 l3 l4)))))))
def T_ref01_Mul_116 (cp : FuncId → List AV → Option AV) (x0 : Int) (x1 : Int) (x2 : Int) (l3 : List AV) (r116 : Int → Int → Int → List AV → Option AV) (j244 : Int → Int → List AV → List AV → Option AV) : Option AV :=
 (cond (decide (x2 < 64))
 (cond (decide ((IntKind.u64.wrap x2) < 0))
 none
 (bnd (Int.fdiv x0 (2 ^ (min (Int.toNat (IntKind.u64.wrap x2)) 64))) fun y1 =>
 (bnd (IntKind.u64.wrap ((BitVec.ofInt 64 y1 &&& BitVec.ofInt 64 1).toNat : Int)) fun y2 =>
 (cond ((decide (0 ≤ x2)) && (decide (x2 < 128)))
 (cond (fits (0 + ((Int.toNat x2) * 1)) 1 l3)
 (r116 x0 x1 (IntKind.i64.wrap (x2 + 1)) (splice l3 (0 + ((Int.toNat x2) * 1)) [.bool (y2 == 1)]))
 none)
 none))))
 (j244 x1 0 [.bool false, .bool false, .bool false, .bool false, .bool false, .bool false, .bool false, .bool false, .bool false, .bool false, .bool false, .bool false, .bool false, .bool false, .bool false, .bool false, .bool false, .bool false, .bool false, .bool false, .bool false, .bool false, .bool false, .bool false, .bool false, .bool false, .bool false, .bool false, .bool false, .bool false, .bool false, .bool false, .bool false, .bool false, .bool false, .bool false, .bool false, .bool false, .bool false, .bool false, .bool false, .bool false, .bool false, .bool false, .bool false, .bool false, .bool false, .bool false, .bool false, .bool false, .bool false, .bool false, .bool false, .bool false, .bool false, .bool false, .bool false, .bool false, .bool false, .bool false, .bool false, .bool false, .bool false, .bool false, .bool false, .bool false, .bool false, .bool false, .bool false, .bool false, .bool false, .bool false, .bool false, .bool false, .bool false, .bool false, .bool false, .bool false, .bool false, .bool false, .bool false, .bool false, .bool false, .bool false, .bool false, .bool false, .bool false, .bool false, .bool false, .bool false, .bool false, .bool false, .bool false, .bool false, .bool false, .bool false, .bool false, .bool false, .bool false, .bool false, .bool false, .bool false, .bool false, .bool false, .bool false, .bool false, .bool false, .bool false, .bool false, .bool false, .bool false, .bool false, .bool false, .bool false, .bool false, .bool false, .bool false, .bool false, .bool false, .bool false, .bool false, .bool false, .bool false, .bool false, .bool false, .bool false, .bool false, .bool false] l3))
theorem K_ref01_Mul_116 (j : Jump) (n : Nat) (m116 : Nat) (x0 : Int) (x1 : Int) (x2 : Int) (l3 : List AV) : enter (topEnv C (CP C n) n F_ref01_Mul) (some j) (bodyOf C.P F_ref01_Mul) (endOf C.P F_ref01_Mul) [false, false, true, false, true, true] [(m116 + 1)] (S_ref01_Mul_116 x0 x1 x2 l3) = T_ref01_Mul_116 (CP C n) x0 x1 x2 l3 (fun x0 x1 x2 l3 => j [false, false, true, false, true, true] [m116] (S_ref01_Mul_116 x0 x1 x2 l3)) (fun x0 x1 l2 l3 => j [false, false, true, false, true, true, true] [(n + 300)] (S_ref01_Mul_244 x0 x1 l2 l3)) := by kernel_rfl
def J_ref01_Mul_116 (cp : FuncId → List AV → Option AV) (n : Nat) : Nat → Int → Int → Int → List AV → Option AV
  | 0 => (fun x0 x1 x2 l3 => none)
  | m + 1 => (fun x0 x1 x2 l3 => T_ref01_Mul_116 cp x0 x1 x2 l3 (J_ref01_Mul_116 cp n m) (J_ref01_Mul_244 cp n (n + 300)))
theorem Js_ref01_Mul_116 (cp : FuncId → List AV → Option AV) (n : Nat) (m : Nat) (x0 : Int) (x1 : Int) (x2 : Int) (l3 : List AV) : J_ref01_Mul_116 cp n (m + 1) x0 x1 x2 l3 = T_ref01_Mul_116 cp x0 x1 x2 l3 (J_ref01_Mul_116 cp n m) (J_ref01_Mul_244 cp n (n + 300)) := of_eq_true (eq_self _)
theorem JE_ref01_Mul_116 (n : Nat) : ∀ (m : Nat) (x0 : Int) (x1 : Int) (x2 : Int) (l3 : List AV), jT (topEnv C (CP C n) n F_ref01_Mul) (bodyOf C.P F_ref01_Mul) (endOf C.P F_ref01_Mul) [false, false, true, false, true, true] [m] (S_ref01_Mul_116 x0 x1 x2 l3) = J_ref01_Mul_116 (CP C n) n m x0 x1 x2 l3
  | 0, x0, x1, x2, l3 => (jT_eq _ _ _ _ _ _).trans (by kernel_rfl)
  | m + 1, x0, x1, x2, l3 => (jT_eq _ _ _ _ _ _).trans ((K_ref01_Mul_116 _ n m x0 x1 x2 l3).trans (congr (congrArg (T_ref01_Mul_116 (CP C n) x0 x1 x2 l3) (funext fun x0 => (funext fun x1 => (funext fun x2 => (funext fun l3 => (JE_ref01_Mul_116 n m) x0 x1 x2 l3))))) (funext fun x0 => (funext fun x1 => (funext fun l2 => (funext fun l3 => (JE_ref01_Mul_244 n (n + 300)) x0 x1 l2 l3))))))
def T_ref01_Mul_1 (cp : FuncId → List AV → Option AV) (a0 : Int) (a1 : Int) (j116 : Int → Int → Int → List AV → Option AV) : Option AV :=
 (j116 a0 a1 0 [.bool false, .bool false, .bool false, .bool false, .bool false, .bool false, .bool false, .bool false, .bool false, .bool false, .bool false, .bool false, .bool false, .bool false, .bool false, .bool false, .bool false, .bool false, .bool false, .bool false, .bool false, .bool false, .bool false, .bool false, .bool false, .bool false, .bool false, .bool false, .bool false, .bool false, .bool false, .bool false, .bool false, .bool false, .bool false, .bool false, .bool false, .bool false, .bool false, .bool false, .bool false, .bool false, .bool false, .bool false, .bool false, .bool false, .bool false, .bool false, .bool false, .bool false, .bool false, .bool false, .bool false, .bool false, .bool false, .bool false, .bool false, .bool false, .bool false, .bool false, .bool false, .bool false, .bool false, .bool false, .bool false, .bool false, .bool false, .bool false, .bool false, .bool false, .bool false, .bool false, .bool false, .bool false, .bool false, .bool false, .bool false, .bool false, .bool false, .bool false, .bool false, .bool false, .bool false, .bool false, .bool false, .bool false, .bool false, .bool false, .bool false, .bool false, .bool false, .bool false, .bool false, .bool false, .bool false, .bool false, .bool false, .bool false, .bool false, .bool false, .bool false, .bool false, .bool false, .bool false, .bool false, .bool false, .bool false, .bool false, .bool false, .bool false, .bool false, .bool false, .bool false, .bool false, .bool false, .bool false, .bool false, .bool false, .bool false, .bool false, .bool false, .bool false, .bool false, .bool false, .bool false, .bool false, .bool false, .bool false])
theorem K_ref01_Mul_1 (j : Jump) (n : Nat) (a0 : Int) (a1 : Int) : ex (topEnv C (CP C n) n F_ref01_Mul) (some j) (bodyOf C.P F_ref01_Mul) 1 [] [] (endOf C.P F_ref01_Mul) (startOf C.P F_ref01_Mul [.int .u64 a0, .int .u64 a1]) = T_ref01_Mul_1 (CP C n) a0 a1 (fun x0 x1 x2 l3 => j [false, false, true, false, true, true] [(n + 300)] (S_ref01_Mul_116 x0 x1 x2 l3)) := by kernel_rfl
def R_ref01_Mul (cp : FuncId → List AV → Option AV) (n : Nat) (a0 : Int) (a1 : Int) : Option AV := T_ref01_Mul_1 cp a0 a1 (J_ref01_Mul_116 cp n (n + 300))
theorem eq_ref01_Mul (n : Nat) (a0 : Int) (a1 : Int) : CP C (n + 1) F_ref01_Mul [.int .u64 a0, .int .u64 a1] = R_ref01_Mul (CP C n) n a0 a1 :=
  (CP_pure C n F_ref01_Mul _ (by kernel_rfl) (by kernel_rfl)).trans ((K_ref01_Mul_1 _ n a0 a1).trans (congrArg (T_ref01_Mul_1 (CP C n) a0 a1) (funext fun x0 => (funext fun x1 => (funext fun x2 => (funext fun l3 => (JE_ref01_Mul_116 n (n + 300)) x0 x1 x2 l3))))))
-- ref02_Amount
def R_ref02_Amount (cp : FuncId → List AV → Option AV) (_n : Nat) (a0 : Int) : Option AV :=
 (cond (decide (a0 < 0))
 (some (.int .u64 (IntKind.u64.wrap (0 - (IntKind.u64.wrap a0)))))
 (some (.int .u64 (IntKind.u64.wrap a0))))
theorem eq_ref02_Amount (n : Nat) (a0 : Int) : CP C (n + 1) F_ref02_Amount [.int .i64 a0] = R_ref02_Amount (CP C n) n a0 := by kernel_rfl
-- ref01_turned
def S_ref01_turned_52 (x0 : Int) (l1 : List AV) : St := ⟨[.junk, .ptr (some (0, 0)), .ptr (some (1, 0)), .int .i64 x0, .junk, .junk, .junk, .junk, .junk, .junk, .junk, .junk, .junk, .junk, .junk], [.cells 114 l1, .cells 114 [.bool false, .bool false, .bool false, .bool false, .bool false, .bool false, .bool false, .bool false, .bool false, .bool false, .bool false, .bool false, .bool false, .bool false, .bool false, .bool false, .bool false, .bool false, .bool false, .bool false, .bool false, .bool false, .bool false, .bool false, .bool false, .bool false, .bool false, .bool false, .bool false, .bool false, .bool false, .bool false, .bool false, .bool false, .bool false, .bool false, .bool false, .bool false, .bool false, .bool false, .bool false, .bool false, .bool false, .bool false, .bool false, .bool false, .bool false, .bool false, .bool false, .bool false, .bool false, .bool false, .bool false, .bool false, .bool false, .bool false, .bool false, .bool false, .bool false, .bool false, .bool false, .bool false, .bool false, .bool false, .bool false, .bool false, .bool false, .bool false, .bool false, .bool false, .bool false, .bool false, .bool false, .bool false, .bool false, .bool false, .bool false, .bool false, .bool false, .bool false, .bool false, .bool false, .bool false, .bool false, .bool false, .bool false, .bool false, .bool false, .bool false, .bool false, .bool false, .bool false, .bool false, .bool false, .bool false, .bool false, .bool false, .bool false, .bool false, .bool false, .bool false, .bool false, .bool false, .bool false, .bool false, .bool false, .bool false, .bool false, .bool false, .bool false, .bool false, .bool false, .bool false, .bool false, .bool false, .bool false, .bool false, .bool false, .bool false, .bool false, .bool false, .bool false, .bool false, .bool false, .bool false, .bool false, .bool false, .bool false]]⟩
def T_ref01_turned_52 (cp : FuncId → List AV → Option AV) (x0 : Int) (l1 : List AV) (r52 : Int → List AV → Option AV) : Option AV :=
 (cond (decide (x0 < 128))
 (cond ((decide (0 ≤ x0)) && (decide (x0 < 128)))
 (cond (fits (0 + ((Int.toNat x0) * 1)) 1 l1)
 (unK .not (nth l1 (0 + ((Int.toNat x0) * 1))) fun v1 =>
 (cond ((decide (0 ≤ x0)) && (decide (x0 < 128)))
 (cond (lenIs (cellsOf v1) 1)
 (cond (cellsOk (cellsOf v1))
 (cond (fits (0 + ((Int.toNat x0) * 1)) 1 l1)
 (r52 (IntKind.i64.wrap (x0 + 1)) (splice l1 (0 + ((Int.toNat x0) * 1)) (cellsOf v1)))
 none)
 none)
 none)
 none))
 none)
 none)
 (cond (fits 0 128 l1)
 (cond (lenIs (List.take 128 (List.drop 0 l1)) 128)
 (cond (cellsOk (List.take 128 (List.drop 0 l1)))
 (cond (fits 0 128 (splice [.bool false, .bool false, .bool false, .bool false, .bool false, .bool false, .bool false, .bool false, .bool false, .bool false, .bool false, .bool false, .bool false, .bool false, .bool false, .bool false, .bool false, .bool false, .bool false, .bool false, .bool false, .bool false, .bool false, .bool false, .bool false, .bool false, .bool false, .bool false, .bool false, .bool false, .bool false, .bool false, .bool false, .bool false, .bool false, .bool false, .bool false, .bool false, .bool false, .bool false, .bool false, .bool false, .bool false, .bool false, .bool false, .bool false, .bool false, .bool false, .bool false, .bool false, .bool false, .bool false, .bool false, .bool false, .bool false, .bool false, .bool false, .bool false, .bool false, .bool false, .bool false, .bool false, .bool false, .bool false, .bool false, .bool false, .bool false, .bool false, .bool false, .bool false, .bool false, .bool false, .bool false, .bool false, .bool false, .bool false, .bool false, .bool false, .bool false, .bool false, .bool false, .bool false, .bool false, .bool false, .bool false, .bool false, .bool false, .bool false, .bool false, .bool false, .bool false, .bool false, .bool false, .bool false, .bool false, .bool false, .bool false, .bool false, .bool false, .bool false, .bool false, .bool false, .bool false, .bool false, .bool false, .bool false, .bool false, .bool false, .bool false, .bool false, .bool false, .bool false, .bool false, .bool false, .bool false, .bool false, .bool false, .bool false, .bool false, .bool false, .bool false, .bool false, .bool false, .bool false, .bool false, .bool false, .bool false, .bool false] 0 (List.take 128 (List.drop 0 l1))))
 (cond (AV.pureL (List.take 128 (List.drop 0 (splice [.bool false, .bool false, .bool false, .bool false, .bool false, .bool false, .bool false, .bool false, .bool false, .bool false, .bool false, .bool false, .bool false, .bool false, .bool false, .bool false, .bool false, .bool false, .bool false, .bool false, .bool false, .bool false, .bool false, .bool false, .bool false, .bool false, .bool false, .bool false, .bool false, .bool false, .bool false, .bool false, .bool false, .bool false, .bool false, .bool false, .bool false, .bool false, .bool false, .bool false, .bool false, .bool false, .bool false, .bool false, .bool false, .bool false, .bool false, .bool false, .bool false, .bool false, .bool false, .bool false, .bool false, .bool false, .bool false, .bool false, .bool false, .bool false, .bool false, .bool false, .bool false, .bool false, .bool false, .bool false, .bool false, .bool false, .bool false, .bool false, .bool false, .bool false, .bool false, .bool false, .bool false, .bool false, .bool false, .bool false, .bool false, .bool false, .bool false, .bool false, .bool false, .bool false, .bool false, .bool false, .bool false, .bool false, .bool false, .bool false, .bool false, .bool false, .bool false, .bool false, .bool false, .bool false, .bool false, .bool false, .bool false, .bool false, .bool false, .bool false, .bool false, .bool false, .bool false, .bool false, .bool false, .bool false, .bool false, .bool false, .bool false, .bool false, .bool false, .bool false, .bool false, .bool false, .bool false, .bool false, .bool false, .bool false, .bool false, .bool false, .bool false, .bool false, .bool false, .bool false, .bool false, .bool false, .bool false, .bool false] 0 (List.take 128 (List.drop 0 l1))))))
 (some (.agg (List.take 128 (List.drop 0 (splice [.bool false, .bool false, .bool false, .bool false, .bool false, .bool false, .bool false, .bool false, .bool false, .bool false, .bool false, .bool false, .bool false, .bool false, .bool false, .bool false, .bool false, .bool false, .bool false, .bool false, .bool false, .bool false, .bool false, .bool false, .bool false, .bool false, .bool false, .bool false, .bool false, .bool false, .bool false, .bool false, .bool false, .bool false, .bool false, .bool false, .bool false, .bool false, .bool false, .bool false, .bool false, .bool false, .bool false, .bool false, .bool false, .bool false, .bool false, .bool false, .bool false, .bool false, .bool false, .bool false, .bool false, .bool false, .bool false, .bool false, .bool false, .bool false, .bool false, .bool false, .bool false, .bool false, .bool false, .bool false, .bool false, .bool false, .bool false, .bool false, .bool false, .bool false, .bool false, .bool false, .bool false, .bool false, .bool false, .bool false, .bool false, .bool false, .bool false, .bool false, .bool false, .bool false, .bool false, .bool false, .bool false, .bool false, .bool false, .bool false, .bool false, .bool false, .bool false, .bool false, .bool false, .bool false, .bool false, .bool false, .bool false, .bool false, .bool false, .bool false, .bool false, .bool false, .bool false, .bool false, .bool false, .bool false, .bool false, .bool false, .bool false, .bool false, .bool false, .bool false, .bool false, .bool false, .bool false, .bool false, .bool false, .bool false, .bool false, .bool false, .bool false, .bool false, .bool false, .bool false, .bool false, .bool false, .bool false, .bool false] 0 (List.take 128 (List.drop 0 l1)))))))
 none)
 none)
 none)
 none)
 none))
theorem K_ref01_turned_52 (j : Jump) (n : Nat) (m52 : Nat) (x0 : Int) (l1 : List AV) : enter (topEnv C (CP C n) n F_ref01_turned) (some j) (bodyOf C.P F_ref01_turned) (endOf C.P F_ref01_turned) [false, false, true, false, true] [(m52 + 1)] (S_ref01_turned_52 x0 l1) = T_ref01_turned_52 (CP C n) x0 l1 (fun x0 l1 => j [false, false, true, false, true] [m52] (S_ref01_turned_52 x0 l1)) := by kernel_rfl
def J_ref01_turned_52 (cp : FuncId → List AV → Option AV) (n : Nat) : Nat → Int → List AV → Option AV
  | 0 => (fun x0 l1 => none)
  | m + 1 => (fun x0 l1 => T_ref01_turned_52 cp x0 l1 (J_ref01_turned_52 cp n m))
theorem Js_ref01_turned_52 (cp : FuncId → List AV → Option AV) (n : Nat) (m : Nat) (x0 : Int) (l1 : List AV) : J_ref01_turned_52 cp n (m + 1) x0 l1 = T_ref01_turned_52 cp x0 l1 (J_ref01_turned_52 cp n m) := of_eq_true (eq_self _)
theorem JE_ref01_turned_52 (n : Nat) : ∀ (m : Nat) (x0 : Int) (l1 : List AV), jT (topEnv C (CP C n) n F_ref01_turned) (bodyOf C.P F_ref01_turned) (endOf C.P F_ref01_turned) [false, false, true, false, true] [m] (S_ref01_turned_52 x0 l1) = J_ref01_turned_52 (CP C n) n m x0 l1
  | 0, x0, l1 => (jT_eq _ _ _ _ _ _).trans (by kernel_rfl)
  | m + 1, x0, l1 => (jT_eq _ _ _ _ _ _).trans ((K_ref01_turned_52 _ n m x0 l1).trans (congrArg (T_ref01_turned_52 (CP C n) x0 l1) (funext fun x0 => (funext fun l1 => (JE_ref01_turned_52 n m) x0 l1))))
def T_ref01_turned_1 (cp : FuncId → List AV → Option AV) (a0 : List AV) (j52 : Int → List AV → Option AV) : Option AV :=
 (j52 0 a0)
theorem K_ref01_turned_1 (j : Jump) (n : Nat) (a0 : List AV) : ex (topEnv C (CP C n) n F_ref01_turned) (some j) (bodyOf C.P F_ref01_turned) 1 [] [] (endOf C.P F_ref01_turned) (startOf C.P F_ref01_turned [.agg a0]) = T_ref01_turned_1 (CP C n) a0 (fun x0 l1 => j [false, false, true, false, true] [(n + 300)] (S_ref01_turned_52 x0 l1)) := by kernel_rfl
def R_ref01_turned (cp : FuncId → List AV → Option AV) (n : Nat) (a0 : List AV) : Option AV := T_ref01_turned_1 cp a0 (J_ref01_turned_52 cp n (n + 300))
theorem eq_ref01_turned (n : Nat) (a0 : List AV) : CP C (n + 1) F_ref01_turned [.agg a0] = cond (AV.pureL [.agg a0]) (R_ref01_turned (CP C n) n a0) none :=
  (CP_run C n F_ref01_turned _ (by kernel_rfl)).trans (congrArg (fun x => cond (AV.pureL [.agg a0]) x none) ((K_ref01_turned_1 _ n a0).trans (congrArg (T_ref01_turned_1 (CP C n) a0) (funext fun x0 => (funext fun l1 => (JE_ref01_turned_52 n (n + 300)) x0 l1)))))
-- ref01_Sub
def R_ref01_Sub (cp : FuncId → List AV → Option AV) (_n : Nat) (a0_0 : Int) (a0_1 : Int) (a1_0 : Int) (a1_1 : Int) : Option AV :=
 ((cp F_ref01_bits [.agg [.int .u64 a0_0, .int .u64 a0_1]]).bind fun r1 =>
 (AV.aggK r1 fun l2 =>
 ((cp F_ref01_bits [.agg [.int .u64 a1_0, .int .u64 a1_1]]).bind fun r3 =>
 (AV.aggK r3 fun l4 =>
 (cond ((AV.pureL l4) && true)
 ((cp F_ref01_turned [.agg l4]).bind fun r5 =>
 (AV.aggK r5 fun l6 =>
 (cond ((AV.pureL l2) && ((AV.pureL l6) && true))
 ((cp F_ref01_sum [.agg l2, .agg l6, .bool true]).bind fun r7 =>
 (AV.tupK r7 fun l8 =>
 (consK l8 fun v9 l10 =>
 (AV.aggK v9 fun l11 =>
 (consK l10 fun v12 l13 =>
 (AV.boolK v12 fun b14 =>
 (nilK l13
 (cond (lenIs l11 128)
 (cond (cellsOk l11)
 (cond (fits 0 128 (splice [.bool false, .bool false, .bool false, .bool false, .bool false, .bool false, .bool false, .bool false, .bool false, .bool false, .bool false, .bool false, .bool false, .bool false, .bool false, .bool false, .bool false, .bool false, .bool false, .bool false, .bool false, .bool false, .bool false, .bool false, .bool false, .bool false, .bool false, .bool false, .bool false, .bool false, .bool false, .bool false, .bool false, .bool false, .bool false, .bool false, .bool false, .bool false, .bool false, .bool false, .bool false, .bool false, .bool false, .bool false, .bool false, .bool false, .bool false, .bool false, .bool false, .bool false, .bool false, .bool false, .bool false, .bool false, .bool false, .bool false, .bool false, .bool false, .bool false, .bool false, .bool false, .bool false, .bool false, .bool false, .bool false, .bool false, .bool false, .bool false, .bool false, .bool false, .bool false, .bool false, .bool false, .bool false, .bool false, .bool false, .bool false, .bool false, .bool false, .bool false, .bool false, .bool false, .bool false, .bool false, .bool false, .bool false, .bool false, .bool false, .bool false, .bool false, .bool false, .bool false, .bool false, .bool false, .bool false, .bool false, .bool false, .bool false, .bool false, .bool false, .bool false, .bool false, .bool false, .bool false, .bool false, .bool false, .bool false, .bool false, .bool false, .bool false, .bool false, .bool false, .bool false, .bool false, .bool false, .bool false, .bool false, .bool false, .bool false, .bool false, .bool false, .bool false, .bool false, .bool false, .bool false, .bool false, .bool false, .bool false] 0 l11))
 (cond ((AV.pureL (List.take 128 (List.drop 0 (splice [.bool false, .bool false, .bool false, .bool false, .bool false, .bool false, .bool false, .bool false, .bool false, .bool false, .bool false, .bool false, .bool false, .bool false, .bool false, .bool false, .bool false, .bool false, .bool false, .bool false, .bool false, .bool false, .bool false, .bool false, .bool false, .bool false, .bool false, .bool false, .bool false, .bool false, .bool false, .bool false, .bool false, .bool false, .bool false, .bool false, .bool false, .bool false, .bool false, .bool false, .bool false, .bool false, .bool false, .bool false, .bool false, .bool false, .bool false, .bool false, .bool false, .bool false, .bool false, .bool false, .bool false, .bool false, .bool false, .bool false, .bool false, .bool false, .bool false, .bool false, .bool false, .bool false, .bool false, .bool false, .bool false, .bool false, .bool false, .bool false, .bool false, .bool false, .bool false, .bool false, .bool false, .bool false, .bool false, .bool false, .bool false, .bool false, .bool false, .bool false, .bool false, .bool false, .bool false, .bool false, .bool false, .bool false, .bool false, .bool false, .bool false, .bool false, .bool false, .bool false, .bool false, .bool false, .bool false, .bool false, .bool false, .bool false, .bool false, .bool false, .bool false, .bool false, .bool false, .bool false, .bool false, .bool false, .bool false, .bool false, .bool false, .bool false, .bool false, .bool false, .bool false, .bool false, .bool false, .bool false, .bool false, .bool false, .bool false, .bool false, .bool false, .bool false, .bool false, .bool false, .bool false, .bool false, .bool false, .bool false] 0 l11)))) && true)
 ((cp F_ref01_wide [.agg (List.take 128 (List.drop 0 (splice [.bool false, .bool false, .bool false, .bool false, .bool false, .bool false, .bool false, .bool false, .bool false, .bool false, .bool false, .bool false, .bool false, .bool false, .bool false, .bool false, .bool false, .bool false, .bool false, .bool false, .bool false, .bool false, .bool false, .bool false, .bool false, .bool false, .bool false, .bool false, .bool false, .bool false, .bool false, .bool false, .bool false, .bool false, .bool false, .bool false, .bool false, .bool false, .bool false, .bool false, .bool false, .bool false, .bool false, .bool false, .bool false, .bool false, .bool false, .bool false, .bool false, .bool false, .bool false, .bool false, .bool false, .bool false, .bool false, .bool false, .bool false, .bool false, .bool false, .bool false, .bool false, .bool false, .bool false, .bool false, .bool false, .bool false, .bool false, .bool false, .bool false, .bool false, .bool false, .bool false, .bool false, .bool false, .bool false, .bool false, .bool false, .bool false, .bool false, .bool false, .bool false, .bool false, .bool false, .bool false, .bool false, .bool false, .bool false, .bool false, .bool false, .bool false, .bool false, .bool false, .bool false, .bool false, .bool false, .bool false, .bool false, .bool false, .bool false, .bool false, .bool false, .bool false, .bool false, .bool false, .bool false, .bool false, .bool false, .bool false, .bool false, .bool false, .bool false, .bool false, .bool false, .bool false, .bool false, .bool false, .bool false, .bool false, .bool false, .bool false, .bool false, .bool false, .bool false, .bool false, .bool false, .bool false, .bool false, .bool false] 0 l11)))]).bind fun r15 =>
 (AV.aggK r15 fun l16 =>
 (consK l16 fun v17 l18 =>
 (AV.intK .u64 v17 fun i19 =>
 (consK l18 fun v20 l21 =>
 (AV.intK .u64 v20 fun i22 =>
 (nilK l21
 (some (.tup [.agg [.int .u64 i19, .int .u64 i22], .bool (!b14)])))))))))
 none)
 none)
 none)
 none))))))))
 none)))
 none)))))
theorem eq_ref01_Sub (n : Nat) (a0_0 : Int) (a0_1 : Int) (a1_0 : Int) (a1_1 : Int) : CP C (n + 1) F_ref01_Sub [.agg [.int .u64 a0_0, .int .u64 a0_1], .agg [.int .u64 a1_0, .int .u64 a1_1]] = R_ref01_Sub (CP C n) n a0_0 a0_1 a1_0 a1_1 := by kernel_rfl
-- ref01_Neg
def R_ref01_Neg (cp : FuncId → List AV → Option AV) (_n : Nat) (a0_0 : Int) (a0_1 : Int) : Option AV :=
 ((cp F_ref01_Sub [.agg [.int .u64 0, .int .u64 0], .agg [.int .u64 a0_0, .int .u64 a0_1]]).bind fun r1 =>
 (AV.tupK r1 fun l2 =>
 (consK l2 fun v3 l4 =>
 (AV.aggK v3 fun l5 =>
 (consK l5 fun v6 l7 =>
 (AV.intK .u64 v6 fun i8 =>
 (consK l7 fun v9 l10 =>
 (AV.intK .u64 v9 fun i11 =>
 (nilK l10
 (consK l4 fun v12 l13 =>
 (AV.boolK v12 fun b14 =>
 (nilK l13
 (some (.agg [.int .u64 i8, .int .u64 i11]))))))))))))))
theorem eq_ref01_Neg (n : Nat) (a0_0 : Int) (a0_1 : Int) : CP C (n + 1) F_ref01_Neg [.agg [.int .u64 a0_0, .int .u64 a0_1]] = R_ref01_Neg (CP C n) n a0_0 a0_1 := by kernel_rfl
-- ref01_Of
def R_ref01_Of (cp : FuncId → List AV → Option AV) (_n : Nat) (a0 : Int) : Option AV :=
 (cond (decide (a0 < 0))
 (some (.agg [.int .u64 18446744073709551615, .int .u64 (IntKind.u64.wrap a0)]))
 (some (.agg [.int .u64 0, .int .u64 (IntKind.u64.wrap a0)])))
theorem eq_ref01_Of (n : Nat) (a0 : Int) : CP C (n + 1) F_ref01_Of [.int .i64 a0] = R_ref01_Of (CP C n) n a0 := by kernel_rfl
-- ref03_Wide
def R_ref03_Wide (cp : FuncId → List AV → Option AV) (_n : Nat) (a0 : Int) (a1 : Int) : Option AV :=
 ((cp F_ref02_Amount [.int .i64 a0]).bind fun r1 =>
 (AV.intK .u64 r1 fun i2 =>
 ((cp F_ref01_Mul [.int .u64 i2, .int .u64 1000000000]).bind fun r3 =>
 (AV.aggK r3 fun l4 =>
 (consK l4 fun v5 l6 =>
 (AV.intK .u64 v5 fun i7 =>
 (consK l6 fun v8 l9 =>
 (AV.intK .u64 v8 fun i10 =>
 (nilK l9
 (cond (decide (a0 < 0))
 ((cp F_ref01_Neg [.agg [.int .u64 i7, .int .u64 i10]]).bind fun r11 =>
 (AV.aggK r11 fun l12 =>
 (consK l12 fun v13 l14 =>
 (AV.intK .u64 v13 fun i15 =>
 (consK l14 fun v16 l17 =>
 (AV.intK .u64 v16 fun i18 =>
 (nilK l17
 ((cp F_ref01_Of [.int .i64 a1]).bind fun r19 =>
 (AV.aggK r19 fun l20 =>
 (consK l20 fun v21 l22 =>
 (AV.intK .u64 v21 fun i23 =>
 (consK l22 fun v24 l25 =>
 (AV.intK .u64 v24 fun i26 =>
 (nilK l25
 ((cp F_ref01_Add [.agg [.int .u64 i15, .int .u64 i18], .agg [.int .u64 i23, .int .u64 i26]]).bind fun r27 =>
 (AV.tupK r27 fun l28 =>
 (consK l28 fun v29 l30 =>
 (AV.aggK v29 fun l31 =>
 (consK l31 fun v32 l33 =>
 (AV.intK .u64 v32 fun i34 =>
 (consK l33 fun v35 l36 =>
 (AV.intK .u64 v35 fun i37 =>
 (nilK l36
 (consK l30 fun v38 l39 =>
 (AV.boolK v38 fun b40 =>
 (nilK l39
 (some (.agg [.int .u64 i34, .int .u64 i37]))))))))))))))))))))))))))))
 ((cp F_ref01_Of [.int .i64 a1]).bind fun r41 =>
 (AV.aggK r41 fun l42 =>
 (consK l42 fun v43 l44 =>
 (AV.intK .u64 v43 fun i45 =>
 (consK l44 fun v46 l47 =>
 (AV.intK .u64 v46 fun i48 =>
 (nilK l47
 ((cp F_ref01_Add [.agg [.int .u64 i7, .int .u64 i10], .agg [.int .u64 i45, .int .u64 i48]]).bind fun r49 =>
 (AV.tupK r49 fun l50 =>
 (consK l50 fun v51 l52 =>
 (AV.aggK v51 fun l53 =>
 (consK l53 fun v54 l55 =>
 (AV.intK .u64 v54 fun i56 =>
 (consK l55 fun v57 l58 =>
 (AV.intK .u64 v57 fun i59 =>
 (nilK l58
 (consK l52 fun v60 l61 =>
 (AV.boolK v60 fun b62 =>
 (nilK l61
 (some (.agg [.int .u64 i56, .int .u64 i59])))))))))))))))))))))))))))))))
theorem eq_ref03_Wide (n : Nat) (a0 : Int) (a1 : Int) : CP C (n + 1) F_ref03_Wide [.int .i64 a0, .int .i64 a1] = R_ref03_Wide (CP C n) n a0 a1 := by kernel_rfl
-- ref01_Below
def R_ref01_Below (cp : FuncId → List AV → Option AV) (_n : Nat) (a0_0 : Int) (a0_1 : Int) : Option AV :=
 (some (.bool (decide (a0_0 ≥ 9223372036854775808))))
theorem eq_ref01_Below (n : Nat) (a0_0 : Int) (a0_1 : Int) : CP C (n + 1) F_ref01_Below [.agg [.int .u64 a0_0, .int .u64 a0_1]] = R_ref01_Below (CP C n) n a0_0 a0_1 := by kernel_rfl
-- ref01_Div
def S_ref01_Div_1012 (x0 : Int) (x1 : Int) (x2 : Int) (l3 : List AV) (l4 : List AV) : St := ⟨[.junk, .int .u64 x0, .junk, .junk, .ptr (some (1, 0)), .junk, .junk, .ptr (some (2, 0)), .ptr (some (3, 0)), .int .u64 x1, .int .i64 x2, .junk, .junk, .junk, .junk, .junk, .junk, .junk, .junk, .junk, .junk, .junk, .junk, .junk, .junk, .junk, .junk, .junk, .junk, .junk, .junk, .junk, .junk, .junk, .junk, .junk, .junk, .junk, .junk, .junk, .junk, .junk, .junk, .junk], [.dead, .cells 94 [.int .u64 0, .int .u64 0], .cells 114 l3, .cells 114 l4]⟩
def T_ref01_Div_1012 (cp : FuncId → List AV → Option AV) (x0 : Int) (x1 : Int) (x2 : Int) (l3 : List AV) (l4 : List AV) (r1012 : Int → Int → Int → List AV → List AV → Option AV) : Option AV :=
 (cond (decide (x2 ≥ 0))
 (cond ((decide (0 ≤ x2)) && (decide (x2 < 128)))
 (cond (fits (0 + ((Int.toNat x2) * 1)) 1 l3)
 (AV.boolK (nth l3 (0 + ((Int.toNat x2) * 1))) fun b1 =>
 (cond b1
 (bnd (IntKind.u64.wrap ((BitVec.ofInt 64 (IntKind.u64.wrap (x1 * 2)) ||| BitVec.ofInt 64 1).toNat : Int)) fun y2 =>
 (cond (decide (x1 ≥ 9223372036854775808))
 (cond ((decide (0 ≤ x2)) && (decide (x2 < 128)))
 (cond (fits (0 + ((Int.toNat x2) * 1)) 1 l4)
 (r1012 x0 (IntKind.u64.wrap (y2 - x0)) (IntKind.i64.wrap (x2 - 1)) l3 (splice l4 (0 + ((Int.toNat x2) * 1)) [.bool true]))
 none)
 none)
 (cond (decide (y2 ≥ x0))
 (cond ((decide (0 ≤ x2)) && (decide (x2 < 128)))
 (cond (fits (0 + ((Int.toNat x2) * 1)) 1 l4)
 (r1012 x0 (IntKind.u64.wrap (y2 - x0)) (IntKind.i64.wrap (x2 - 1)) l3 (splice l4 (0 + ((Int.toNat x2) * 1)) [.bool true]))
 none)
 none)
 (r1012 x0 y2 (IntKind.i64.wrap (x2 - 1)) l3 l4))))
 (cond (decide (x1 ≥ 9223372036854775808))
 (cond ((decide (0 ≤ x2)) && (decide (x2 < 128)))
 (cond (fits (0 + ((Int.toNat x2) * 1)) 1 l4)
 (r1012 x0 (IntKind.u64.wrap ((IntKind.u64.wrap (x1 * 2)) - x0)) (IntKind.i64.wrap (x2 - 1)) l3 (splice l4 (0 + ((Int.toNat x2) * 1)) [.bool true]))
 none)
 none)
 (cond (decide ((IntKind.u64.wrap (x1 * 2)) ≥ x0))
 (cond ((decide (0 ≤ x2)) && (decide (x2 < 128)))
 (cond (fits (0 + ((Int.toNat x2) * 1)) 1 l4)
 (r1012 x0 (IntKind.u64.wrap ((IntKind.u64.wrap (x1 * 2)) - x0)) (IntKind.i64.wrap (x2 - 1)) l3 (splice l4 (0 + ((Int.toNat x2) * 1)) [.bool true]))
 none)
 none)
 (r1012 x0 (IntKind.u64.wrap (x1 * 2)) (IntKind.i64.wrap (x2 - 1)) l3 l4)))))
 none)
 none)
 (cond (fits 0 128 l4)
 (cond ((AV.pureL (List.take 128 (List.drop 0 l4))) && true)
 ((cp F_ref01_wide [.agg (List.take 128 (List.drop 0 l4))]).bind fun r3 =>
 (AV.aggK r3 fun l4 =>
 (consK l4 fun v5 l6 =>
 (AV.intK .u64 v5 fun i7 =>
 (consK l6 fun v8 l9 =>
 (AV.intK .u64 v8 fun i10 =>
 (nilK l9
 (some (.tup [.agg [.int .u64 i7, .int .u64 i10], .int .u64 x1, .int .i64 0])))))))))
 none)
 none))
theorem K_ref01_Div_1012 (j : Jump) (n : Nat) (m1012 : Nat) (x0 : Int) (x1 : Int) (x2 : Int) (l3 : List AV) (l4 : List AV) : enter (topEnv C (CP C n) n F_ref01_Div) (some j) (bodyOf C.P F_ref01_Div) (endOf C.P F_ref01_Div) [false, false, true, false, true, true, true, true, true] [(m1012 + 1)] (S_ref01_Div_1012 x0 x1 x2 l3 l4) = T_ref01_Div_1012 (CP C n) x0 x1 x2 l3 l4 (fun x0 x1 x2 l3 l4 => j [false, false, true, false, true, true, true, true, true] [m1012] (S_ref01_Div_1012 x0 x1 x2 l3 l4)) := by kernel_rfl
def J_ref01_Div_1012 (cp : FuncId → List AV → Option AV) (n : Nat) : Nat → Int → Int → Int → List AV → List AV → Option AV
  | 0 => (fun x0 x1 x2 l3 l4 => none)
  | m + 1 => (fun x0 x1 x2 l3 l4 => T_ref01_Div_1012 cp x0 x1 x2 l3 l4 (J_ref01_Div_1012 cp n m))
theorem Js_ref01_Div_1012 (cp : FuncId → List AV → Option AV) (n : Nat) (m : Nat) (x0 : Int) (x1 : Int) (x2 : Int) (l3 : List AV) (l4 : List AV) : J_ref01_Div_1012 cp n (m + 1) x0 x1 x2 l3 l4 = T_ref01_Div_1012 cp x0 x1 x2 l3 l4 (J_ref01_Div_1012 cp n m) := of_eq_true (eq_self _)
theorem JE_ref01_Div_1012 (n : Nat) : ∀ (m : Nat) (x0 : Int) (x1 : Int) (x2 : Int) (l3 : List AV) (l4 : List AV), jT (topEnv C (CP C n) n F_ref01_Div) (bodyOf C.P F_ref01_Div) (endOf C.P F_ref01_Div) [false, false, true, false, true, true, true, true, true] [m] (S_ref01_Div_1012 x0 x1 x2 l3 l4) = J_ref01_Div_1012 (CP C n) n m x0 x1 x2 l3 l4
  | 0, x0, x1, x2, l3, l4 => (jT_eq _ _ _ _ _ _).trans (by kernel_rfl)
  | m + 1, x0, x1, x2, l3, l4 => (jT_eq _ _ _ _ _ _).trans ((K_ref01_Div_1012 _ n m x0 x1 x2 l3 l4).trans (congrArg (T_ref01_Div_1012 (CP C n) x0 x1 x2 l3 l4) (funext fun x0 => (funext fun x1 => (funext fun x2 => (funext fun l3 => (funext fun l4 => (JE_ref01_Div_1012 n m) x0 x1 x2 l3 l4)))))))
def T_ref01_Div_1 (cp : FuncId → List AV → Option AV) (a0_0 : Int) (a0_1 : Int) (a1 : Int) (j1012 : Int → Int → Int → List AV → List AV → Option AV) : Option AV :=
 (cond (a1 == 0)
 (some (.tup [.agg [.int .u64 0, .int .u64 0], .int .u64 0, .int .i64 5]))
 ((cp F_ref01_bits [.agg [.int .u64 a0_0, .int .u64 a0_1]]).bind fun r1 =>
 (AV.aggK r1 fun l2 =>
 (cond (lenIs l2 128)
 (cond (cellsOk l2)
 (j1012 a1 0 127 (splice [.bool false, .bool false, .bool false, .bool false, .bool false, .bool false, .bool false, .bool false, .bool false, .bool false, .bool false, .bool false, .bool false, .bool false, .bool false, .bool false, .bool false, .bool false, .bool false, .bool false, .bool false, .bool false, .bool false, .bool false, .bool false, .bool false, .bool false, .bool false, .bool false, .bool false, .bool false, .bool false, .bool false, .bool false, .bool false, .bool false, .bool false, .bool false, .bool false, .bool false, .bool false, .bool false, .bool false, .bool false, .bool false, .bool false, .bool false, .bool false, .bool false, .bool false, .bool false, .bool false, .bool false, .bool false, .bool false, .bool false, .bool false, .bool false, .bool false, .bool false, .bool false, .bool false, .bool false, .bool false, .bool false, .bool false, .bool false, .bool false, .bool false, .bool false, .bool false, .bool false, .bool false, .bool false, .bool false, .bool false, .bool false, .bool false, .bool false, .bool false, .bool false, .bool false, .bool false, .bool false, .bool false, .bool false, .bool false, .bool false, .bool false, .bool false, .bool false, .bool false, .bool false, .bool false, .bool false, .bool false, .bool false, .bool false, .bool false, .bool false, .bool false, .bool false, .bool false, .bool false, .bool false, .bool false, .bool false, .bool false, .bool false, .bool false, .bool false, .bool false, .bool false, .bool false, .bool false, .bool false, .bool false, .bool false, .bool false, .bool false, .bool false, .bool false, .bool false, .bool false, .bool false, .bool false, .bool false, .bool false] 0 l2) [.bool false, .bool false, .bool false, .bool false, .bool false, .bool false, .bool false, .bool false, .bool false, .bool false, .bool false, .bool false, .bool false, .bool false, .bool false, .bool false, .bool false, .bool false, .bool false, .bool false, .bool false, .bool false, .bool false, .bool false, .bool false, .bool false, .bool false, .bool false, .bool false, .bool false, .bool false, .bool false, .bool false, .bool false, .bool false, .bool false, .bool false, .bool false, .bool false, .bool false, .bool false, .bool false, .bool false, .bool false, .bool false, .bool false, .bool false, .bool false, .bool false, .bool false, .bool false, .bool false, .bool false, .bool false, .bool false, .bool false, .bool false, .bool false, .bool false, .bool false, .bool false, .bool false, .bool false, .bool false, .bool false, .bool false, .bool false, .bool false, .bool false, .bool false, .bool false, .bool false, .bool false, .bool false, .bool false, .bool false, .bool false, .bool false, .bool false, .bool false, .bool false, .bool false, .bool false, .bool false, .bool false, .bool false, .bool false, .bool false, .bool false, .bool false, .bool false, .bool false, .bool false, .bool false, .bool false, .bool false, .bool false, .bool false, .bool false, .bool false, .bool false, .bool false, .bool false, .bool false, .bool false, .bool false, .bool false, .bool false, .bool false, .bool false, .bool false, .bool false, .bool false, .bool false, .bool false, .bool false, .bool false, .bool false, .bool false, .bool false, .bool false, .bool false, .bool false, .bool false, .bool false, .bool false, .bool false, .bool false])
 none)
 none))))
theorem K_ref01_Div_1 (j : Jump) (n : Nat) (a0_0 : Int) (a0_1 : Int) (a1 : Int) : ex (topEnv C (CP C n) n F_ref01_Div) (some j) (bodyOf C.P F_ref01_Div) 1 [] [] (endOf C.P F_ref01_Div) (startOf C.P F_ref01_Div [.agg [.int .u64 a0_0, .int .u64 a0_1], .int .u64 a1]) = T_ref01_Div_1 (CP C n) a0_0 a0_1 a1 (fun x0 x1 x2 l3 l4 => j [false, false, true, false, true, true, true, true, true] [(n + 300)] (S_ref01_Div_1012 x0 x1 x2 l3 l4)) := by kernel_rfl
def R_ref01_Div (cp : FuncId → List AV → Option AV) (n : Nat) (a0_0 : Int) (a0_1 : Int) (a1 : Int) : Option AV := T_ref01_Div_1 cp a0_0 a0_1 a1 (J_ref01_Div_1012 cp n (n + 300))
theorem eq_ref01_Div (n : Nat) (a0_0 : Int) (a0_1 : Int) (a1 : Int) : CP C (n + 1) F_ref01_Div [.agg [.int .u64 a0_0, .int .u64 a0_1], .int .u64 a1] = R_ref01_Div (CP C n) n a0_0 a0_1 a1 :=
  (CP_pure C n F_ref01_Div _ (by kernel_rfl) (by kernel_rfl)).trans ((K_ref01_Div_1 _ n a0_0 a0_1 a1).trans (congrArg (T_ref01_Div_1 (CP C n) a0_0 a0_1 a1) (funext fun x0 => (funext fun x1 => (funext fun x2 => (funext fun l3 => (funext fun l4 => (JE_ref01_Div_1012 n (n + 300)) x0 x1 x2 l3 l4)))))))
-- ref02_Floor
def S_ref02_Floor_15 (x0 : Int) (x1 : Int) (x2 : Int) (x3 : Int) (x4 : Int) : St := ⟨[.junk, .int .i64 x0, .ptr (some (0, 0)), .junk, .ptr (some (1, 0)), .junk, .ptr (some (2, 0)), .junk, .junk, .junk, .junk, .junk, .junk, .junk, .junk, .junk, .junk, .junk, .junk, .junk, .junk, .junk, .junk, .junk, .junk, .junk, .junk, .junk, .junk, .junk, .junk, .junk, .junk, .junk, .junk, .junk, .junk, .junk, .junk, .junk, .junk, .junk, .junk, .junk, .junk, .junk, .junk, .junk, .junk, .junk, .junk, .junk, .junk, .junk, .junk, .junk, .junk, .junk, .junk, .junk, .junk, .junk, .junk, .junk, .junk, .junk], [.cells 94 [.int .u64 x1, .int .u64 x2], .cells 94 [.int .u64 0, .int .u64 0], .cells 94 [.int .u64 x3, .int .u64 x4]]⟩
def T_ref02_Floor_15 (cp : FuncId → List AV → Option AV) (x0 : Int) (x1 : Int) (x2 : Int) (x3 : Int) (x4 : Int) : Option AV :=
 ((cp F_ref02_Amount [.int .i64 x0]).bind fun r1 =>
 (AV.intK .u64 r1 fun i2 =>
 ((cp F_ref01_Div [.agg [.int .u64 x3, .int .u64 x4], .int .u64 i2]).bind fun r3 =>
 (AV.tupK r3 fun l4 =>
 (consK l4 fun v5 l6 =>
 (AV.aggK v5 fun l7 =>
 (consK l7 fun v8 l9 =>
 (AV.intK .u64 v8 fun i10 =>
 (consK l9 fun v11 l12 =>
 (AV.intK .u64 v11 fun i13 =>
 (nilK l12
 (consK l6 fun v14 l15 =>
 (AV.intK .u64 v14 fun i16 =>
 (consK l15 fun v17 l18 =>
 (AV.intK .i64 v17 fun i19 =>
 (nilK l18
 ((cp F_ref01_Below [.agg [.int .u64 x1, .int .u64 x2]]).bind fun r20 =>
 (AV.boolK r20 fun b21 =>
 (cond (b21 == (decide (x0 < 0)))
 (cond (decide (x0 < 0))
 (some (.tup [.agg [.int .u64 i10, .int .u64 i13], .int .i64 (IntKind.i64.wrap (IntKind.u64.wrap (0 - i16)))]))
 (some (.tup [.agg [.int .u64 i10, .int .u64 i13], .int .i64 (IntKind.i64.wrap i16)])))
 (cond (i16 == 0)
 ((cp F_ref01_Neg [.agg [.int .u64 i10, .int .u64 i13]]).bind fun r22 =>
 (AV.aggK r22 fun l23 =>
 (consK l23 fun v24 l25 =>
 (AV.intK .u64 v24 fun i26 =>
 (consK l25 fun v27 l28 =>
 (AV.intK .u64 v27 fun i29 =>
 (nilK l28
 (some (.tup [.agg [.int .u64 i26, .int .u64 i29], .int .i64 0])))))))))
 ((cp F_ref01_Add [.agg [.int .u64 i10, .int .u64 i13], .agg [.int .u64 0, .int .u64 1]]).bind fun r30 =>
 (AV.tupK r30 fun l31 =>
 (consK l31 fun v32 l33 =>
 (AV.aggK v32 fun l34 =>
 (consK l34 fun v35 l36 =>
 (AV.intK .u64 v35 fun i37 =>
 (consK l36 fun v38 l39 =>
 (AV.intK .u64 v38 fun i40 =>
 (nilK l39
 (consK l33 fun v41 l42 =>
 (AV.boolK v41 fun b43 =>
 (nilK l42
 (cond (decide (x0 < 0))
 ((cp F_ref01_Neg [.agg [.int .u64 i37, .int .u64 i40]]).bind fun r44 =>
 (AV.aggK r44 fun l45 =>
 (consK l45 fun v46 l47 =>
 (AV.intK .u64 v46 fun i48 =>
 (consK l47 fun v49 l50 =>
 (AV.intK .u64 v49 fun i51 =>
 (nilK l50
 ((cp F_ref02_Amount [.int .i64 x0]).bind fun r52 =>
 (AV.intK .u64 r52 fun i53 =>
 (bnd (IntKind.i64.wrap (IntKind.u64.wrap (0 - (IntKind.u64.wrap (i53 - i16))))) fun y54 =>
 (some (.tup [.agg [.int .u64 i48, .int .u64 i51], .int .i64 y54]))))))))))))
 ((cp F_ref01_Neg [.agg [.int .u64 i37, .int .u64 i40]]).bind fun r55 =>
 (AV.aggK r55 fun l56 =>
 (consK l56 fun v57 l58 =>
 (AV.intK .u64 v57 fun i59 =>
 (consK l58 fun v60 l61 =>
 (AV.intK .u64 v60 fun i62 =>
 (nilK l61
 ((cp F_ref02_Amount [.int .i64 x0]).bind fun r63 =>
 (AV.intK .u64 r63 fun i64 =>
 (some (.tup [.agg [.int .u64 i59, .int .u64 i62], .int .i64 (IntKind.i64.wrap (IntKind.u64.wrap (i64 - i16)))]))))))))))))))))))))))))))))))))))))))))))))
theorem K_ref02_Floor_15 (j : Jump) (n : Nat) (x0 : Int) (x1 : Int) (x2 : Int) (x3 : Int) (x4 : Int) : enter (topEnv C (CP C n) n F_ref02_Floor) (some j) (bodyOf C.P F_ref02_Floor) (endOf C.P F_ref02_Floor) [true, true, true] [] (S_ref02_Floor_15 x0 x1 x2 x3 x4) = T_ref02_Floor_15 (CP C n) x0 x1 x2 x3 x4 := by kernel_rfl
def J_ref02_Floor_15 (cp : FuncId → List AV → Option AV) (n : Nat) (x0 : Int) (x1 : Int) (x2 : Int) (x3 : Int) (x4 : Int) : Option AV := T_ref02_Floor_15 cp x0 x1 x2 x3 x4
theorem JE_ref02_Floor_15 (n : Nat) (x0 : Int) (x1 : Int) (x2 : Int) (x3 : Int) (x4 : Int) : jT (topEnv C (CP C n) n F_ref02_Floor) (bodyOf C.P F_ref02_Floor) (endOf C.P F_ref02_Floor) [true, true, true] [] (S_ref02_Floor_15 x0 x1 x2 x3 x4) = J_ref02_Floor_15 (CP C n) n x0 x1 x2 x3 x4 :=
  (jT_eq _ _ _ _ _ _).trans ((K_ref02_Floor_15 _ n x0 x1 x2 x3 x4).trans (rfl))
def T_ref02_Floor_1 (cp : FuncId → List AV → Option AV) (a0_0 : Int) (a0_1 : Int) (a1 : Int) (j15 : Int → Int → Int → Int → Int → Option AV) : Option AV :=
 ((cp F_ref01_Below [.agg [.int .u64 a0_0, .int .u64 a0_1]]).bind fun r1 =>
 (AV.boolK r1 fun b2 =>
 (cond b2
 ((cp F_ref01_Neg [.agg [.int .u64 a0_0, .int .u64 a0_1]]).bind fun r3 =>
 (AV.aggK r3 fun l4 =>
 (consK l4 fun v5 l6 =>
 (AV.intK .u64 v5 fun i7 =>
 (consK l6 fun v8 l9 =>
 (AV.intK .u64 v8 fun i10 =>
 (nilK l9
 (j15 a1 a0_0 a0_1 i7 i10))))))))
 (j15 a1 a0_0 a0_1 a0_0 a0_1))))
theorem K_ref02_Floor_1 (j : Jump) (n : Nat) (a0_0 : Int) (a0_1 : Int) (a1 : Int) : ex (topEnv C (CP C n) n F_ref02_Floor) (some j) (bodyOf C.P F_ref02_Floor) 1 [] [] (endOf C.P F_ref02_Floor) (startOf C.P F_ref02_Floor [.agg [.int .u64 a0_0, .int .u64 a0_1], .int .i64 a1]) = T_ref02_Floor_1 (CP C n) a0_0 a0_1 a1 (fun x0 x1 x2 x3 x4 => j [true, true, true] [] (S_ref02_Floor_15 x0 x1 x2 x3 x4)) := by kernel_rfl
def R_ref02_Floor (cp : FuncId → List AV → Option AV) (n : Nat) (a0_0 : Int) (a0_1 : Int) (a1 : Int) : Option AV := T_ref02_Floor_1 cp a0_0 a0_1 a1 (J_ref02_Floor_15 cp n)
theorem eq_ref02_Floor (n : Nat) (a0_0 : Int) (a0_1 : Int) (a1 : Int) : CP C (n + 1) F_ref02_Floor [.agg [.int .u64 a0_0, .int .u64 a0_1], .int .i64 a1] = R_ref02_Floor (CP C n) n a0_0 a0_1 a1 :=
  (CP_pure C n F_ref02_Floor _ (by kernel_rfl) (by kernel_rfl)).trans ((K_ref02_Floor_1 _ n a0_0 a0_1 a1).trans (congrArg (T_ref02_Floor_1 (CP C n) a0_0 a0_1 a1) (funext fun x0 => (funext fun x1 => (funext fun x2 => (funext fun x3 => (funext fun x4 => (JE_ref02_Floor_15 n) x0 x1 x2 x3 x4)))))))
-- ref01_Int
def R_ref01_Int (cp : FuncId → List AV → Option AV) (_n : Nat) (a0_0 : Int) (a0_1 : Int) : Option AV :=
 ((cp F_ref01_Of [.int .i64 (IntKind.i64.wrap a0_1)]).bind fun r1 =>
 (AV.aggK r1 fun l2 =>
 (consK l2 fun v3 l4 =>
 (AV.intK .u64 v3 fun i5 =>
 (consK l4 fun v6 l7 =>
 (AV.intK .u64 v6 fun i8 =>
 (nilK l7
 (cond (!((i5 == a0_0) && ((i8 == a0_1) && true)))
 (some (.tup [.int .i64 0, .int .i64 8]))
 (some (.tup [.int .i64 (IntKind.i64.wrap a0_1), .int .i64 0]))))))))))
theorem eq_ref01_Int (n : Nat) (a0_0 : Int) (a0_1 : Int) : CP C (n + 1) F_ref01_Int [.agg [.int .u64 a0_0, .int .u64 a0_1]] = R_ref01_Int (CP C n) n a0_0 a0_1 := by kernel_rfl
-- ref03_Parts
def R_ref03_Parts (cp : FuncId → List AV → Option AV) (_n : Nat) (a0_0 : Int) (a0_1 : Int) : Option AV :=
 ((cp F_ref02_Floor [.agg [.int .u64 a0_0, .int .u64 a0_1], .int .i64 1000000000]).bind fun r1 =>
 (AV.tupK r1 fun l2 =>
 (consK l2 fun v3 l4 =>
 (AV.aggK v3 fun l5 =>
 (consK l5 fun v6 l7 =>
 (AV.intK .u64 v6 fun i8 =>
 (consK l7 fun v9 l10 =>
 (AV.intK .u64 v9 fun i11 =>
 (nilK l10
 (consK l4 fun v12 l13 =>
 (AV.intK .i64 v12 fun i14 =>
 (nilK l13
 ((cp F_ref01_Int [.agg [.int .u64 i8, .int .u64 i11]]).bind fun r15 =>
 (AV.tupK r15 fun l16 =>
 (consK l16 fun v17 l18 =>
 (AV.intK .i64 v17 fun i19 =>
 (consK l18 fun v20 l21 =>
 (AV.intK .i64 v20 fun i22 =>
 (nilK l21
 (some (.tup [.int .i64 i19, .int .i64 i14, .bool (i22 == 0)])))))))))))))))))))))
theorem eq_ref03_Parts (n : Nat) (a0_0 : Int) (a0_1 : Int) : CP C (n + 1) F_ref03_Parts [.agg [.int .u64 a0_0, .int .u64 a0_1]] = R_ref03_Parts (CP C n) n a0_0 a0_1 := by kernel_rfl
-- ref03_instant
def R_ref03_instant (cp : FuncId → List AV → Option AV) (_n : Nat) (a0_0 : Int) (a0_1 : Int) : Option AV :=
 ((cp F_ref03_Parts [.agg [.int .u64 a0_0, .int .u64 a0_1]]).bind fun r1 =>
 (AV.tupK r1 fun l2 =>
 (consK l2 fun v3 l4 =>
 (AV.intK .i64 v3 fun i5 =>
 (consK l4 fun v6 l7 =>
 (AV.intK .i64 v6 fun i8 =>
 (consK l7 fun v9 l10 =>
 (AV.boolK v9 fun b11 =>
 (nilK l10
 (cond (!b11)
 (some (.tup [.agg [.int .i64 0, .int .i64 0], .int .i64 8]))
 (cond (decide (i5 < (-377705116800)))
 (some (.tup [.agg [.int .i64 0, .int .i64 0], .int .i64 8]))
 (cond (decide (i5 > 253402300799))
 (some (.tup [.agg [.int .i64 0, .int .i64 0], .int .i64 8]))
 (some (.tup [.agg [.int .i64 i5, .int .i64 i8], .int .i64 0]))))))))))))))
theorem eq_ref03_instant (n : Nat) (a0_0 : Int) (a0_1 : Int) : CP C (n + 1) F_ref03_instant [.agg [.int .u64 a0_0, .int .u64 a0_1]] = R_ref03_instant (CP C n) n a0_0 a0_1 := by kernel_rfl
-- ref03_Add
def S_ref03_Add_7 (x0 : Int) (x1 : Int) (x2 : Int) (x3 : Int) : St := ⟨[.junk, .junk, .ptr (some (0, 0)), .ptr (some (1, 0)), .ptr (some (2, 0)), .junk, .junk, .junk, .junk, .junk, .junk, .junk, .junk, .junk, .junk, .junk, .junk, .junk, .junk, .junk, .junk, .junk, .junk, .junk, .junk, .junk, .junk, .junk, .junk, .junk, .junk, .junk, .junk, .junk, .junk, .junk, .junk], [.cells 72 [.int .i64 x0, .int .i64 x1], .cells 43 [.int .i64 x2, .int .i64 x3], .cells 72 [.int .i64 0, .int .i64 0], .dead, .dead, .dead, .dead, .dead, .dead, .dead]⟩
def T_ref03_Add_7 (cp : FuncId → List AV → Option AV) (x0 : Int) (x1 : Int) (x2 : Int) (x3 : Int) : Option AV :=
 ((cp F_ref03_Wide [.int .i64 x0, .int .i64 x1]).bind fun r1 =>
 (AV.aggK r1 fun l2 =>
 (consK l2 fun v3 l4 =>
 (AV.intK .u64 v3 fun i5 =>
 (consK l4 fun v6 l7 =>
 (AV.intK .u64 v6 fun i8 =>
 (nilK l7
 ((cp F_ref03_Wide [.int .i64 x2, .int .i64 x3]).bind fun r9 =>
 (AV.aggK r9 fun l10 =>
 (consK l10 fun v11 l12 =>
 (AV.intK .u64 v11 fun i13 =>
 (consK l12 fun v14 l15 =>
 (AV.intK .u64 v14 fun i16 =>
 (nilK l15
 ((cp F_ref01_Add [.agg [.int .u64 i5, .int .u64 i8], .agg [.int .u64 i13, .int .u64 i16]]).bind fun r17 =>
 (AV.tupK r17 fun l18 =>
 (consK l18 fun v19 l20 =>
 (AV.aggK v19 fun l21 =>
 (consK l21 fun v22 l23 =>
 (AV.intK .u64 v22 fun i24 =>
 (consK l23 fun v25 l26 =>
 (AV.intK .u64 v25 fun i27 =>
 (nilK l26
 (consK l20 fun v28 l29 =>
 (AV.boolK v28 fun b30 =>
 (nilK l29
 ((cp F_ref03_instant [.agg [.int .u64 i24, .int .u64 i27]]).bind fun r31 =>
 (AV.tupK r31 fun l32 =>
 (consK l32 fun v33 l34 =>
 (AV.aggK v33 fun l35 =>
 (consK l35 fun v36 l37 =>
 (AV.intK .i64 v36 fun i38 =>
 (consK l37 fun v39 l40 =>
 (AV.intK .i64 v39 fun i41 =>
 (nilK l40
 (consK l34 fun v42 l43 =>
 (AV.intK .i64 v42 fun i44 =>
 (nilK l43
 (some (.tup [.agg [.int .i64 i38, .int .i64 i41], .int .i64 i44]))))))))))))))))))))))))))))))))))))))))
theorem K_ref03_Add_7 (j : Jump) (n : Nat) (x0 : Int) (x1 : Int) (x2 : Int) (x3 : Int) : enter (topEnv C (CP C n) n F_ref03_Add) (some j) (bodyOf C.P F_ref03_Add) (endOf C.P F_ref03_Add) [true, true] [] (S_ref03_Add_7 x0 x1 x2 x3) = T_ref03_Add_7 (CP C n) x0 x1 x2 x3 := by kernel_rfl
def J_ref03_Add_7 (cp : FuncId → List AV → Option AV) (n : Nat) (x0 : Int) (x1 : Int) (x2 : Int) (x3 : Int) : Option AV := T_ref03_Add_7 cp x0 x1 x2 x3
theorem JE_ref03_Add_7 (n : Nat) (x0 : Int) (x1 : Int) (x2 : Int) (x3 : Int) : jT (topEnv C (CP C n) n F_ref03_Add) (bodyOf C.P F_ref03_Add) (endOf C.P F_ref03_Add) [true, true] [] (S_ref03_Add_7 x0 x1 x2 x3) = J_ref03_Add_7 (CP C n) n x0 x1 x2 x3 :=
  (jT_eq _ _ _ _ _ _).trans ((K_ref03_Add_7 _ n x0 x1 x2 x3).trans (rfl))
def T_ref03_Add_1 (cp : FuncId → List AV → Option AV) (a0_0 : Int) (a0_1 : Int) (a1_0 : Int) (a1_1 : Int) (j7 : Int → Int → Int → Int → Option AV) : Option AV :=
 ((cp F_ref03_Check [.agg [.int .i64 a0_0, .int .i64 a0_1]]).bind fun r1 =>
 (AV.intK .i64 r1 fun i2 =>
 ((cp F_ref03_CheckDur [.agg [.int .i64 a1_0, .int .i64 a1_1]]).bind fun r3 =>
 (AV.intK .i64 r3 fun i4 =>
 (cond (i2 != 0)
 (cond (i4 != 0)
 (cond (i2 == 0)
 (cond (i4 != 0)
 (some (.tup [.agg [.int .i64 0, .int .i64 0], .int .i64 i4]))
 (j7 a0_0 a0_1 a1_0 a1_1))
 (cond (decide (i4 < i2))
 (cond (i4 != 0)
 (some (.tup [.agg [.int .i64 0, .int .i64 0], .int .i64 i4]))
 (j7 a0_0 a0_1 a1_0 a1_1))
 (cond (i2 != 0)
 (some (.tup [.agg [.int .i64 0, .int .i64 0], .int .i64 i2]))
 (j7 a0_0 a0_1 a1_0 a1_1))))
 (cond (i2 != 0)
 (some (.tup [.agg [.int .i64 0, .int .i64 0], .int .i64 i2]))
 (j7 a0_0 a0_1 a1_0 a1_1)))
 (cond (i4 != 0)
 (cond (i4 != 0)
 (some (.tup [.agg [.int .i64 0, .int .i64 0], .int .i64 i4]))
 (j7 a0_0 a0_1 a1_0 a1_1))
 (j7 a0_0 a0_1 a1_0 a1_1)))))))
theorem K_ref03_Add_1 (j : Jump) (n : Nat) (a0_0 : Int) (a0_1 : Int) (a1_0 : Int) (a1_1 : Int) : ex (topEnv C (CP C n) n F_ref03_Add) (some j) (bodyOf C.P F_ref03_Add) 1 [] [] (endOf C.P F_ref03_Add) (startOf C.P F_ref03_Add [.agg [.int .i64 a0_0, .int .i64 a0_1], .agg [.int .i64 a1_0, .int .i64 a1_1]]) = T_ref03_Add_1 (CP C n) a0_0 a0_1 a1_0 a1_1 (fun x0 x1 x2 x3 => j [true, true] [] (S_ref03_Add_7 x0 x1 x2 x3)) := by kernel_rfl
def R_ref03_Add (cp : FuncId → List AV → Option AV) (n : Nat) (a0_0 : Int) (a0_1 : Int) (a1_0 : Int) (a1_1 : Int) : Option AV := T_ref03_Add_1 cp a0_0 a0_1 a1_0 a1_1 (J_ref03_Add_7 cp n)
theorem eq_ref03_Add (n : Nat) (a0_0 : Int) (a0_1 : Int) (a1_0 : Int) (a1_1 : Int) : CP C (n + 1) F_ref03_Add [.agg [.int .i64 a0_0, .int .i64 a0_1], .agg [.int .i64 a1_0, .int .i64 a1_1]] = R_ref03_Add (CP C n) n a0_0 a0_1 a1_0 a1_1 :=
  (CP_pure C n F_ref03_Add _ (by kernel_rfl) (by kernel_rfl)).trans ((K_ref03_Add_1 _ n a0_0 a0_1 a1_0 a1_1).trans (congrArg (T_ref03_Add_1 (CP C n) a0_0 a0_1 a1_0 a1_1) (funext fun x0 => (funext fun x1 => (funext fun x2 => (funext fun x3 => (JE_ref03_Add_7 n) x0 x1 x2 x3))))))
-- ref09_instant
def R_ref09_instant (cp : FuncId → List AV → Option AV) (_n : Nat) (a0_0 : Int) (a0_1 : Int) (a0_2 : Int) (a0_3 : Int) (a0_4 : Int) (a0_5 : Int) (a0_6 : Int) : Option AV :=
 ((cp F_ref09_Number [.agg [.int .i64 a0_0, .int .i64 a0_1, .int .i64 a0_2, .int .i64 a0_3, .int .i64 a0_4, .int .i64 a0_5, .int .i64 a0_6]]).bind fun r1 =>
 (AV.intK .i64 r1 fun i2 =>
 (some (.agg [.int .i64 i2, .int .i64 a0_6]))))
theorem eq_ref09_instant (n : Nat) (a0_0 : Int) (a0_1 : Int) (a0_2 : Int) (a0_3 : Int) (a0_4 : Int) (a0_5 : Int) (a0_6 : Int) : CP C (n + 1) F_ref09_instant [.agg [.int .i64 a0_0, .int .i64 a0_1, .int .i64 a0_2, .int .i64 a0_3, .int .i64 a0_4, .int .i64 a0_5, .int .i64 a0_6]] = R_ref09_instant (CP C n) n a0_0 a0_1 a0_2 a0_3 a0_4 a0_5 a0_6 := by kernel_rfl
-- ref09_Add
def S_ref09_Add_7 (x0 : Int) (x1 : Int) (x2 : Int) (x3 : Int) (x4 : Int) (x5 : Int) (x6 : Int) (x7 : Int) (x8 : Int) : St := ⟨[.junk, .junk, .ptr (some (0, 0)), .ptr (some (1, 0)), .ptr (some (2, 0)), .junk, .junk, .junk, .junk, .junk, .junk, .junk, .junk, .junk, .junk, .junk, .junk, .junk, .junk, .junk, .junk, .junk, .junk, .junk, .junk, .junk, .junk, .junk, .junk, .junk, .junk, .junk, .junk, .junk, .junk, .junk, .junk], [.cells 27 [.int .i64 x0, .int .i64 x1, .int .i64 x2, .int .i64 x3, .int .i64 x4, .int .i64 x5, .int .i64 x6], .cells 43 [.int .i64 x7, .int .i64 x8], .cells 27 [.int .i64 0, .int .i64 0, .int .i64 0, .int .i64 0, .int .i64 0, .int .i64 0, .int .i64 0], .dead, .dead, .dead, .dead, .dead, .dead, .dead]⟩
def T_ref09_Add_7 (cp : FuncId → List AV → Option AV) (x0 : Int) (x1 : Int) (x2 : Int) (x3 : Int) (x4 : Int) (x5 : Int) (x6 : Int) (x7 : Int) (x8 : Int) : Option AV :=
 ((cp F_ref09_instant [.agg [.int .i64 x0, .int .i64 x1, .int .i64 x2, .int .i64 x3, .int .i64 x4, .int .i64 x5, .int .i64 x6]]).bind fun r1 =>
 (AV.aggK r1 fun l2 =>
 (consK l2 fun v3 l4 =>
 (AV.intK .i64 v3 fun i5 =>
 (consK l4 fun v6 l7 =>
 (AV.intK .i64 v6 fun i8 =>
 (nilK l7
 ((cp F_ref03_Add [.agg [.int .i64 i5, .int .i64 i8], .agg [.int .i64 x7, .int .i64 x8]]).bind fun r9 =>
 (AV.tupK r9 fun l10 =>
 (consK l10 fun v11 l12 =>
 (AV.aggK v11 fun l13 =>
 (consK l13 fun v14 l15 =>
 (AV.intK .i64 v14 fun i16 =>
 (consK l15 fun v17 l18 =>
 (AV.intK .i64 v17 fun i19 =>
 (nilK l18
 (consK l12 fun v20 l21 =>
 (AV.intK .i64 v20 fun i22 =>
 (nilK l21
 (cond (i22 != 0)
 (some (.tup [.agg [.int .i64 0, .int .i64 0, .int .i64 0, .int .i64 0, .int .i64 0, .int .i64 0, .int .i64 0], .int .i64 i22]))
 ((cp F_ref09_Of [.int .i64 i16, .int .i64 i19]).bind fun r23 =>
 (AV.tupK r23 fun l24 =>
 (consK l24 fun v25 l26 =>
 (AV.aggK v25 fun l27 =>
 (consK l27 fun v28 l29 =>
 (AV.intK .i64 v28 fun i30 =>
 (consK l29 fun v31 l32 =>
 (AV.intK .i64 v31 fun i33 =>
 (consK l32 fun v34 l35 =>
 (AV.intK .i64 v34 fun i36 =>
 (consK l35 fun v37 l38 =>
 (AV.intK .i64 v37 fun i39 =>
 (consK l38 fun v40 l41 =>
 (AV.intK .i64 v40 fun i42 =>
 (consK l41 fun v43 l44 =>
 (AV.intK .i64 v43 fun i45 =>
 (consK l44 fun v46 l47 =>
 (AV.intK .i64 v46 fun i48 =>
 (nilK l47
 (consK l26 fun v49 l50 =>
 (AV.intK .i64 v49 fun i51 =>
 (nilK l50
 (some (.tup [.agg [.int .i64 i30, .int .i64 i33, .int .i64 i36, .int .i64 i39, .int .i64 i42, .int .i64 i45, .int .i64 i48], .int .i64 i51]))))))))))))))))))))))))))))))))))))))))))))
theorem K_ref09_Add_7 (j : Jump) (n : Nat) (x0 : Int) (x1 : Int) (x2 : Int) (x3 : Int) (x4 : Int) (x5 : Int) (x6 : Int) (x7 : Int) (x8 : Int) : enter (topEnv C (CP C n) n F_ref09_Add) (some j) (bodyOf C.P F_ref09_Add) (endOf C.P F_ref09_Add) [true, true] [] (S_ref09_Add_7 x0 x1 x2 x3 x4 x5 x6 x7 x8) = T_ref09_Add_7 (CP C n) x0 x1 x2 x3 x4 x5 x6 x7 x8 := by kernel_rfl
def J_ref09_Add_7 (cp : FuncId → List AV → Option AV) (n : Nat) (x0 : Int) (x1 : Int) (x2 : Int) (x3 : Int) (x4 : Int) (x5 : Int) (x6 : Int) (x7 : Int) (x8 : Int) : Option AV := T_ref09_Add_7 cp x0 x1 x2 x3 x4 x5 x6 x7 x8
theorem JE_ref09_Add_7 (n : Nat) (x0 : Int) (x1 : Int) (x2 : Int) (x3 : Int) (x4 : Int) (x5 : Int) (x6 : Int) (x7 : Int) (x8 : Int) : jT (topEnv C (CP C n) n F_ref09_Add) (bodyOf C.P F_ref09_Add) (endOf C.P F_ref09_Add) [true, true] [] (S_ref09_Add_7 x0 x1 x2 x3 x4 x5 x6 x7 x8) = J_ref09_Add_7 (CP C n) n x0 x1 x2 x3 x4 x5 x6 x7 x8 :=
  (jT_eq _ _ _ _ _ _).trans ((K_ref09_Add_7 _ n x0 x1 x2 x3 x4 x5 x6 x7 x8).trans (rfl))
def T_ref09_Add_1 (cp : FuncId → List AV → Option AV) (a0_0 : Int) (a0_1 : Int) (a0_2 : Int) (a0_3 : Int) (a0_4 : Int) (a0_5 : Int) (a0_6 : Int) (a1_0 : Int) (a1_1 : Int) (j7 : Int → Int → Int → Int → Int → Int → Int → Int → Int → Option AV) : Option AV :=
 ((cp F_ref09_Check [.agg [.int .i64 a0_0, .int .i64 a0_1, .int .i64 a0_2, .int .i64 a0_3, .int .i64 a0_4, .int .i64 a0_5, .int .i64 a0_6]]).bind fun r1 =>
 (AV.intK .i64 r1 fun i2 =>
 ((cp F_ref03_CheckDur [.agg [.int .i64 a1_0, .int .i64 a1_1]]).bind fun r3 =>
 (AV.intK .i64 r3 fun i4 =>
 (cond (i2 != 0)
 (cond (i4 != 0)
 (cond (i2 == 0)
 (cond (i4 != 0)
 (some (.tup [.agg [.int .i64 0, .int .i64 0, .int .i64 0, .int .i64 0, .int .i64 0, .int .i64 0, .int .i64 0], .int .i64 i4]))
 (j7 a0_0 a0_1 a0_2 a0_3 a0_4 a0_5 a0_6 a1_0 a1_1))
 (cond (decide (i4 < i2))
 (cond (i4 != 0)
 (some (.tup [.agg [.int .i64 0, .int .i64 0, .int .i64 0, .int .i64 0, .int .i64 0, .int .i64 0, .int .i64 0], .int .i64 i4]))
 (j7 a0_0 a0_1 a0_2 a0_3 a0_4 a0_5 a0_6 a1_0 a1_1))
 (cond (i2 != 0)
 (some (.tup [.agg [.int .i64 0, .int .i64 0, .int .i64 0, .int .i64 0, .int .i64 0, .int .i64 0, .int .i64 0], .int .i64 i2]))
 (j7 a0_0 a0_1 a0_2 a0_3 a0_4 a0_5 a0_6 a1_0 a1_1))))
 (cond (i2 != 0)
 (some (.tup [.agg [.int .i64 0, .int .i64 0, .int .i64 0, .int .i64 0, .int .i64 0, .int .i64 0, .int .i64 0], .int .i64 i2]))
 (j7 a0_0 a0_1 a0_2 a0_3 a0_4 a0_5 a0_6 a1_0 a1_1)))
 (cond (i4 != 0)
 (cond (i4 != 0)
 (some (.tup [.agg [.int .i64 0, .int .i64 0, .int .i64 0, .int .i64 0, .int .i64 0, .int .i64 0, .int .i64 0], .int .i64 i4]))
 (j7 a0_0 a0_1 a0_2 a0_3 a0_4 a0_5 a0_6 a1_0 a1_1))
 (j7 a0_0 a0_1 a0_2 a0_3 a0_4 a0_5 a0_6 a1_0 a1_1)))))))
theorem K_ref09_Add_1 (j : Jump) (n : Nat) (a0_0 : Int) (a0_1 : Int) (a0_2 : Int) (a0_3 : Int) (a0_4 : Int) (a0_5 : Int) (a0_6 : Int) (a1_0 : Int) (a1_1 : Int) : ex (topEnv C (CP C n) n F_ref09_Add) (some j) (bodyOf C.P F_ref09_Add) 1 [] [] (endOf C.P F_ref09_Add) (startOf C.P F_ref09_Add [.agg [.int .i64 a0_0, .int .i64 a0_1, .int .i64 a0_2, .int .i64 a0_3, .int .i64 a0_4, .int .i64 a0_5, .int .i64 a0_6], .agg [.int .i64 a1_0, .int .i64 a1_1]]) = T_ref09_Add_1 (CP C n) a0_0 a0_1 a0_2 a0_3 a0_4 a0_5 a0_6 a1_0 a1_1 (fun x0 x1 x2 x3 x4 x5 x6 x7 x8 => j [true, true] [] (S_ref09_Add_7 x0 x1 x2 x3 x4 x5 x6 x7 x8)) := by kernel_rfl
def R_ref09_Add (cp : FuncId → List AV → Option AV) (n : Nat) (a0_0 : Int) (a0_1 : Int) (a0_2 : Int) (a0_3 : Int) (a0_4 : Int) (a0_5 : Int) (a0_6 : Int) (a1_0 : Int) (a1_1 : Int) : Option AV := T_ref09_Add_1 cp a0_0 a0_1 a0_2 a0_3 a0_4 a0_5 a0_6 a1_0 a1_1 (J_ref09_Add_7 cp n)
theorem eq_ref09_Add (n : Nat) (a0_0 : Int) (a0_1 : Int) (a0_2 : Int) (a0_3 : Int) (a0_4 : Int) (a0_5 : Int) (a0_6 : Int) (a1_0 : Int) (a1_1 : Int) : CP C (n + 1) F_ref09_Add [.agg [.int .i64 a0_0, .int .i64 a0_1, .int .i64 a0_2, .int .i64 a0_3, .int .i64 a0_4, .int .i64 a0_5, .int .i64 a0_6], .agg [.int .i64 a1_0, .int .i64 a1_1]] = R_ref09_Add (CP C n) n a0_0 a0_1 a0_2 a0_3 a0_4 a0_5 a0_6 a1_0 a1_1 :=
  (CP_pure C n F_ref09_Add _ (by kernel_rfl) (by kernel_rfl)).trans ((K_ref09_Add_1 _ n a0_0 a0_1 a0_2 a0_3 a0_4 a0_5 a0_6 a1_0 a1_1).trans (congrArg (T_ref09_Add_1 (CP C n) a0_0 a0_1 a0_2 a0_3 a0_4 a0_5 a0_6 a1_0 a1_1) (funext fun x0 => (funext fun x1 => (funext fun x2 => (funext fun x3 => (funext fun x4 => (funext fun x5 => (funext fun x6 => (funext fun x7 => (funext fun x8 => (JE_ref09_Add_7 n) x0 x1 x2 x3 x4 x5 x6 x7 x8)))))))))))
-- math_bits_Mul64
def R_math_bits_Mul64 (cp : FuncId → List AV → Option AV) (_n : Nat) (a0 : Int) (a1 : Int) : Option AV :=
 (bnd (IntKind.u64.wrap ((BitVec.ofInt 64 a0 &&& BitVec.ofInt 64 4294967295).toNat : Int)) fun y1 =>
 (bnd (IntKind.u64.wrap ((BitVec.ofInt 64 a1 &&& BitVec.ofInt 64 4294967295).toNat : Int)) fun y2 =>
 (bnd (IntKind.u64.wrap ((IntKind.u64.wrap ((Int.fdiv a0 4294967296) * y2)) + (Int.fdiv (IntKind.u64.wrap (y1 * y2)) 4294967296))) fun y3 =>
 (bnd (IntKind.u64.wrap ((BitVec.ofInt 64 y3 &&& BitVec.ofInt 64 4294967295).toNat : Int)) fun y4 =>
 (bnd (IntKind.u64.wrap (y4 + (IntKind.u64.wrap (y1 * (Int.fdiv a1 4294967296))))) fun y5 =>
 (bnd (IntKind.u64.wrap ((Int.fdiv a0 4294967296) * (Int.fdiv a1 4294967296))) fun y6 =>
 (bnd (IntKind.u64.wrap ((IntKind.u64.wrap (y6 + (Int.fdiv y3 4294967296))) + (Int.fdiv y5 4294967296))) fun y7 =>
 (some (.tup [.int .u64 y7, .int .u64 (IntKind.u64.wrap (a0 * a1))])))))))))
theorem eq_math_bits_Mul64 (n : Nat) (a0 : Int) (a1 : Int) : CP C (n + 1) F_math_bits_Mul64 [.int .u64 a0, .int .u64 a1] = R_math_bits_Mul64 (CP C n) n a0 a1 := by kernel_rfl
-- wide_Mul
def R_wide_Mul (cp : FuncId → List AV → Option AV) (_n : Nat) (a0 : Int) (a1 : Int) : Option AV :=
 ((cp F_math_bits_Mul64 [.int .u64 a0, .int .u64 a1]).bind fun r1 =>
 (AV.tupK r1 fun l2 =>
 (consK l2 fun v3 l4 =>
 (AV.intK .u64 v3 fun i5 =>
 (consK l4 fun v6 l7 =>
 (AV.intK .u64 v6 fun i8 =>
 (nilK l7
 (some (.agg [.int .u64 i5, .int .u64 i8])))))))))
theorem eq_wide_Mul (n : Nat) (a0 : Int) (a1 : Int) : CP C (n + 1) F_wide_Mul [.int .u64 a0, .int .u64 a1] = R_wide_Mul (CP C n) n a0 a1 := by kernel_rfl
-- wide_Sub
def R_wide_Sub (cp : FuncId → List AV → Option AV) (_n : Nat) (a0_0 : Int) (a0_1 : Int) (a1_0 : Int) (a1_1 : Int) : Option AV :=
 (bnd (((((Int.toNat a0_1) + 18446744073709551616 - (Int.toNat a1_1) - 0) % 18446744073709551616 : Nat)) : Int) fun y1 =>
 (bnd ((if (Int.toNat a0_1) < (Int.toNat a1_1) + 0 then 1 else 0 : Nat) : Int) fun y2 =>
 (cond (decide ((Int.toNat y2) ≤ 1))
 (bnd (((((Int.toNat a0_0) + 18446744073709551616 - (Int.toNat a1_0) - (Int.toNat y2)) % 18446744073709551616 : Nat)) : Int) fun y3 =>
 (bnd ((if (Int.toNat a0_0) < (Int.toNat a1_0) + (Int.toNat y2) then 1 else 0 : Nat) : Int) fun y4 =>
 (some (.tup [.agg [.int .u64 y3, .int .u64 y1], .bool (y4 == 1)]))))
 none)))
theorem eq_wide_Sub (n : Nat) (a0_0 : Int) (a0_1 : Int) (a1_0 : Int) (a1_1 : Int) : CP C (n + 1) F_wide_Sub [.agg [.int .u64 a0_0, .int .u64 a0_1], .agg [.int .u64 a1_0, .int .u64 a1_1]] = R_wide_Sub (CP C n) n a0_0 a0_1 a1_0 a1_1 := by kernel_rfl
-- wide_Neg
def R_wide_Neg (cp : FuncId → List AV → Option AV) (_n : Nat) (a0_0 : Int) (a0_1 : Int) : Option AV :=
 ((cp F_wide_Sub [.agg [.int .u64 0, .int .u64 0], .agg [.int .u64 a0_0, .int .u64 a0_1]]).bind fun r1 =>
 (AV.tupK r1 fun l2 =>
 (consK l2 fun v3 l4 =>
 (AV.aggK v3 fun l5 =>
 (consK l5 fun v6 l7 =>
 (AV.intK .u64 v6 fun i8 =>
 (consK l7 fun v9 l10 =>
 (AV.intK .u64 v9 fun i11 =>
 (nilK l10
 (consK l4 fun v12 l13 =>
 (AV.boolK v12 fun b14 =>
 (nilK l13
 (some (.agg [.int .u64 i8, .int .u64 i11]))))))))))))))
theorem eq_wide_Neg (n : Nat) (a0_0 : Int) (a0_1 : Int) : CP C (n + 1) F_wide_Neg [.agg [.int .u64 a0_0, .int .u64 a0_1]] = R_wide_Neg (CP C n) n a0_0 a0_1 := by kernel_rfl
-- wide_Add
def R_wide_Add (cp : FuncId → List AV → Option AV) (_n : Nat) (a0_0 : Int) (a0_1 : Int) (a1_0 : Int) (a1_1 : Int) : Option AV :=
 (bnd (((((Int.toNat a0_1) + (Int.toNat a1_1) + 0) % 18446744073709551616 : Nat)) : Int) fun y1 =>
 (bnd (((((Int.toNat a0_1) + (Int.toNat a1_1) + 0) / 18446744073709551616 : Nat)) : Int) fun y2 =>
 (cond (decide ((Int.toNat y2) ≤ 1))
 (bnd (((((Int.toNat a0_0) + (Int.toNat a1_0) + (Int.toNat y2)) % 18446744073709551616 : Nat)) : Int) fun y3 =>
 (bnd (((((Int.toNat a0_0) + (Int.toNat a1_0) + (Int.toNat y2)) / 18446744073709551616 : Nat)) : Int) fun y4 =>
 (some (.tup [.agg [.int .u64 y3, .int .u64 y1], .bool (y4 == 1)]))))
 none)))
theorem eq_wide_Add (n : Nat) (a0_0 : Int) (a0_1 : Int) (a1_0 : Int) (a1_1 : Int) : CP C (n + 1) F_wide_Add [.agg [.int .u64 a0_0, .int .u64 a0_1], .agg [.int .u64 a1_0, .int .u64 a1_1]] = R_wide_Add (CP C n) n a0_0 a0_1 a1_0 a1_1 := by kernel_rfl
-- wide_Of
def R_wide_Of (cp : FuncId → List AV → Option AV) (_n : Nat) (a0 : Int) : Option AV :=
 (some (.agg [.int .u64 (IntKind.u64.wrap (Int.fdiv a0 9223372036854775808)), .int .u64 (IntKind.u64.wrap a0)]))
theorem eq_wide_Of (n : Nat) (a0 : Int) : CP C (n + 1) F_wide_Of [.int .i64 a0] = R_wide_Of (CP C n) n a0 := by kernel_rfl
-- math_bits_Len64
def S_math_bits_Len64_31 (x0 : Int) (x1 : Int) : St := ⟨[.int .u64 x0, .junk, .int .i64 x1, .junk, .junk, .junk, .junk, .junk, .junk, .junk, .junk, .junk, .junk, .junk, .junk, .junk, .junk, .junk, .junk, .junk, .junk, .junk, .junk, .junk, .junk], []⟩
def T_math_bits_Len64_31 (cp : FuncId → List AV → Option AV) (x0 : Int) (x1 : Int) : Option AV :=
 (cond (decide (0 ≤ (IntKind.u8.wrap x0)))
 (match (ByteArray.mk #[0, 1, 2, 2, 3, 3, 3, 3, 4, 4, 4, 4, 4, 4, 4, 4, 5, 5, 5, 5, 5, 5, 5, 5, 5, 5, 5, 5, 5, 5, 5, 5, 6, 6, 6, 6, 6, 6, 6, 6, 6, 6, 6, 6, 6, 6, 6, 6, 6, 6, 6, 6, 6, 6, 6, 6, 6, 6, 6, 6, 6, 6, 6, 6, 7, 7, 7, 7, 7, 7, 7, 7, 7, 7, 7, 7, 7, 7, 7, 7, 7, 7, 7, 7, 7, 7, 7, 7, 7, 7, 7, 7, 7, 7, 7, 7, 7, 7, 7, 7, 7, 7, 7, 7, 7, 7, 7, 7, 7, 7, 7, 7, 7, 7, 7, 7, 7, 7, 7, 7, 7, 7, 7, 7, 7, 7, 7, 7, 8, 8, 8, 8, 8, 8, 8, 8, 8, 8, 8, 8, 8, 8, 8, 8, 8, 8, 8, 8, 8, 8, 8, 8, 8, 8, 8, 8, 8, 8, 8, 8, 8, 8, 8, 8, 8, 8, 8, 8, 8, 8, 8, 8, 8, 8, 8, 8, 8, 8, 8, 8, 8, 8, 8, 8, 8, 8, 8, 8, 8, 8, 8, 8, 8, 8, 8, 8, 8, 8, 8, 8, 8, 8, 8, 8, 8, 8, 8, 8, 8, 8, 8, 8, 8, 8, 8, 8, 8, 8, 8, 8, 8, 8, 8, 8, 8, 8, 8, 8, 8, 8, 8, 8, 8, 8, 8, 8, 8, 8, 8, 8, 8, 8, 8, 8, 8, 8, 8, 8, 8, 8, 8, 8, 8, 8, 8, 8])[(Int.toNat (IntKind.u8.wrap x0))]? with
 | some c1 => (bnd (IntKind.i64.wrap (x1 + (IntKind.i64.wrap ((c1.toNat : Nat) : Int)))) fun y2 =>
 (some (.int .i64 y2)))
 | none => none)
 none)
theorem K_math_bits_Len64_31 (j : Jump) (n : Nat) (x0 : Int) (x1 : Int) : enter (topEnv C (CP C n) n F_math_bits_Len64) (some j) (bodyOf C.P F_math_bits_Len64) (endOf C.P F_math_bits_Len64) [true, true, true, true] [] (S_math_bits_Len64_31 x0 x1) = T_math_bits_Len64_31 (CP C n) x0 x1 := by kernel_rfl
def J_math_bits_Len64_31 (cp : FuncId → List AV → Option AV) (n : Nat) (x0 : Int) (x1 : Int) : Option AV := T_math_bits_Len64_31 cp x0 x1
theorem JE_math_bits_Len64_31 (n : Nat) (x0 : Int) (x1 : Int) : jT (topEnv C (CP C n) n F_math_bits_Len64) (bodyOf C.P F_math_bits_Len64) (endOf C.P F_math_bits_Len64) [true, true, true, true] [] (S_math_bits_Len64_31 x0 x1) = J_math_bits_Len64_31 (CP C n) n x0 x1 :=
  (jT_eq _ _ _ _ _ _).trans ((K_math_bits_Len64_31 _ n x0 x1).trans (rfl))
def T_math_bits_Len64_1 (cp : FuncId → List AV → Option AV) (a0 : Int) (j31 : Int → Int → Option AV) : Option AV :=
 (cond (decide (a0 ≥ 4294967296))
 (cond (decide ((Int.fdiv a0 4294967296) ≥ 65536))
 (cond (decide ((Int.fdiv (Int.fdiv a0 4294967296) 65536) ≥ 256))
 (j31 (Int.fdiv (Int.fdiv (Int.fdiv a0 4294967296) 65536) 256) 56)
 (j31 (Int.fdiv (Int.fdiv a0 4294967296) 65536) 48))
 (cond (decide ((Int.fdiv a0 4294967296) ≥ 256))
 (j31 (Int.fdiv (Int.fdiv a0 4294967296) 256) 40)
 (j31 (Int.fdiv a0 4294967296) 32)))
 (cond (decide (a0 ≥ 65536))
 (cond (decide ((Int.fdiv a0 65536) ≥ 256))
 (j31 (Int.fdiv (Int.fdiv a0 65536) 256) 24)
 (j31 (Int.fdiv a0 65536) 16))
 (cond (decide (a0 ≥ 256))
 (j31 (Int.fdiv a0 256) 8)
 (j31 a0 0))))
theorem K_math_bits_Len64_1 (j : Jump) (n : Nat) (a0 : Int) : ex (topEnv C (CP C n) n F_math_bits_Len64) (some j) (bodyOf C.P F_math_bits_Len64) 1 [] [] (endOf C.P F_math_bits_Len64) (startOf C.P F_math_bits_Len64 [.int .u64 a0]) = T_math_bits_Len64_1 (CP C n) a0 (fun x0 x1 => j [true, true, true, true] [] (S_math_bits_Len64_31 x0 x1)) := by kernel_rfl
def R_math_bits_Len64 (cp : FuncId → List AV → Option AV) (n : Nat) (a0 : Int) : Option AV := T_math_bits_Len64_1 cp a0 (J_math_bits_Len64_31 cp n)
theorem eq_math_bits_Len64 (n : Nat) (a0 : Int) : CP C (n + 1) F_math_bits_Len64 [.int .u64 a0] = R_math_bits_Len64 (CP C n) n a0 :=
  (CP_pure C n F_math_bits_Len64 _ (by kernel_rfl) (by kernel_rfl)).trans ((K_math_bits_Len64_1 _ n a0).trans (congrArg (T_math_bits_Len64_1 (CP C n) a0) (funext fun x0 => (funext fun x1 => (JE_math_bits_Len64_31 n) x0 x1))))
-- math_bits_LeadingZeros64
def R_math_bits_LeadingZeros64 (cp : FuncId → List AV → Option AV) (_n : Nat) (a0 : Int) : Option AV :=
 ((cp F_math_bits_Len64 [.int .u64 a0]).bind fun r1 =>
 (AV.intK .i64 r1 fun i2 =>
 (some (.int .i64 (IntKind.i64.wrap (64 - i2))))))
theorem eq_math_bits_LeadingZeros64 (n : Nat) (a0 : Int) : CP C (n + 1) F_math_bits_LeadingZeros64 [.int .u64 a0] = R_math_bits_LeadingZeros64 (CP C n) n a0 := by kernel_rfl
-- math_bits_Div64
def S_math_bits_Div64_262136 (x0 : Int) (x1 : Int) (x2 : Int) (x3 : Int) (x4 : Int) (x5 : Int) (x6 : Int) (x7 : Int) (x8 : Int) : St := ⟨[.junk, .junk, .int .u64 x0, .junk, .junk, .junk, .junk, .junk, .int .u64 x1, .int .u64 x2, .int .u64 x3, .int .u64 x4, .junk, .int .u64 x5, .int .u64 x6, .int .u64 x7, .int .u64 x8, .junk, .junk, .junk, .junk, .junk, .junk, .junk, .junk, .junk, .junk, .junk, .junk, .junk, .junk, .junk, .junk, .junk, .junk, .junk, .junk, .junk, .junk, .junk, .junk, .junk, .junk, .junk, .junk, .junk, .junk, .junk, .junk, .junk, .junk, .junk, .junk, .junk, .junk, .junk, .junk, .junk, .junk, .junk, .junk, .junk, .junk, .junk, .junk, .junk, .junk, .junk, .junk, .junk, .junk, .junk, .junk, .junk, .junk, .junk, .junk, .junk, .junk, .junk, .junk, .junk, .junk, .junk, .junk, .junk, .junk, .junk, .junk, .junk, .junk, .junk, .junk, .junk, .junk, .junk, .junk, .junk, .junk, .junk, .junk, .junk, .junk, .junk, .junk, .junk, .junk, .junk, .junk, .junk, .junk, .junk, .junk, .junk, .junk, .junk, .junk, .junk, .junk, .junk, .junk, .junk, .junk, .junk, .junk, .junk, .junk, .junk, .junk, .junk, .junk, .junk, .junk, .junk, .junk], []⟩
def S_math_bits_Div64_4194296 (x0 : Int) (x1 : Int) (x2 : Int) (x3 : Int) (x4 : Int) (x5 : Int) (x6 : Int) (x7 : Int) (x8 : Int) : St := ⟨[.junk, .junk, .int .u64 x0, .junk, .junk, .junk, .junk, .junk, .int .u64 x1, .int .u64 x2, .int .u64 x3, .junk, .junk, .junk, .int .u64 x4, .int .u64 x5, .int .u64 x6, .int .u64 x7, .int .u64 x8, .junk, .junk, .junk, .junk, .junk, .junk, .junk, .junk, .junk, .junk, .junk, .junk, .junk, .junk, .junk, .junk, .junk, .junk, .junk, .junk, .junk, .junk, .junk, .junk, .junk, .junk, .junk, .junk, .junk, .junk, .junk, .junk, .junk, .junk, .junk, .junk, .junk, .junk, .junk, .junk, .junk, .junk, .junk, .junk, .junk, .junk, .junk, .junk, .junk, .junk, .junk, .junk, .junk, .junk, .junk, .junk, .junk, .junk, .junk, .junk, .junk, .junk, .junk, .junk, .junk, .junk, .junk, .junk, .junk, .junk, .junk, .junk, .junk, .junk, .junk, .junk, .junk, .junk, .junk, .junk, .junk, .junk, .junk, .junk, .junk, .junk, .junk, .junk, .junk, .junk, .junk, .junk, .junk, .junk, .junk, .junk, .junk, .junk, .junk, .junk, .junk, .junk, .junk, .junk, .junk, .junk, .junk, .junk, .junk, .junk, .junk, .junk, .junk, .junk, .junk, .junk], []⟩
def T_math_bits_Div64_4194296 (cp : FuncId → List AV → Option AV) (x0 : Int) (x1 : Int) (x2 : Int) (x3 : Int) (x4 : Int) (x5 : Int) (x6 : Int) (x7 : Int) (x8 : Int) (r4194296 : Int → Int → Int → Int → Int → Int → Int → Int → Int → Option AV) : Option AV :=
 (cond (decide (x8 ≥ 4294967296))
 (cond (decide ((IntKind.u64.wrap (x6 + x2)) ≥ 4294967296))
 (bnd (IntKind.u64.wrap ((IntKind.u64.wrap (x5 * 4294967296)) + (IntKind.u64.wrap (x8 - 1)))) fun y1 =>
 (bnd (IntKind.u64.wrap ((IntKind.u64.wrap (x7 * 4294967296)) + x4)) fun y2 =>
 (bnd (IntKind.u64.wrap (y2 - (IntKind.u64.wrap ((IntKind.u64.wrap (x8 - 1)) * x0)))) fun y3 =>
 (cond (decide (x1 < 0))
 none
 (some (.tup [.int .u64 y1, .int .u64 (Int.fdiv y3 (2 ^ (min (Int.toNat x1) 64)))]))))))
 (r4194296 x0 x1 x2 x3 x4 x5 (IntKind.u64.wrap (x6 + x2)) x7 (IntKind.u64.wrap (x8 - 1))))
 (bnd (IntKind.u64.wrap ((IntKind.u64.wrap (4294967296 * x6)) + x4)) fun y4 =>
 (cond (decide ((IntKind.u64.wrap (x8 * x3)) > y4))
 (cond (decide ((IntKind.u64.wrap (x6 + x2)) ≥ 4294967296))
 (bnd (IntKind.u64.wrap ((IntKind.u64.wrap (x5 * 4294967296)) + (IntKind.u64.wrap (x8 - 1)))) fun y5 =>
 (bnd (IntKind.u64.wrap ((IntKind.u64.wrap (x7 * 4294967296)) + x4)) fun y6 =>
 (bnd (IntKind.u64.wrap (y6 - (IntKind.u64.wrap ((IntKind.u64.wrap (x8 - 1)) * x0)))) fun y7 =>
 (cond (decide (x1 < 0))
 none
 (some (.tup [.int .u64 y5, .int .u64 (Int.fdiv y7 (2 ^ (min (Int.toNat x1) 64)))]))))))
 (r4194296 x0 x1 x2 x3 x4 x5 (IntKind.u64.wrap (x6 + x2)) x7 (IntKind.u64.wrap (x8 - 1))))
 (bnd (IntKind.u64.wrap ((IntKind.u64.wrap (x5 * 4294967296)) + x8)) fun y8 =>
 (bnd (IntKind.u64.wrap ((IntKind.u64.wrap (x7 * 4294967296)) + x4)) fun y9 =>
 (cond (decide (x1 < 0))
 none
 (bnd (Int.fdiv (IntKind.u64.wrap (y9 - (IntKind.u64.wrap (x8 * x0)))) (2 ^ (min (Int.toNat x1) 64))) fun y10 =>
 (some (.tup [.int .u64 y8, .int .u64 y10])))))))))
theorem K_math_bits_Div64_4194296 (j : Jump) (n : Nat) (m4194296 : Nat) (x0 : Int) (x1 : Int) (x2 : Int) (x3 : Int) (x4 : Int) (x5 : Int) (x6 : Int) (x7 : Int) (x8 : Int) : enter (topEnv C (CP C n) n F_math_bits_Div64) (some j) (bodyOf C.P F_math_bits_Div64) (endOf C.P F_math_bits_Div64) [false, false, false, true, true, true, true, true, true, true, true, true, true, true, true, true, true, true, true, true, true] [(m4194296 + 1)] (S_math_bits_Div64_4194296 x0 x1 x2 x3 x4 x5 x6 x7 x8) = T_math_bits_Div64_4194296 (CP C n) x0 x1 x2 x3 x4 x5 x6 x7 x8 (fun x0 x1 x2 x3 x4 x5 x6 x7 x8 => j [false, false, false, true, true, true, true, true, true, true, true, true, true, true, true, true, true, true, true, true, true] [m4194296] (S_math_bits_Div64_4194296 x0 x1 x2 x3 x4 x5 x6 x7 x8)) := by kernel_rfl
def J_math_bits_Div64_4194296 (cp : FuncId → List AV → Option AV) (n : Nat) : Nat → Int → Int → Int → Int → Int → Int → Int → Int → Int → Option AV
  | 0 => (fun x0 x1 x2 x3 x4 x5 x6 x7 x8 => none)
  | m + 1 => (fun x0 x1 x2 x3 x4 x5 x6 x7 x8 => T_math_bits_Div64_4194296 cp x0 x1 x2 x3 x4 x5 x6 x7 x8 (J_math_bits_Div64_4194296 cp n m))
theorem Js_math_bits_Div64_4194296 (cp : FuncId → List AV → Option AV) (n : Nat) (m : Nat) (x0 : Int) (x1 : Int) (x2 : Int) (x3 : Int) (x4 : Int) (x5 : Int) (x6 : Int) (x7 : Int) (x8 : Int) : J_math_bits_Div64_4194296 cp n (m + 1) x0 x1 x2 x3 x4 x5 x6 x7 x8 = T_math_bits_Div64_4194296 cp x0 x1 x2 x3 x4 x5 x6 x7 x8 (J_math_bits_Div64_4194296 cp n m) := of_eq_true (eq_self _)
theorem JE_math_bits_Div64_4194296 (n : Nat) : ∀ (m : Nat) (x0 : Int) (x1 : Int) (x2 : Int) (x3 : Int) (x4 : Int) (x5 : Int) (x6 : Int) (x7 : Int) (x8 : Int), jT (topEnv C (CP C n) n F_math_bits_Div64) (bodyOf C.P F_math_bits_Div64) (endOf C.P F_math_bits_Div64) [false, false, false, true, true, true, true, true, true, true, true, true, true, true, true, true, true, true, true, true, true] [m] (S_math_bits_Div64_4194296 x0 x1 x2 x3 x4 x5 x6 x7 x8) = J_math_bits_Div64_4194296 (CP C n) n m x0 x1 x2 x3 x4 x5 x6 x7 x8
  | 0, x0, x1, x2, x3, x4, x5, x6, x7, x8 => (jT_eq _ _ _ _ _ _).trans (by kernel_rfl)
  | m + 1, x0, x1, x2, x3, x4, x5, x6, x7, x8 => (jT_eq _ _ _ _ _ _).trans ((K_math_bits_Div64_4194296 _ n m x0 x1 x2 x3 x4 x5 x6 x7 x8).trans (congrArg (T_math_bits_Div64_4194296 (CP C n) x0 x1 x2 x3 x4 x5 x6 x7 x8) (funext fun x0 => (funext fun x1 => (funext fun x2 => (funext fun x3 => (funext fun x4 => (funext fun x5 => (funext fun x6 => (funext fun x7 => (funext fun x8 => (JE_math_bits_Div64_4194296 n m) x0 x1 x2 x3 x4 x5 x6 x7 x8)))))))))))
def T_math_bits_Div64_262136 (cp : FuncId → List AV → Option AV) (x0 : Int) (x1 : Int) (x2 : Int) (x3 : Int) (x4 : Int) (x5 : Int) (x6 : Int) (x7 : Int) (x8 : Int) (j4194296 : Int → Int → Int → Int → Int → Int → Int → Int → Int → Option AV) (r262136 : Int → Int → Int → Int → Int → Int → Int → Int → Int → Option AV) : Option AV :=
 (cond (decide (x7 ≥ 4294967296))
 (cond (decide ((IntKind.u64.wrap (x8 + x2)) ≥ 4294967296))
 (bnd (IntKind.u64.wrap ((IntKind.u64.wrap (x4 * 4294967296)) + x5)) fun y1 =>
 (bnd (IntKind.u64.wrap (y1 - (IntKind.u64.wrap ((IntKind.u64.wrap (x7 - 1)) * x0)))) fun y2 =>
 (cond (decide (x2 = 0))
 none
 (bnd (IntKind.u64.wrap ((IntKind.u64.wrap (Int.tdiv y2 x2)) * x2)) fun y3 =>
 (j4194296 x0 x1 x2 x3 x6 (IntKind.u64.wrap (x7 - 1)) (IntKind.u64.wrap (y2 - y3)) y2 (IntKind.u64.wrap (Int.tdiv y2 x2)))))))
 (r262136 x0 x1 x2 x3 x4 x5 x6 (IntKind.u64.wrap (x7 - 1)) (IntKind.u64.wrap (x8 + x2))))
 (bnd (IntKind.u64.wrap ((IntKind.u64.wrap (4294967296 * x8)) + x5)) fun y4 =>
 (cond (decide ((IntKind.u64.wrap (x7 * x3)) > y4))
 (cond (decide ((IntKind.u64.wrap (x8 + x2)) ≥ 4294967296))
 (bnd (IntKind.u64.wrap ((IntKind.u64.wrap (x4 * 4294967296)) + x5)) fun y5 =>
 (bnd (IntKind.u64.wrap (y5 - (IntKind.u64.wrap ((IntKind.u64.wrap (x7 - 1)) * x0)))) fun y6 =>
 (cond (decide (x2 = 0))
 none
 (bnd (IntKind.u64.wrap ((IntKind.u64.wrap (Int.tdiv y6 x2)) * x2)) fun y7 =>
 (j4194296 x0 x1 x2 x3 x6 (IntKind.u64.wrap (x7 - 1)) (IntKind.u64.wrap (y6 - y7)) y6 (IntKind.u64.wrap (Int.tdiv y6 x2)))))))
 (r262136 x0 x1 x2 x3 x4 x5 x6 (IntKind.u64.wrap (x7 - 1)) (IntKind.u64.wrap (x8 + x2))))
 (bnd (IntKind.u64.wrap ((IntKind.u64.wrap (x4 * 4294967296)) + x5)) fun y8 =>
 (cond (decide (x2 = 0))
 none
 (bnd (IntKind.u64.wrap (Int.tdiv (IntKind.u64.wrap (y8 - (IntKind.u64.wrap (x7 * x0)))) x2)) fun y9 =>
 (bnd (IntKind.u64.wrap ((IntKind.u64.wrap (y8 - (IntKind.u64.wrap (x7 * x0)))) - (IntKind.u64.wrap (y9 * x2)))) fun y10 =>
 (j4194296 x0 x1 x2 x3 x6 x7 y10 (IntKind.u64.wrap (y8 - (IntKind.u64.wrap (x7 * x0)))) y9))))))))
theorem K_math_bits_Div64_262136 (j : Jump) (n : Nat) (m262136 : Nat) (x0 : Int) (x1 : Int) (x2 : Int) (x3 : Int) (x4 : Int) (x5 : Int) (x6 : Int) (x7 : Int) (x8 : Int) : enter (topEnv C (CP C n) n F_math_bits_Div64) (some j) (bodyOf C.P F_math_bits_Div64) (endOf C.P F_math_bits_Div64) [false, false, false, true, true, true, true, true, true, true, true, true, true, true, true, true, true] [(m262136 + 1)] (S_math_bits_Div64_262136 x0 x1 x2 x3 x4 x5 x6 x7 x8) = T_math_bits_Div64_262136 (CP C n) x0 x1 x2 x3 x4 x5 x6 x7 x8 (fun x0 x1 x2 x3 x4 x5 x6 x7 x8 => j [false, false, false, true, true, true, true, true, true, true, true, true, true, true, true, true, true, true, true, true, true] [(n + 300)] (S_math_bits_Div64_4194296 x0 x1 x2 x3 x4 x5 x6 x7 x8)) (fun x0 x1 x2 x3 x4 x5 x6 x7 x8 => j [false, false, false, true, true, true, true, true, true, true, true, true, true, true, true, true, true] [m262136] (S_math_bits_Div64_262136 x0 x1 x2 x3 x4 x5 x6 x7 x8)) := by kernel_rfl
def J_math_bits_Div64_262136 (cp : FuncId → List AV → Option AV) (n : Nat) : Nat → Int → Int → Int → Int → Int → Int → Int → Int → Int → Option AV
  | 0 => (fun x0 x1 x2 x3 x4 x5 x6 x7 x8 => none)
  | m + 1 => (fun x0 x1 x2 x3 x4 x5 x6 x7 x8 => T_math_bits_Div64_262136 cp x0 x1 x2 x3 x4 x5 x6 x7 x8 (J_math_bits_Div64_4194296 cp n (n + 300)) (J_math_bits_Div64_262136 cp n m))
theorem Js_math_bits_Div64_262136 (cp : FuncId → List AV → Option AV) (n : Nat) (m : Nat) (x0 : Int) (x1 : Int) (x2 : Int) (x3 : Int) (x4 : Int) (x5 : Int) (x6 : Int) (x7 : Int) (x8 : Int) : J_math_bits_Div64_262136 cp n (m + 1) x0 x1 x2 x3 x4 x5 x6 x7 x8 = T_math_bits_Div64_262136 cp x0 x1 x2 x3 x4 x5 x6 x7 x8 (J_math_bits_Div64_4194296 cp n (n + 300)) (J_math_bits_Div64_262136 cp n m) := of_eq_true (eq_self _)
theorem JE_math_bits_Div64_262136 (n : Nat) : ∀ (m : Nat) (x0 : Int) (x1 : Int) (x2 : Int) (x3 : Int) (x4 : Int) (x5 : Int) (x6 : Int) (x7 : Int) (x8 : Int), jT (topEnv C (CP C n) n F_math_bits_Div64) (bodyOf C.P F_math_bits_Div64) (endOf C.P F_math_bits_Div64) [false, false, false, true, true, true, true, true, true, true, true, true, true, true, true, true, true] [m] (S_math_bits_Div64_262136 x0 x1 x2 x3 x4 x5 x6 x7 x8) = J_math_bits_Div64_262136 (CP C n) n m x0 x1 x2 x3 x4 x5 x6 x7 x8
  | 0, x0, x1, x2, x3, x4, x5, x6, x7, x8 => (jT_eq _ _ _ _ _ _).trans (by kernel_rfl)
  | m + 1, x0, x1, x2, x3, x4, x5, x6, x7, x8 => (jT_eq _ _ _ _ _ _).trans ((K_math_bits_Div64_262136 _ n m x0 x1 x2 x3 x4 x5 x6 x7 x8).trans (congr (congrArg (T_math_bits_Div64_262136 (CP C n) x0 x1 x2 x3 x4 x5 x6 x7 x8) (funext fun x0 => (funext fun x1 => (funext fun x2 => (funext fun x3 => (funext fun x4 => (funext fun x5 => (funext fun x6 => (funext fun x7 => (funext fun x8 => (JE_math_bits_Div64_4194296 n (n + 300)) x0 x1 x2 x3 x4 x5 x6 x7 x8)))))))))) (funext fun x0 => (funext fun x1 => (funext fun x2 => (funext fun x3 => (funext fun x4 => (funext fun x5 => (funext fun x6 => (funext fun x7 => (funext fun x8 => (JE_math_bits_Div64_262136 n m) x0 x1 x2 x3 x4 x5 x6 x7 x8)))))))))))
def T_math_bits_Div64_1 (cp : FuncId → List AV → Option AV) (a0 : Int) (a1 : Int) (a2 : Int) (j262136 : Int → Int → Int → Int → Int → Int → Int → Int → Int → Option AV) : Option AV :=
 (cond (a2 == 0)
 none
 (cond (decide (a2 ≤ a0))
 none
 (cond (a0 == 0)
 (cond (decide (a2 = 0))
 none
 (cond (decide (a2 = 0))
 none
 (some (.tup [.int .u64 (IntKind.u64.wrap (Int.tdiv a1 a2)), .int .u64 (Int.tmod a1 a2)]))))
 ((cp F_math_bits_LeadingZeros64 [.int .u64 a2]).bind fun r1 =>
 (AV.intK .i64 r1 fun i2 =>
 (cond (decide ((IntKind.u64.wrap i2) < 0))
 none
 (bnd (IntKind.u64.wrap (a2 * (2 ^ (min (Int.toNat (IntKind.u64.wrap i2)) 64)))) fun y3 =>
 (bnd (IntKind.u64.wrap ((BitVec.ofInt 64 y3 &&& BitVec.ofInt 64 4294967295).toNat : Int)) fun y4 =>
 (cond (decide ((IntKind.u64.wrap i2) < 0))
 none
 (bnd (IntKind.u64.wrap (a0 * (2 ^ (min (Int.toNat (IntKind.u64.wrap i2)) 64)))) fun y5 =>
 (cond (decide ((IntKind.u64.wrap (64 - (IntKind.u64.wrap i2))) < 0))
 none
 (bnd (Int.fdiv a1 (2 ^ (min (Int.toNat (IntKind.u64.wrap (64 - (IntKind.u64.wrap i2)))) 64))) fun y6 =>
 (bnd (IntKind.u64.wrap ((BitVec.ofInt 64 y5 ||| BitVec.ofInt 64 y6).toNat : Int)) fun y7 =>
 (cond (decide ((IntKind.u64.wrap i2) < 0))
 none
 (bnd (IntKind.u64.wrap (a1 * (2 ^ (min (Int.toNat (IntKind.u64.wrap i2)) 64)))) fun y8 =>
 (bnd (IntKind.u64.wrap ((BitVec.ofInt 64 y8 &&& BitVec.ofInt 64 4294967295).toNat : Int)) fun y9 =>
 (cond (decide ((Int.fdiv y3 4294967296) = 0))
 none
 (bnd (IntKind.u64.wrap ((IntKind.u64.wrap (Int.tdiv y7 (Int.fdiv y3 4294967296))) * (Int.fdiv y3 4294967296))) fun y10 =>
 (j262136 y3 (IntKind.u64.wrap i2) (Int.fdiv y3 4294967296) y4 y7 (Int.fdiv y8 4294967296) y9 (IntKind.u64.wrap (Int.tdiv y7 (Int.fdiv y3 4294967296))) (IntKind.u64.wrap (y7 - y10)))))))))))))))))))))
theorem K_math_bits_Div64_1 (j : Jump) (n : Nat) (a0 : Int) (a1 : Int) (a2 : Int) : ex (topEnv C (CP C n) n F_math_bits_Div64) (some j) (bodyOf C.P F_math_bits_Div64) 1 [] [] (endOf C.P F_math_bits_Div64) (startOf C.P F_math_bits_Div64 [.int .u64 a0, .int .u64 a1, .int .u64 a2]) = T_math_bits_Div64_1 (CP C n) a0 a1 a2 (fun x0 x1 x2 x3 x4 x5 x6 x7 x8 => j [false, false, false, true, true, true, true, true, true, true, true, true, true, true, true, true, true] [(n + 300)] (S_math_bits_Div64_262136 x0 x1 x2 x3 x4 x5 x6 x7 x8)) := by kernel_rfl
def R_math_bits_Div64 (cp : FuncId → List AV → Option AV) (n : Nat) (a0 : Int) (a1 : Int) (a2 : Int) : Option AV := T_math_bits_Div64_1 cp a0 a1 a2 (J_math_bits_Div64_262136 cp n (n + 300))
theorem eq_math_bits_Div64 (n : Nat) (a0 : Int) (a1 : Int) (a2 : Int) : CP C (n + 1) F_math_bits_Div64 [.int .u64 a0, .int .u64 a1, .int .u64 a2] = R_math_bits_Div64 (CP C n) n a0 a1 a2 :=
  (CP_pure C n F_math_bits_Div64 _ (by kernel_rfl) (by kernel_rfl)).trans ((K_math_bits_Div64_1 _ n a0 a1 a2).trans (congrArg (T_math_bits_Div64_1 (CP C n) a0 a1 a2) (funext fun x0 => (funext fun x1 => (funext fun x2 => (funext fun x3 => (funext fun x4 => (funext fun x5 => (funext fun x6 => (funext fun x7 => (funext fun x8 => (JE_math_bits_Div64_262136 n (n + 300)) x0 x1 x2 x3 x4 x5 x6 x7 x8)))))))))))
-- wide_Div
def R_wide_Div (cp : FuncId → List AV → Option AV) (_n : Nat) (a0_0 : Int) (a0_1 : Int) (a1 : Int) : Option AV :=
 (cond (a1 == 0)
 (some (.tup [.agg [.int .u64 0, .int .u64 0], .int .u64 0, .int .i64 5]))
 (cond (decide (a1 = 0))
 none
 ((cp F_math_bits_Div64 [.int .u64 (Int.tmod a0_0 a1), .int .u64 a0_1, .int .u64 a1]).bind fun r1 =>
 (AV.tupK r1 fun l2 =>
 (consK l2 fun v3 l4 =>
 (AV.intK .u64 v3 fun i5 =>
 (consK l4 fun v6 l7 =>
 (AV.intK .u64 v6 fun i8 =>
 (nilK l7
 (cond (decide (a1 = 0))
 none
 (some (.tup [.agg [.int .u64 (IntKind.u64.wrap (Int.tdiv a0_0 a1)), .int .u64 i5], .int .u64 i8, .int .i64 0]))))))))))))
theorem eq_wide_Div (n : Nat) (a0_0 : Int) (a0_1 : Int) (a1 : Int) : CP C (n + 1) F_wide_Div [.agg [.int .u64 a0_0, .int .u64 a0_1], .int .u64 a1] = R_wide_Div (CP C n) n a0_0 a0_1 a1 := by kernel_rfl
-- dur_number_dur
def R_dur_number_dur (cp : FuncId → List AV → Option AV) (_n : Nat) (a0_0 : Bool) (a0_1 : Int) (a0_2 : Int) : Option AV :=
 ((cp F_wide_Div [.agg [.int .u64 a0_1, .int .u64 a0_2], .int .u64 1000000000]).bind fun r1 =>
 (AV.tupK r1 fun l2 =>
 (consK l2 fun v3 l4 =>
 (AV.aggK v3 fun l5 =>
 (consK l5 fun v6 l7 =>
 (AV.intK .u64 v6 fun i8 =>
 (consK l7 fun v9 l10 =>
 (AV.intK .u64 v9 fun i11 =>
 (nilK l10
 (consK l4 fun v12 l13 =>
 (AV.intK .u64 v12 fun i14 =>
 (consK l13 fun v15 l16 =>
 (AV.intK .i64 v15 fun i17 =>
 (nilK l16
 (cond (decide (i8 > 0))
 (some (.tup [.agg [.int .i64 0, .int .i64 0], .int .i64 8]))
 (cond (decide (i11 > 1099511627776))
 (some (.tup [.agg [.int .i64 0, .int .i64 0], .int .i64 8]))
 (cond a0_0
 (cond (decide (i14 > 0))
 (bnd (IntKind.i64.wrap ((IntKind.i64.wrap (0 - (IntKind.i64.wrap i11))) - 1)) fun y18 =>
 ((cp F_dur_Check [.agg [.int .i64 y18, .int .i64 (IntKind.i64.wrap (1000000000 - (IntKind.i64.wrap i14)))]]).bind fun r19 =>
 (AV.intK .i64 r19 fun i20 =>
 (cond (i20 != 0)
 (some (.tup [.agg [.int .i64 0, .int .i64 0], .int .i64 i20]))
 (some (.tup [.agg [.int .i64 y18, .int .i64 (IntKind.i64.wrap (1000000000 - (IntKind.i64.wrap i14)))], .int .i64 0]))))))
 ((cp F_dur_Check [.agg [.int .i64 (IntKind.i64.wrap (0 - (IntKind.i64.wrap i11))), .int .i64 (IntKind.i64.wrap i14)]]).bind fun r21 =>
 (AV.intK .i64 r21 fun i22 =>
 (cond (i22 != 0)
 (some (.tup [.agg [.int .i64 0, .int .i64 0], .int .i64 i22]))
 (some (.tup [.agg [.int .i64 (IntKind.i64.wrap (0 - (IntKind.i64.wrap i11))), .int .i64 (IntKind.i64.wrap i14)], .int .i64 0]))))))
 ((cp F_dur_Check [.agg [.int .i64 (IntKind.i64.wrap i11), .int .i64 (IntKind.i64.wrap i14)]]).bind fun r23 =>
 (AV.intK .i64 r23 fun i24 =>
 (cond (i24 != 0)
 (some (.tup [.agg [.int .i64 0, .int .i64 0], .int .i64 i24]))
 (some (.tup [.agg [.int .i64 (IntKind.i64.wrap i11), .int .i64 (IntKind.i64.wrap i14)], .int .i64 0]))))))))))))))))))))))
theorem eq_dur_number_dur (n : Nat) (a0_0 : Bool) (a0_1 : Int) (a0_2 : Int) : CP C (n + 1) F_dur_number_dur [.agg [.bool a0_0, .int .u64 a0_1, .int .u64 a0_2]] = R_dur_number_dur (CP C n) n a0_0 a0_1 a0_2 := by kernel_rfl
-- dur_OfNanos
def R_dur_OfNanos (cp : FuncId → List AV → Option AV) (_n : Nat) (a0_0 : Int) (a0_1 : Int) : Option AV :=
 (cond (decide (a0_0 ≥ 9223372036854775808))
 ((cp F_wide_Neg [.agg [.int .u64 a0_0, .int .u64 a0_1]]).bind fun r1 =>
 (AV.aggK r1 fun l2 =>
 (consK l2 fun v3 l4 =>
 (AV.intK .u64 v3 fun i5 =>
 (consK l4 fun v6 l7 =>
 (AV.intK .u64 v6 fun i8 =>
 (nilK l7
 ((cp F_dur_number_dur [.agg [.bool true, .int .u64 i5, .int .u64 i8]]).bind fun r9 =>
 (AV.tupK r9 fun l10 =>
 (consK l10 fun v11 l12 =>
 (AV.aggK v11 fun l13 =>
 (consK l13 fun v14 l15 =>
 (AV.intK .i64 v14 fun i16 =>
 (consK l15 fun v17 l18 =>
 (AV.intK .i64 v17 fun i19 =>
 (nilK l18
 (consK l12 fun v20 l21 =>
 (AV.intK .i64 v20 fun i22 =>
 (nilK l21
 (some (.tup [.agg [.int .i64 i16, .int .i64 i19], .int .i64 i22])))))))))))))))))))))
 ((cp F_dur_number_dur [.agg [.bool false, .int .u64 a0_0, .int .u64 a0_1]]).bind fun r23 =>
 (AV.tupK r23 fun l24 =>
 (consK l24 fun v25 l26 =>
 (AV.aggK v25 fun l27 =>
 (consK l27 fun v28 l29 =>
 (AV.intK .i64 v28 fun i30 =>
 (consK l29 fun v31 l32 =>
 (AV.intK .i64 v31 fun i33 =>
 (nilK l32
 (consK l26 fun v34 l35 =>
 (AV.intK .i64 v34 fun i36 =>
 (nilK l35
 (some (.tup [.agg [.int .i64 i30, .int .i64 i33], .int .i64 i36])))))))))))))))
theorem eq_dur_OfNanos (n : Nat) (a0_0 : Int) (a0_1 : Int) : CP C (n + 1) F_dur_OfNanos [.agg [.int .u64 a0_0, .int .u64 a0_1]] = R_dur_OfNanos (CP C n) n a0_0 a0_1 := by kernel_rfl
-- dur_New
def R_dur_New (cp : FuncId → List AV → Option AV) (_n : Nat) (a0 : Int) (a1 : Int) : Option AV :=
 ((cp F_wide_Mul [.int .u64 (IntKind.u64.wrap a0), .int .u64 1000000000]).bind fun r1 =>
 (AV.aggK r1 fun l2 =>
 (consK l2 fun v3 l4 =>
 (AV.intK .u64 v3 fun i5 =>
 (consK l4 fun v6 l7 =>
 (AV.intK .u64 v6 fun i8 =>
 (nilK l7
 (cond (decide (a0 < 0))
 ((cp F_wide_Mul [.int .u64 (IntKind.u64.wrap (0 - (IntKind.u64.wrap a0))), .int .u64 1000000000]).bind fun r9 =>
 (AV.aggK r9 fun l10 =>
 (consK l10 fun v11 l12 =>
 (AV.intK .u64 v11 fun i13 =>
 (consK l12 fun v14 l15 =>
 (AV.intK .u64 v14 fun i16 =>
 (nilK l15
 ((cp F_wide_Neg [.agg [.int .u64 i13, .int .u64 i16]]).bind fun r17 =>
 (AV.aggK r17 fun l18 =>
 (consK l18 fun v19 l20 =>
 (AV.intK .u64 v19 fun i21 =>
 (consK l20 fun v22 l23 =>
 (AV.intK .u64 v22 fun i24 =>
 (nilK l23
 ((cp F_wide_Of [.int .i64 a1]).bind fun r25 =>
 (AV.aggK r25 fun l26 =>
 (consK l26 fun v27 l28 =>
 (AV.intK .u64 v27 fun i29 =>
 (consK l28 fun v30 l31 =>
 (AV.intK .u64 v30 fun i32 =>
 (nilK l31
 ((cp F_wide_Add [.agg [.int .u64 i21, .int .u64 i24], .agg [.int .u64 i29, .int .u64 i32]]).bind fun r33 =>
 (AV.tupK r33 fun l34 =>
 (consK l34 fun v35 l36 =>
 (AV.aggK v35 fun l37 =>
 (consK l37 fun v38 l39 =>
 (AV.intK .u64 v38 fun i40 =>
 (consK l39 fun v41 l42 =>
 (AV.intK .u64 v41 fun i43 =>
 (nilK l42
 (consK l36 fun v44 l45 =>
 (AV.boolK v44 fun b46 =>
 (nilK l45
 ((cp F_dur_OfNanos [.agg [.int .u64 i40, .int .u64 i43]]).bind fun r47 =>
 (AV.tupK r47 fun l48 =>
 (consK l48 fun v49 l50 =>
 (AV.aggK v49 fun l51 =>
 (consK l51 fun v52 l53 =>
 (AV.intK .i64 v52 fun i54 =>
 (consK l53 fun v55 l56 =>
 (AV.intK .i64 v55 fun i57 =>
 (nilK l56
 (consK l50 fun v58 l59 =>
 (AV.intK .i64 v58 fun i60 =>
 (nilK l59
 (some (.tup [.agg [.int .i64 i54, .int .i64 i57], .int .i64 i60])))))))))))))))))))))))))))))))))))))))))))))))
 ((cp F_wide_Of [.int .i64 a1]).bind fun r61 =>
 (AV.aggK r61 fun l62 =>
 (consK l62 fun v63 l64 =>
 (AV.intK .u64 v63 fun i65 =>
 (consK l64 fun v66 l67 =>
 (AV.intK .u64 v66 fun i68 =>
 (nilK l67
 ((cp F_wide_Add [.agg [.int .u64 i5, .int .u64 i8], .agg [.int .u64 i65, .int .u64 i68]]).bind fun r69 =>
 (AV.tupK r69 fun l70 =>
 (consK l70 fun v71 l72 =>
 (AV.aggK v71 fun l73 =>
 (consK l73 fun v74 l75 =>
 (AV.intK .u64 v74 fun i76 =>
 (consK l75 fun v77 l78 =>
 (AV.intK .u64 v77 fun i79 =>
 (nilK l78
 (consK l72 fun v80 l81 =>
 (AV.boolK v80 fun b82 =>
 (nilK l81
 ((cp F_dur_OfNanos [.agg [.int .u64 i76, .int .u64 i79]]).bind fun r83 =>
 (AV.tupK r83 fun l84 =>
 (consK l84 fun v85 l86 =>
 (AV.aggK v85 fun l87 =>
 (consK l87 fun v88 l89 =>
 (AV.intK .i64 v88 fun i90 =>
 (consK l89 fun v91 l92 =>
 (AV.intK .i64 v91 fun i93 =>
 (nilK l92
 (consK l86 fun v94 l95 =>
 (AV.intK .i64 v94 fun i96 =>
 (nilK l95
 (some (.tup [.agg [.int .i64 i90, .int .i64 i93], .int .i64 i96])))))))))))))))))))))))))))))))))))))))))
theorem eq_dur_New (n : Nat) (a0 : Int) (a1 : Int) : CP C (n + 1) F_dur_New [.int .i64 a0, .int .i64 a1] = R_dur_New (CP C n) n a0 a1 := by kernel_rfl
-- civiltime_Sub
def R_civiltime_Sub (cp : FuncId → List AV → Option AV) (_n : Nat) (a0_0 : Int) (a0_1 : Int) (a0_2 : Int) (a0_3 : Int) (a0_4 : Int) (a0_5 : Int) (a0_6 : Int) (a1_0 : Int) (a1_1 : Int) (a1_2 : Int) (a1_3 : Int) (a1_4 : Int) (a1_5 : Int) (a1_6 : Int) : Option AV :=
 ((cp F_civiltime_of [.agg [.int .i64 a0_0, .int .i64 a0_1, .int .i64 a0_2, .int .i64 a0_3, .int .i64 a0_4, .int .i64 a0_5, .int .i64 a0_6]]).bind fun r1 =>
 (AV.tupK r1 fun l2 =>
 (consK l2 fun v3 l4 =>
 (AV.aggK v3 fun l5 =>
 (consK l5 fun v6 l7 =>
 (AV.intK .i64 v6 fun i8 =>
 (consK l7 fun v9 l10 =>
 (AV.intK .i64 v9 fun i11 =>
 (nilK l10
 (consK l4 fun v12 l13 =>
 (AV.intK .i64 v12 fun i14 =>
 (nilK l13
 ((cp F_civiltime_of [.agg [.int .i64 a1_0, .int .i64 a1_1, .int .i64 a1_2, .int .i64 a1_3, .int .i64 a1_4, .int .i64 a1_5, .int .i64 a1_6]]).bind fun r15 =>
 (AV.tupK r15 fun l16 =>
 (consK l16 fun v17 l18 =>
 (AV.aggK v17 fun l19 =>
 (consK l19 fun v20 l21 =>
 (AV.intK .i64 v20 fun i22 =>
 (consK l21 fun v23 l24 =>
 (AV.intK .i64 v23 fun i25 =>
 (nilK l24
 (consK l18 fun v26 l27 =>
 (AV.intK .i64 v26 fun i28 =>
 (nilK l27
 (cond (i14 != 0)
 (cond (i28 == 0)
 (some (.tup [.agg [.int .i64 0, .int .i64 0], .int .i64 i14]))
 (cond (decide (i14 < i28))
 (some (.tup [.agg [.int .i64 0, .int .i64 0], .int .i64 i14]))
 (cond (i28 != 0)
 (some (.tup [.agg [.int .i64 0, .int .i64 0], .int .i64 i28]))
 ((cp F_civiltime_day_seconds [.agg [.int .i64 i8]]).bind fun r29 =>
 (AV.intK .i64 r29 fun i30 =>
 ((cp F_civiltime_day_seconds [.agg [.int .i64 i22]]).bind fun r31 =>
 (AV.intK .i64 r31 fun i32 =>
 ((cp F_dur_New [.int .i64 (IntKind.i64.wrap (i30 - i32)), .int .i64 (IntKind.i64.wrap (i11 - i25))]).bind fun r33 =>
 (AV.tupK r33 fun l34 =>
 (consK l34 fun v35 l36 =>
 (AV.aggK v35 fun l37 =>
 (consK l37 fun v38 l39 =>
 (AV.intK .i64 v38 fun i40 =>
 (consK l39 fun v41 l42 =>
 (AV.intK .i64 v41 fun i43 =>
 (nilK l42
 (consK l36 fun v44 l45 =>
 (AV.intK .i64 v44 fun i46 =>
 (nilK l45
 (some (.tup [.agg [.int .i64 i40, .int .i64 i43], .int .i64 i46])))))))))))))))))))))
 (cond (i28 != 0)
 (some (.tup [.agg [.int .i64 0, .int .i64 0], .int .i64 i28]))
 ((cp F_civiltime_day_seconds [.agg [.int .i64 i8]]).bind fun r47 =>
 (AV.intK .i64 r47 fun i48 =>
 ((cp F_civiltime_day_seconds [.agg [.int .i64 i22]]).bind fun r49 =>
 (AV.intK .i64 r49 fun i50 =>
 ((cp F_dur_New [.int .i64 (IntKind.i64.wrap (i48 - i50)), .int .i64 (IntKind.i64.wrap (i11 - i25))]).bind fun r51 =>
 (AV.tupK r51 fun l52 =>
 (consK l52 fun v53 l54 =>
 (AV.aggK v53 fun l55 =>
 (consK l55 fun v56 l57 =>
 (AV.intK .i64 v56 fun i58 =>
 (consK l57 fun v59 l60 =>
 (AV.intK .i64 v59 fun i61 =>
 (nilK l60
 (consK l54 fun v62 l63 =>
 (AV.intK .i64 v62 fun i64 =>
 (nilK l63
 (some (.tup [.agg [.int .i64 i58, .int .i64 i61], .int .i64 i64]))))))))))))))))))))))))))))))))))))))))))))
theorem eq_civiltime_Sub (n : Nat) (a0_0 : Int) (a0_1 : Int) (a0_2 : Int) (a0_3 : Int) (a0_4 : Int) (a0_5 : Int) (a0_6 : Int) (a1_0 : Int) (a1_1 : Int) (a1_2 : Int) (a1_3 : Int) (a1_4 : Int) (a1_5 : Int) (a1_6 : Int) : CP C (n + 1) F_civiltime_Sub [.agg [.int .i64 a0_0, .int .i64 a0_1, .int .i64 a0_2, .int .i64 a0_3, .int .i64 a0_4, .int .i64 a0_5, .int .i64 a0_6], .agg [.int .i64 a1_0, .int .i64 a1_1, .int .i64 a1_2, .int .i64 a1_3, .int .i64 a1_4, .int .i64 a1_5, .int .i64 a1_6]] = R_civiltime_Sub (CP C n) n a0_0 a0_1 a0_2 a0_3 a0_4 a0_5 a0_6 a1_0 a1_1 a1_2 a1_3 a1_4 a1_5 a1_6 := by kernel_rfl
-- ref03_Sub
def S_ref03_Sub_7 (x0 : Int) (x1 : Int) (x2 : Int) (x3 : Int) : St := ⟨[.junk, .junk, .ptr (some (0, 0)), .ptr (some (1, 0)), .ptr (some (2, 0)), .junk, .junk, .junk, .junk, .junk, .junk, .junk, .junk, .junk, .junk, .junk, .junk, .junk, .junk, .junk, .junk, .junk, .junk, .junk, .junk, .junk, .junk, .junk, .junk, .junk, .junk, .junk, .junk, .junk, .junk, .junk, .junk, .junk, .junk, .junk, .junk, .junk, .junk, .junk, .junk], [.cells 72 [.int .i64 x0, .int .i64 x1], .cells 72 [.int .i64 x2, .int .i64 x3], .cells 43 [.int .i64 0, .int .i64 0], .dead, .dead, .dead, .dead, .dead, .dead, .dead]⟩
def T_ref03_Sub_7 (cp : FuncId → List AV → Option AV) (x0 : Int) (x1 : Int) (x2 : Int) (x3 : Int) : Option AV :=
 ((cp F_ref03_Wide [.int .i64 x0, .int .i64 x1]).bind fun r1 =>
 (AV.aggK r1 fun l2 =>
 (consK l2 fun v3 l4 =>
 (AV.intK .u64 v3 fun i5 =>
 (consK l4 fun v6 l7 =>
 (AV.intK .u64 v6 fun i8 =>
 (nilK l7
 ((cp F_ref03_Wide [.int .i64 x2, .int .i64 x3]).bind fun r9 =>
 (AV.aggK r9 fun l10 =>
 (consK l10 fun v11 l12 =>
 (AV.intK .u64 v11 fun i13 =>
 (consK l12 fun v14 l15 =>
 (AV.intK .u64 v14 fun i16 =>
 (nilK l15
 ((cp F_ref01_Sub [.agg [.int .u64 i5, .int .u64 i8], .agg [.int .u64 i13, .int .u64 i16]]).bind fun r17 =>
 (AV.tupK r17 fun l18 =>
 (consK l18 fun v19 l20 =>
 (AV.aggK v19 fun l21 =>
 (consK l21 fun v22 l23 =>
 (AV.intK .u64 v22 fun i24 =>
 (consK l23 fun v25 l26 =>
 (AV.intK .u64 v25 fun i27 =>
 (nilK l26
 (consK l20 fun v28 l29 =>
 (AV.boolK v28 fun b30 =>
 (nilK l29
 ((cp F_ref03_Parts [.agg [.int .u64 i24, .int .u64 i27]]).bind fun r31 =>
 (AV.tupK r31 fun l32 =>
 (consK l32 fun v33 l34 =>
 (AV.intK .i64 v33 fun i35 =>
 (consK l34 fun v36 l37 =>
 (AV.intK .i64 v36 fun i38 =>
 (consK l37 fun v39 l40 =>
 (AV.boolK v39 fun b41 =>
 (nilK l40
 (some (.tup [.agg [.int .i64 i35, .int .i64 i38], .int .i64 0])))))))))))))))))))))))))))))))))))))
theorem K_ref03_Sub_7 (j : Jump) (n : Nat) (x0 : Int) (x1 : Int) (x2 : Int) (x3 : Int) : enter (topEnv C (CP C n) n F_ref03_Sub) (some j) (bodyOf C.P F_ref03_Sub) (endOf C.P F_ref03_Sub) [true, true] [] (S_ref03_Sub_7 x0 x1 x2 x3) = T_ref03_Sub_7 (CP C n) x0 x1 x2 x3 := by kernel_rfl
def J_ref03_Sub_7 (cp : FuncId → List AV → Option AV) (n : Nat) (x0 : Int) (x1 : Int) (x2 : Int) (x3 : Int) : Option AV := T_ref03_Sub_7 cp x0 x1 x2 x3
theorem JE_ref03_Sub_7 (n : Nat) (x0 : Int) (x1 : Int) (x2 : Int) (x3 : Int) : jT (topEnv C (CP C n) n F_ref03_Sub) (bodyOf C.P F_ref03_Sub) (endOf C.P F_ref03_Sub) [true, true] [] (S_ref03_Sub_7 x0 x1 x2 x3) = J_ref03_Sub_7 (CP C n) n x0 x1 x2 x3 :=
  (jT_eq _ _ _ _ _ _).trans ((K_ref03_Sub_7 _ n x0 x1 x2 x3).trans (rfl))
def T_ref03_Sub_1 (cp : FuncId → List AV → Option AV) (a0_0 : Int) (a0_1 : Int) (a1_0 : Int) (a1_1 : Int) (j7 : Int → Int → Int → Int → Option AV) : Option AV :=
 ((cp F_ref03_Check [.agg [.int .i64 a0_0, .int .i64 a0_1]]).bind fun r1 =>
 (AV.intK .i64 r1 fun i2 =>
 ((cp F_ref03_Check [.agg [.int .i64 a1_0, .int .i64 a1_1]]).bind fun r3 =>
 (AV.intK .i64 r3 fun i4 =>
 (cond (i2 != 0)
 (cond (i4 != 0)
 (cond (i2 == 0)
 (cond (i4 != 0)
 (some (.tup [.agg [.int .i64 0, .int .i64 0], .int .i64 i4]))
 (j7 a0_0 a0_1 a1_0 a1_1))
 (cond (decide (i4 < i2))
 (cond (i4 != 0)
 (some (.tup [.agg [.int .i64 0, .int .i64 0], .int .i64 i4]))
 (j7 a0_0 a0_1 a1_0 a1_1))
 (cond (i2 != 0)
 (some (.tup [.agg [.int .i64 0, .int .i64 0], .int .i64 i2]))
 (j7 a0_0 a0_1 a1_0 a1_1))))
 (cond (i2 != 0)
 (some (.tup [.agg [.int .i64 0, .int .i64 0], .int .i64 i2]))
 (j7 a0_0 a0_1 a1_0 a1_1)))
 (cond (i4 != 0)
 (cond (i4 != 0)
 (some (.tup [.agg [.int .i64 0, .int .i64 0], .int .i64 i4]))
 (j7 a0_0 a0_1 a1_0 a1_1))
 (j7 a0_0 a0_1 a1_0 a1_1)))))))
theorem K_ref03_Sub_1 (j : Jump) (n : Nat) (a0_0 : Int) (a0_1 : Int) (a1_0 : Int) (a1_1 : Int) : ex (topEnv C (CP C n) n F_ref03_Sub) (some j) (bodyOf C.P F_ref03_Sub) 1 [] [] (endOf C.P F_ref03_Sub) (startOf C.P F_ref03_Sub [.agg [.int .i64 a0_0, .int .i64 a0_1], .agg [.int .i64 a1_0, .int .i64 a1_1]]) = T_ref03_Sub_1 (CP C n) a0_0 a0_1 a1_0 a1_1 (fun x0 x1 x2 x3 => j [true, true] [] (S_ref03_Sub_7 x0 x1 x2 x3)) := by kernel_rfl
def R_ref03_Sub (cp : FuncId → List AV → Option AV) (n : Nat) (a0_0 : Int) (a0_1 : Int) (a1_0 : Int) (a1_1 : Int) : Option AV := T_ref03_Sub_1 cp a0_0 a0_1 a1_0 a1_1 (J_ref03_Sub_7 cp n)
theorem eq_ref03_Sub (n : Nat) (a0_0 : Int) (a0_1 : Int) (a1_0 : Int) (a1_1 : Int) : CP C (n + 1) F_ref03_Sub [.agg [.int .i64 a0_0, .int .i64 a0_1], .agg [.int .i64 a1_0, .int .i64 a1_1]] = R_ref03_Sub (CP C n) n a0_0 a0_1 a1_0 a1_1 :=
  (CP_pure C n F_ref03_Sub _ (by kernel_rfl) (by kernel_rfl)).trans ((K_ref03_Sub_1 _ n a0_0 a0_1 a1_0 a1_1).trans (congrArg (T_ref03_Sub_1 (CP C n) a0_0 a0_1 a1_0 a1_1) (funext fun x0 => (funext fun x1 => (funext fun x2 => (funext fun x3 => (JE_ref03_Sub_7 n) x0 x1 x2 x3))))))
-- ref09_Sub
def S_ref09_Sub_7 (x0 : Int) (x1 : Int) (x2 : Int) (x3 : Int) (x4 : Int) (x5 : Int) (x6 : Int) (x7 : Int) (x8 : Int) (x9 : Int) (x10 : Int) (x11 : Int) (x12 : Int) (x13 : Int) : St := ⟨[.junk, .junk, .ptr (some (0, 0)), .ptr (some (1, 0)), .ptr (some (2, 0)), .junk, .junk, .junk, .junk, .junk, .junk, .junk, .junk, .junk, .junk, .junk, .junk, .junk, .junk, .junk, .junk, .junk, .junk, .junk], [.cells 27 [.int .i64 x0, .int .i64 x1, .int .i64 x2, .int .i64 x3, .int .i64 x4, .int .i64 x5, .int .i64 x6], .cells 27 [.int .i64 x7, .int .i64 x8, .int .i64 x9, .int .i64 x10, .int .i64 x11, .int .i64 x12, .int .i64 x13], .cells 43 [.int .i64 0, .int .i64 0], .dead, .dead, .dead, .dead, .dead, .dead, .dead]⟩
def T_ref09_Sub_7 (cp : FuncId → List AV → Option AV) (x0 : Int) (x1 : Int) (x2 : Int) (x3 : Int) (x4 : Int) (x5 : Int) (x6 : Int) (x7 : Int) (x8 : Int) (x9 : Int) (x10 : Int) (x11 : Int) (x12 : Int) (x13 : Int) : Option AV :=
 ((cp F_ref09_instant [.agg [.int .i64 x0, .int .i64 x1, .int .i64 x2, .int .i64 x3, .int .i64 x4, .int .i64 x5, .int .i64 x6]]).bind fun r1 =>
 (AV.aggK r1 fun l2 =>
 (consK l2 fun v3 l4 =>
 (AV.intK .i64 v3 fun i5 =>
 (consK l4 fun v6 l7 =>
 (AV.intK .i64 v6 fun i8 =>
 (nilK l7
 ((cp F_ref09_instant [.agg [.int .i64 x7, .int .i64 x8, .int .i64 x9, .int .i64 x10, .int .i64 x11, .int .i64 x12, .int .i64 x13]]).bind fun r9 =>
 (AV.aggK r9 fun l10 =>
 (consK l10 fun v11 l12 =>
 (AV.intK .i64 v11 fun i13 =>
 (consK l12 fun v14 l15 =>
 (AV.intK .i64 v14 fun i16 =>
 (nilK l15
 ((cp F_ref03_Sub [.agg [.int .i64 i5, .int .i64 i8], .agg [.int .i64 i13, .int .i64 i16]]).bind fun r17 =>
 (AV.tupK r17 fun l18 =>
 (consK l18 fun v19 l20 =>
 (AV.aggK v19 fun l21 =>
 (consK l21 fun v22 l23 =>
 (AV.intK .i64 v22 fun i24 =>
 (consK l23 fun v25 l26 =>
 (AV.intK .i64 v25 fun i27 =>
 (nilK l26
 (consK l20 fun v28 l29 =>
 (AV.intK .i64 v28 fun i30 =>
 (nilK l29
 (some (.tup [.agg [.int .i64 i24, .int .i64 i27], .int .i64 i30]))))))))))))))))))))))))))))
theorem K_ref09_Sub_7 (j : Jump) (n : Nat) (x0 : Int) (x1 : Int) (x2 : Int) (x3 : Int) (x4 : Int) (x5 : Int) (x6 : Int) (x7 : Int) (x8 : Int) (x9 : Int) (x10 : Int) (x11 : Int) (x12 : Int) (x13 : Int) : enter (topEnv C (CP C n) n F_ref09_Sub) (some j) (bodyOf C.P F_ref09_Sub) (endOf C.P F_ref09_Sub) [true, true] [] (S_ref09_Sub_7 x0 x1 x2 x3 x4 x5 x6 x7 x8 x9 x10 x11 x12 x13) = T_ref09_Sub_7 (CP C n) x0 x1 x2 x3 x4 x5 x6 x7 x8 x9 x10 x11 x12 x13 := by kernel_rfl
def J_ref09_Sub_7 (cp : FuncId → List AV → Option AV) (n : Nat) (x0 : Int) (x1 : Int) (x2 : Int) (x3 : Int) (x4 : Int) (x5 : Int) (x6 : Int) (x7 : Int) (x8 : Int) (x9 : Int) (x10 : Int) (x11 : Int) (x12 : Int) (x13 : Int) : Option AV := T_ref09_Sub_7 cp x0 x1 x2 x3 x4 x5 x6 x7 x8 x9 x10 x11 x12 x13
theorem JE_ref09_Sub_7 (n : Nat) (x0 : Int) (x1 : Int) (x2 : Int) (x3 : Int) (x4 : Int) (x5 : Int) (x6 : Int) (x7 : Int) (x8 : Int) (x9 : Int) (x10 : Int) (x11 : Int) (x12 : Int) (x13 : Int) : jT (topEnv C (CP C n) n F_ref09_Sub) (bodyOf C.P F_ref09_Sub) (endOf C.P F_ref09_Sub) [true, true] [] (S_ref09_Sub_7 x0 x1 x2 x3 x4 x5 x6 x7 x8 x9 x10 x11 x12 x13) = J_ref09_Sub_7 (CP C n) n x0 x1 x2 x3 x4 x5 x6 x7 x8 x9 x10 x11 x12 x13 :=
  (jT_eq _ _ _ _ _ _).trans ((K_ref09_Sub_7 _ n x0 x1 x2 x3 x4 x5 x6 x7 x8 x9 x10 x11 x12 x13).trans (rfl))
def T_ref09_Sub_1 (cp : FuncId → List AV → Option AV) (a0_0 : Int) (a0_1 : Int) (a0_2 : Int) (a0_3 : Int) (a0_4 : Int) (a0_5 : Int) (a0_6 : Int) (a1_0 : Int) (a1_1 : Int) (a1_2 : Int) (a1_3 : Int) (a1_4 : Int) (a1_5 : Int) (a1_6 : Int) (j7 : Int → Int → Int → Int → Int → Int → Int → Int → Int → Int → Int → Int → Int → Int → Option AV) : Option AV :=
 ((cp F_ref09_Check [.agg [.int .i64 a0_0, .int .i64 a0_1, .int .i64 a0_2, .int .i64 a0_3, .int .i64 a0_4, .int .i64 a0_5, .int .i64 a0_6]]).bind fun r1 =>
 (AV.intK .i64 r1 fun i2 =>
 ((cp F_ref09_Check [.agg [.int .i64 a1_0, .int .i64 a1_1, .int .i64 a1_2, .int .i64 a1_3, .int .i64 a1_4, .int .i64 a1_5, .int .i64 a1_6]]).bind fun r3 =>
 (AV.intK .i64 r3 fun i4 =>
 (cond (i2 != 0)
 (cond (i4 != 0)
 (cond (i2 == 0)
 (cond (i4 != 0)
 (some (.tup [.agg [.int .i64 0, .int .i64 0], .int .i64 i4]))
 (j7 a0_0 a0_1 a0_2 a0_3 a0_4 a0_5 a0_6 a1_0 a1_1 a1_2 a1_3 a1_4 a1_5 a1_6))
 (cond (decide (i4 < i2))
 (cond (i4 != 0)
 (some (.tup [.agg [.int .i64 0, .int .i64 0], .int .i64 i4]))
 (j7 a0_0 a0_1 a0_2 a0_3 a0_4 a0_5 a0_6 a1_0 a1_1 a1_2 a1_3 a1_4 a1_5 a1_6))
 (cond (i2 != 0)
 (some (.tup [.agg [.int .i64 0, .int .i64 0], .int .i64 i2]))
 (j7 a0_0 a0_1 a0_2 a0_3 a0_4 a0_5 a0_6 a1_0 a1_1 a1_2 a1_3 a1_4 a1_5 a1_6))))
 (cond (i2 != 0)
 (some (.tup [.agg [.int .i64 0, .int .i64 0], .int .i64 i2]))
 (j7 a0_0 a0_1 a0_2 a0_3 a0_4 a0_5 a0_6 a1_0 a1_1 a1_2 a1_3 a1_4 a1_5 a1_6)))
 (cond (i4 != 0)
 (cond (i4 != 0)
 (some (.tup [.agg [.int .i64 0, .int .i64 0], .int .i64 i4]))
 (j7 a0_0 a0_1 a0_2 a0_3 a0_4 a0_5 a0_6 a1_0 a1_1 a1_2 a1_3 a1_4 a1_5 a1_6))
 (j7 a0_0 a0_1 a0_2 a0_3 a0_4 a0_5 a0_6 a1_0 a1_1 a1_2 a1_3 a1_4 a1_5 a1_6)))))))
theorem K_ref09_Sub_1 (j : Jump) (n : Nat) (a0_0 : Int) (a0_1 : Int) (a0_2 : Int) (a0_3 : Int) (a0_4 : Int) (a0_5 : Int) (a0_6 : Int) (a1_0 : Int) (a1_1 : Int) (a1_2 : Int) (a1_3 : Int) (a1_4 : Int) (a1_5 : Int) (a1_6 : Int) : ex (topEnv C (CP C n) n F_ref09_Sub) (some j) (bodyOf C.P F_ref09_Sub) 1 [] [] (endOf C.P F_ref09_Sub) (startOf C.P F_ref09_Sub [.agg [.int .i64 a0_0, .int .i64 a0_1, .int .i64 a0_2, .int .i64 a0_3, .int .i64 a0_4, .int .i64 a0_5, .int .i64 a0_6], .agg [.int .i64 a1_0, .int .i64 a1_1, .int .i64 a1_2, .int .i64 a1_3, .int .i64 a1_4, .int .i64 a1_5, .int .i64 a1_6]]) = T_ref09_Sub_1 (CP C n) a0_0 a0_1 a0_2 a0_3 a0_4 a0_5 a0_6 a1_0 a1_1 a1_2 a1_3 a1_4 a1_5 a1_6 (fun x0 x1 x2 x3 x4 x5 x6 x7 x8 x9 x10 x11 x12 x13 => j [true, true] [] (S_ref09_Sub_7 x0 x1 x2 x3 x4 x5 x6 x7 x8 x9 x10 x11 x12 x13)) := by kernel_rfl
def R_ref09_Sub (cp : FuncId → List AV → Option AV) (n : Nat) (a0_0 : Int) (a0_1 : Int) (a0_2 : Int) (a0_3 : Int) (a0_4 : Int) (a0_5 : Int) (a0_6 : Int) (a1_0 : Int) (a1_1 : Int) (a1_2 : Int) (a1_3 : Int) (a1_4 : Int) (a1_5 : Int) (a1_6 : Int) : Option AV := T_ref09_Sub_1 cp a0_0 a0_1 a0_2 a0_3 a0_4 a0_5 a0_6 a1_0 a1_1 a1_2 a1_3 a1_4 a1_5 a1_6 (J_ref09_Sub_7 cp n)
theorem eq_ref09_Sub (n : Nat) (a0_0 : Int) (a0_1 : Int) (a0_2 : Int) (a0_3 : Int) (a0_4 : Int) (a0_5 : Int) (a0_6 : Int) (a1_0 : Int) (a1_1 : Int) (a1_2 : Int) (a1_3 : Int) (a1_4 : Int) (a1_5 : Int) (a1_6 : Int) : CP C (n + 1) F_ref09_Sub [.agg [.int .i64 a0_0, .int .i64 a0_1, .int .i64 a0_2, .int .i64 a0_3, .int .i64 a0_4, .int .i64 a0_5, .int .i64 a0_6], .agg [.int .i64 a1_0, .int .i64 a1_1, .int .i64 a1_2, .int .i64 a1_3, .int .i64 a1_4, .int .i64 a1_5, .int .i64 a1_6]] = R_ref09_Sub (CP C n) n a0_0 a0_1 a0_2 a0_3 a0_4 a0_5 a0_6 a1_0 a1_1 a1_2 a1_3 a1_4 a1_5 a1_6 :=
  (CP_pure C n F_ref09_Sub _ (by kernel_rfl) (by kernel_rfl)).trans ((K_ref09_Sub_1 _ n a0_0 a0_1 a0_2 a0_3 a0_4 a0_5 a0_6 a1_0 a1_1 a1_2 a1_3 a1_4 a1_5 a1_6).trans (congrArg (T_ref09_Sub_1 (CP C n) a0_0 a0_1 a0_2 a0_3 a0_4 a0_5 a0_6 a1_0 a1_1 a1_2 a1_3 a1_4 a1_5 a1_6) (funext fun x0 => (funext fun x1 => (funext fun x2 => (funext fun x3 => (funext fun x4 => (funext fun x5 => (funext fun x6 => (funext fun x7 => (funext fun x8 => (funext fun x9 => (funext fun x10 => (funext fun x11 => (funext fun x12 => (funext fun x13 => (JE_ref09_Sub_7 n) x0 x1 x2 x3 x4 x5 x6 x7 x8 x9 x10 x11 x12 x13))))))))))))))))
-- cmp_isNaN_int
def R_cmp_isNaN_int (cp : FuncId → List AV → Option AV) (_n : Nat) (a0 : Int) : Option AV :=
 (some (.bool (a0 != a0)))
theorem eq_cmp_isNaN_int (n : Nat) (a0 : Int) : CP C (n + 1) F_cmp_isNaN_int [.int .i64 a0] = R_cmp_isNaN_int (CP C n) n a0 := by kernel_rfl
-- cmp_Compare_int
def R_cmp_Compare_int (cp : FuncId → List AV → Option AV) (_n : Nat) (a0 : Int) (a1 : Int) : Option AV :=
 ((cp F_cmp_isNaN_int [.int .i64 a0]).bind fun r1 =>
 (AV.boolK r1 fun b2 =>
 ((cp F_cmp_isNaN_int [.int .i64 a1]).bind fun r3 =>
 (AV.boolK r3 fun b4 =>
 (cond b2
 (cond b4
 (some (.int .i64 0))
 (some (.int .i64 (-1))))
 (cond b4
 (some (.int .i64 1))
 (cond (decide (a0 < a1))
 (some (.int .i64 (-1)))
 (cond (decide (a0 > a1))
 (some (.int .i64 1))
 (some (.int .i64 0))))))))))
theorem eq_cmp_Compare_int (n : Nat) (a0 : Int) (a1 : Int) : CP C (n + 1) F_cmp_Compare_int [.int .i64 a0, .int .i64 a1] = R_cmp_Compare_int (CP C n) n a0 a1 := by kernel_rfl
-- civil_Cmp
def R_civil_Cmp (cp : FuncId → List AV → Option AV) (_n : Nat) (a0_0 : Int) (a0_1 : Int) (a0_2 : Int) (a1_0 : Int) (a1_1 : Int) (a1_2 : Int) : Option AV :=
 ((cp F_cmp_Compare_int [.int .i64 a0_0, .int .i64 a1_0]).bind fun r1 =>
 (AV.intK .i64 r1 fun i2 =>
 ((cp F_cmp_Compare_int [.int .i64 a0_1, .int .i64 a1_1]).bind fun r3 =>
 (AV.intK .i64 r3 fun i4 =>
 ((cp F_cmp_Compare_int [.int .i64 a0_2, .int .i64 a1_2]).bind fun r5 =>
 (AV.intK .i64 r5 fun i6 =>
 (cond (i2 != 0)
 (some (.int .i64 i2))
 (cond (i4 != 0)
 (some (.int .i64 i4))
 (cond (i6 != 0)
 (some (.int .i64 i6))
 (some (.int .i64 0)))))))))))
theorem eq_civil_Cmp (n : Nat) (a0_0 : Int) (a0_1 : Int) (a0_2 : Int) (a1_0 : Int) (a1_1 : Int) (a1_2 : Int) : CP C (n + 1) F_civil_Cmp [.agg [.int .i64 a0_0, .int .i64 a0_1, .int .i64 a0_2], .agg [.int .i64 a1_0, .int .i64 a1_1, .int .i64 a1_2]] = R_civil_Cmp (CP C n) n a0_0 a0_1 a0_2 a1_0 a1_1 a1_2 := by kernel_rfl
-- civiltime_Cmp
def R_civiltime_Cmp (cp : FuncId → List AV → Option AV) (_n : Nat) (a0_0 : Int) (a0_1 : Int) (a0_2 : Int) (a0_3 : Int) (a0_4 : Int) (a0_5 : Int) (a0_6 : Int) (a1_0 : Int) (a1_1 : Int) (a1_2 : Int) (a1_3 : Int) (a1_4 : Int) (a1_5 : Int) (a1_6 : Int) : Option AV :=
 ((cp F_civil_Cmp [.agg [.int .i64 a0_0, .int .i64 a0_1, .int .i64 a0_2], .agg [.int .i64 a1_0, .int .i64 a1_1, .int .i64 a1_2]]).bind fun r1 =>
 (AV.intK .i64 r1 fun i2 =>
 ((cp F_cmp_Compare_int [.int .i64 a0_3, .int .i64 a1_3]).bind fun r3 =>
 (AV.intK .i64 r3 fun i4 =>
 ((cp F_cmp_Compare_int [.int .i64 a0_4, .int .i64 a1_4]).bind fun r5 =>
 (AV.intK .i64 r5 fun i6 =>
 ((cp F_cmp_Compare_int [.int .i64 a0_5, .int .i64 a1_5]).bind fun r7 =>
 (AV.intK .i64 r7 fun i8 =>
 ((cp F_cmp_Compare_int [.int .i64 a0_6, .int .i64 a1_6]).bind fun r9 =>
 (AV.intK .i64 r9 fun i10 =>
 (cond (i2 != 0)
 (some (.int .i64 i2))
 (cond (i4 != 0)
 (some (.int .i64 i4))
 (cond (i6 != 0)
 (some (.int .i64 i6))
 (cond (i8 != 0)
 (some (.int .i64 i8))
 (cond (i10 != 0)
 (some (.int .i64 i10))
 (some (.int .i64 0)))))))))))))))))
theorem eq_civiltime_Cmp (n : Nat) (a0_0 : Int) (a0_1 : Int) (a0_2 : Int) (a0_3 : Int) (a0_4 : Int) (a0_5 : Int) (a0_6 : Int) (a1_0 : Int) (a1_1 : Int) (a1_2 : Int) (a1_3 : Int) (a1_4 : Int) (a1_5 : Int) (a1_6 : Int) : CP C (n + 1) F_civiltime_Cmp [.agg [.int .i64 a0_0, .int .i64 a0_1, .int .i64 a0_2, .int .i64 a0_3, .int .i64 a0_4, .int .i64 a0_5, .int .i64 a0_6], .agg [.int .i64 a1_0, .int .i64 a1_1, .int .i64 a1_2, .int .i64 a1_3, .int .i64 a1_4, .int .i64 a1_5, .int .i64 a1_6]] = R_civiltime_Cmp (CP C n) n a0_0 a0_1 a0_2 a0_3 a0_4 a0_5 a0_6 a1_0 a1_1 a1_2 a1_3 a1_4 a1_5 a1_6 := by kernel_rfl
-- ref06_Cmp
def R_ref06_Cmp (cp : FuncId → List AV → Option AV) (_n : Nat) (a0_0 : Int) (a0_1 : Int) (a0_2 : Int) (a1_0 : Int) (a1_1 : Int) (a1_2 : Int) : Option AV :=
 (cond (decide (a0_0 < a1_0))
 (some (.int .i64 (-1)))
 (cond (decide (a0_0 > a1_0))
 (some (.int .i64 1))
 (cond (decide (a0_1 < a1_1))
 (some (.int .i64 (-1)))
 (cond (decide (a0_1 > a1_1))
 (some (.int .i64 1))
 (cond (decide (a0_2 < a1_2))
 (some (.int .i64 (-1)))
 (cond (decide (a0_2 > a1_2))
 (some (.int .i64 1))
 (some (.int .i64 0))))))))
theorem eq_ref06_Cmp (n : Nat) (a0_0 : Int) (a0_1 : Int) (a0_2 : Int) (a1_0 : Int) (a1_1 : Int) (a1_2 : Int) : CP C (n + 1) F_ref06_Cmp [.agg [.int .i64 a0_0, .int .i64 a0_1, .int .i64 a0_2], .agg [.int .i64 a1_0, .int .i64 a1_1, .int .i64 a1_2]] = R_ref06_Cmp (CP C n) n a0_0 a0_1 a0_2 a1_0 a1_1 a1_2 := by kernel_rfl
-- ref03_order
def R_ref03_order (cp : FuncId → List AV → Option AV) (_n : Nat) (a0 : Int) (a1 : Int) : Option AV :=
 (cond (decide (a0 < a1))
 (some (.int .i64 (-1)))
 (cond (decide (a0 > a1))
 (some (.int .i64 1))
 (some (.int .i64 0))))
theorem eq_ref03_order (n : Nat) (a0 : Int) (a1 : Int) : CP C (n + 1) F_ref03_order [.int .i64 a0, .int .i64 a1] = R_ref03_order (CP C n) n a0 a1 := by kernel_rfl
-- ref03_Cmp
def R_ref03_Cmp (cp : FuncId → List AV → Option AV) (_n : Nat) (a0_0 : Int) (a0_1 : Int) (a1_0 : Int) (a1_1 : Int) : Option AV :=
 (cond (a0_0 != a1_0)
 ((cp F_ref03_order [.int .i64 a0_0, .int .i64 a1_0]).bind fun r1 =>
 (AV.intK .i64 r1 fun i2 =>
 (some (.int .i64 i2))))
 ((cp F_ref03_order [.int .i64 a0_1, .int .i64 a1_1]).bind fun r3 =>
 (AV.intK .i64 r3 fun i4 =>
 (some (.int .i64 i4)))))
theorem eq_ref03_Cmp (n : Nat) (a0_0 : Int) (a0_1 : Int) (a1_0 : Int) (a1_1 : Int) : CP C (n + 1) F_ref03_Cmp [.agg [.int .i64 a0_0, .int .i64 a0_1], .agg [.int .i64 a1_0, .int .i64 a1_1]] = R_ref03_Cmp (CP C n) n a0_0 a0_1 a1_0 a1_1 := by kernel_rfl
-- ref09_Cmp
def R_ref09_Cmp (cp : FuncId → List AV → Option AV) (_n : Nat) (a0_0 : Int) (a0_1 : Int) (a0_2 : Int) (a0_3 : Int) (a0_4 : Int) (a0_5 : Int) (a0_6 : Int) (a1_0 : Int) (a1_1 : Int) (a1_2 : Int) (a1_3 : Int) (a1_4 : Int) (a1_5 : Int) (a1_6 : Int) : Option AV :=
 ((cp F_ref06_Cmp [.agg [.int .i64 a0_0, .int .i64 a0_1, .int .i64 a0_2], .agg [.int .i64 a1_0, .int .i64 a1_1, .int .i64 a1_2]]).bind fun r1 =>
 (AV.intK .i64 r1 fun i2 =>
 (cond (i2 != 0)
 (some (.int .i64 i2))
 ((cp F_ref03_Cmp [.agg [.int .i64 a0_3, .int .i64 a0_4], .agg [.int .i64 a1_3, .int .i64 a1_4]]).bind fun r3 =>
 (AV.intK .i64 r3 fun i4 =>
 (cond (i4 != 0)
 (some (.int .i64 i4))
 ((cp F_ref03_Cmp [.agg [.int .i64 a0_5, .int .i64 a0_6], .agg [.int .i64 a1_5, .int .i64 a1_6]]).bind fun r5 =>
 (AV.intK .i64 r5 fun i6 =>
 (some (.int .i64 i6))))))))))
theorem eq_ref09_Cmp (n : Nat) (a0_0 : Int) (a0_1 : Int) (a0_2 : Int) (a0_3 : Int) (a0_4 : Int) (a0_5 : Int) (a0_6 : Int) (a1_0 : Int) (a1_1 : Int) (a1_2 : Int) (a1_3 : Int) (a1_4 : Int) (a1_5 : Int) (a1_6 : Int) : CP C (n + 1) F_ref09_Cmp [.agg [.int .i64 a0_0, .int .i64 a0_1, .int .i64 a0_2, .int .i64 a0_3, .int .i64 a0_4, .int .i64 a0_5, .int .i64 a0_6], .agg [.int .i64 a1_0, .int .i64 a1_1, .int .i64 a1_2, .int .i64 a1_3, .int .i64 a1_4, .int .i64 a1_5, .int .i64 a1_6]] = R_ref09_Cmp (CP C n) n a0_0 a0_1 a0_2 a0_3 a0_4 a0_5 a0_6 a1_0 a1_1 a1_2 a1_3 a1_4 a1_5 a1_6 := by kernel_rfl
-- law09_CiviltimeSums
def S_law09_CiviltimeSums_127 (b0 : Bool) : St := ⟨[.junk, .junk, .junk, .junk, .junk, .junk, .bool b0, .junk, .junk, .junk, .junk, .junk, .junk, .junk, .junk, .junk, .junk, .junk, .junk, .junk, .junk, .junk, .junk, .junk, .junk, .junk, .junk, .junk, .junk, .junk, .junk, .junk, .junk, .junk, .junk, .junk, .junk, .junk, .junk, .junk, .junk, .junk, .junk, .junk, .junk, .junk, .junk, .junk, .junk, .junk, .junk, .junk, .junk, .junk, .junk, .junk, .junk, .junk, .junk, .junk, .junk, .junk, .junk, .junk, .junk, .junk, .junk, .junk, .junk], [.dead, .dead, .dead, .dead, .dead, .dead, .dead]⟩
def T_law09_CiviltimeSums_127 (cp : FuncId → List AV → Option AV) (b0 : Bool) : Option AV :=
 (some (.bool b0))
theorem K_law09_CiviltimeSums_127 (j : Jump) (n : Nat) (b0 : Bool) : enter (topEnv C (CP C n) n F_law09_CiviltimeSums) (some j) (bodyOf C.P F_law09_CiviltimeSums) (endOf C.P F_law09_CiviltimeSums) [true, true, true, true, true, true] [] (S_law09_CiviltimeSums_127 b0) = T_law09_CiviltimeSums_127 (CP C n) b0 := by kernel_rfl
def J_law09_CiviltimeSums_127 (cp : FuncId → List AV → Option AV) (n : Nat) (b0 : Bool) : Option AV := T_law09_CiviltimeSums_127 cp b0
theorem JE_law09_CiviltimeSums_127 (n : Nat) (b0 : Bool) : jT (topEnv C (CP C n) n F_law09_CiviltimeSums) (bodyOf C.P F_law09_CiviltimeSums) (endOf C.P F_law09_CiviltimeSums) [true, true, true, true, true, true] [] (S_law09_CiviltimeSums_127 b0) = J_law09_CiviltimeSums_127 (CP C n) n b0 :=
  (jT_eq _ _ _ _ _ _).trans ((K_law09_CiviltimeSums_127 _ n b0).trans (rfl))
def T_law09_CiviltimeSums_1 (cp : FuncId → List AV → Option AV) (a0_0 : Int) (a0_1 : Int) (a0_2 : Int) (a0_3 : Int) (a0_4 : Int) (a0_5 : Int) (a0_6 : Int) (a1_0 : Int) (a1_1 : Int) (a1_2 : Int) (a1_3 : Int) (a1_4 : Int) (a1_5 : Int) (a1_6 : Int) (a2_0 : Int) (a2_1 : Int) (j127 : Bool → Option AV) : Option AV :=
 ((cp F_civiltime_Add [.agg [.int .i64 a0_0, .int .i64 a0_1, .int .i64 a0_2, .int .i64 a0_3, .int .i64 a0_4, .int .i64 a0_5, .int .i64 a0_6], .agg [.int .i64 a2_0, .int .i64 a2_1]]).bind fun r1 =>
 (AV.tupK r1 fun l2 =>
 (consK l2 fun v3 l4 =>
 (AV.aggK v3 fun l5 =>
 (consK l5 fun v6 l7 =>
 (AV.intK .i64 v6 fun i8 =>
 (consK l7 fun v9 l10 =>
 (AV.intK .i64 v9 fun i11 =>
 (consK l10 fun v12 l13 =>
 (AV.intK .i64 v12 fun i14 =>
 (consK l13 fun v15 l16 =>
 (AV.intK .i64 v15 fun i17 =>
 (consK l16 fun v18 l19 =>
 (AV.intK .i64 v18 fun i20 =>
 (consK l19 fun v21 l22 =>
 (AV.intK .i64 v21 fun i23 =>
 (consK l22 fun v24 l25 =>
 (AV.intK .i64 v24 fun i26 =>
 (nilK l25
 (consK l4 fun v27 l28 =>
 (AV.intK .i64 v27 fun i29 =>
 (nilK l28
 ((cp F_ref09_Add [.agg [.int .i64 a0_0, .int .i64 a0_1, .int .i64 a0_2, .int .i64 a0_3, .int .i64 a0_4, .int .i64 a0_5, .int .i64 a0_6], .agg [.int .i64 a2_0, .int .i64 a2_1]]).bind fun r30 =>
 (AV.tupK r30 fun l31 =>
 (consK l31 fun v32 l33 =>
 (AV.aggK v32 fun l34 =>
 (consK l34 fun v35 l36 =>
 (AV.intK .i64 v35 fun i37 =>
 (consK l36 fun v38 l39 =>
 (AV.intK .i64 v38 fun i40 =>
 (consK l39 fun v41 l42 =>
 (AV.intK .i64 v41 fun i43 =>
 (consK l42 fun v44 l45 =>
 (AV.intK .i64 v44 fun i46 =>
 (consK l45 fun v47 l48 =>
 (AV.intK .i64 v47 fun i49 =>
 (consK l48 fun v50 l51 =>
 (AV.intK .i64 v50 fun i52 =>
 (consK l51 fun v53 l54 =>
 (AV.intK .i64 v53 fun i55 =>
 (nilK l54
 (consK l33 fun v56 l57 =>
 (AV.intK .i64 v56 fun i58 =>
 (nilK l57
 ((cp F_civiltime_Sub [.agg [.int .i64 a0_0, .int .i64 a0_1, .int .i64 a0_2, .int .i64 a0_3, .int .i64 a0_4, .int .i64 a0_5, .int .i64 a0_6], .agg [.int .i64 a1_0, .int .i64 a1_1, .int .i64 a1_2, .int .i64 a1_3, .int .i64 a1_4, .int .i64 a1_5, .int .i64 a1_6]]).bind fun r59 =>
 (AV.tupK r59 fun l60 =>
 (consK l60 fun v61 l62 =>
 (AV.aggK v61 fun l63 =>
 (consK l63 fun v64 l65 =>
 (AV.intK .i64 v64 fun i66 =>
 (consK l65 fun v67 l68 =>
 (AV.intK .i64 v67 fun i69 =>
 (nilK l68
 (consK l62 fun v70 l71 =>
 (AV.intK .i64 v70 fun i72 =>
 (nilK l71
 ((cp F_ref09_Sub [.agg [.int .i64 a0_0, .int .i64 a0_1, .int .i64 a0_2, .int .i64 a0_3, .int .i64 a0_4, .int .i64 a0_5, .int .i64 a0_6], .agg [.int .i64 a1_0, .int .i64 a1_1, .int .i64 a1_2, .int .i64 a1_3, .int .i64 a1_4, .int .i64 a1_5, .int .i64 a1_6]]).bind fun r73 =>
 (AV.tupK r73 fun l74 =>
 (consK l74 fun v75 l76 =>
 (AV.aggK v75 fun l77 =>
 (consK l77 fun v78 l79 =>
 (AV.intK .i64 v78 fun i80 =>
 (consK l79 fun v81 l82 =>
 (AV.intK .i64 v81 fun i83 =>
 (nilK l82
 (consK l76 fun v84 l85 =>
 (AV.intK .i64 v84 fun i86 =>
 (nilK l85
 (bnd (((i8 == i37) && ((i11 == i40) && ((i14 == i43) && true))) && (((i17 == i46) && ((i20 == i49) && ((i23 == i52) && ((i26 == i55) && true)))) && true)) fun z87 =>
 (cond z87
 (cond (i29 == i58)
 (cond ((i66 == i80) && ((i69 == i83) && true))
 (cond (i72 == i86)
 ((cp F_civiltime_Cmp [.agg [.int .i64 a0_0, .int .i64 a0_1, .int .i64 a0_2, .int .i64 a0_3, .int .i64 a0_4, .int .i64 a0_5, .int .i64 a0_6], .agg [.int .i64 a1_0, .int .i64 a1_1, .int .i64 a1_2, .int .i64 a1_3, .int .i64 a1_4, .int .i64 a1_5, .int .i64 a1_6]]).bind fun r88 =>
 (AV.intK .i64 r88 fun i89 =>
 ((cp F_ref09_Cmp [.agg [.int .i64 a0_0, .int .i64 a0_1, .int .i64 a0_2, .int .i64 a0_3, .int .i64 a0_4, .int .i64 a0_5, .int .i64 a0_6], .agg [.int .i64 a1_0, .int .i64 a1_1, .int .i64 a1_2, .int .i64 a1_3, .int .i64 a1_4, .int .i64 a1_5, .int .i64 a1_6]]).bind fun r90 =>
 (AV.intK .i64 r90 fun i91 =>
 (cond (i89 == i91)
 ((cp F_law09_awake []).bind fun r92 =>
 (AV.boolK r92 fun b93 =>
 (j127 b93)))
 (j127 false))))))
 (j127 false))
 (j127 false))
 (j127 false))
 (j127 false)))))))))))))))))))))))))))))))))))))))))))))))))))))))))))))))))))))))
theorem K_law09_CiviltimeSums_1 (j : Jump) (n : Nat) (a0_0 : Int) (a0_1 : Int) (a0_2 : Int) (a0_3 : Int) (a0_4 : Int) (a0_5 : Int) (a0_6 : Int) (a1_0 : Int) (a1_1 : Int) (a1_2 : Int) (a1_3 : Int) (a1_4 : Int) (a1_5 : Int) (a1_6 : Int) (a2_0 : Int) (a2_1 : Int) : ex (topEnv C (CP C n) n F_law09_CiviltimeSums) (some j) (bodyOf C.P F_law09_CiviltimeSums) 1 [] [] (endOf C.P F_law09_CiviltimeSums) (startOf C.P F_law09_CiviltimeSums [.agg [.int .i64 a0_0, .int .i64 a0_1, .int .i64 a0_2, .int .i64 a0_3, .int .i64 a0_4, .int .i64 a0_5, .int .i64 a0_6], .agg [.int .i64 a1_0, .int .i64 a1_1, .int .i64 a1_2, .int .i64 a1_3, .int .i64 a1_4, .int .i64 a1_5, .int .i64 a1_6], .agg [.int .i64 a2_0, .int .i64 a2_1]]) = T_law09_CiviltimeSums_1 (CP C n) a0_0 a0_1 a0_2 a0_3 a0_4 a0_5 a0_6 a1_0 a1_1 a1_2 a1_3 a1_4 a1_5 a1_6 a2_0 a2_1 (fun b0 => j [true, true, true, true, true, true] [] (S_law09_CiviltimeSums_127 b0)) := by kernel_rfl
def R_law09_CiviltimeSums (cp : FuncId → List AV → Option AV) (n : Nat) (a0_0 : Int) (a0_1 : Int) (a0_2 : Int) (a0_3 : Int) (a0_4 : Int) (a0_5 : Int) (a0_6 : Int) (a1_0 : Int) (a1_1 : Int) (a1_2 : Int) (a1_3 : Int) (a1_4 : Int) (a1_5 : Int) (a1_6 : Int) (a2_0 : Int) (a2_1 : Int) : Option AV := T_law09_CiviltimeSums_1 cp a0_0 a0_1 a0_2 a0_3 a0_4 a0_5 a0_6 a1_0 a1_1 a1_2 a1_3 a1_4 a1_5 a1_6 a2_0 a2_1 (J_law09_CiviltimeSums_127 cp n)
theorem eq_law09_CiviltimeSums (n : Nat) (a0_0 : Int) (a0_1 : Int) (a0_2 : Int) (a0_3 : Int) (a0_4 : Int) (a0_5 : Int) (a0_6 : Int) (a1_0 : Int) (a1_1 : Int) (a1_2 : Int) (a1_3 : Int) (a1_4 : Int) (a1_5 : Int) (a1_6 : Int) (a2_0 : Int) (a2_1 : Int) : CP C (n + 1) F_law09_CiviltimeSums [.agg [.int .i64 a0_0, .int .i64 a0_1, .int .i64 a0_2, .int .i64 a0_3, .int .i64 a0_4, .int .i64 a0_5, .int .i64 a0_6], .agg [.int .i64 a1_0, .int .i64 a1_1, .int .i64 a1_2, .int .i64 a1_3, .int .i64 a1_4, .int .i64 a1_5, .int .i64 a1_6], .agg [.int .i64 a2_0, .int .i64 a2_1]] = R_law09_CiviltimeSums (CP C n) n a0_0 a0_1 a0_2 a0_3 a0_4 a0_5 a0_6 a1_0 a1_1 a1_2 a1_3 a1_4 a1_5 a1_6 a2_0 a2_1 :=
  (CP_pure C n F_law09_CiviltimeSums _ (by kernel_rfl) (by kernel_rfl)).trans ((K_law09_CiviltimeSums_1 _ n a0_0 a0_1 a0_2 a0_3 a0_4 a0_5 a0_6 a1_0 a1_1 a1_2 a1_3 a1_4 a1_5 a1_6 a2_0 a2_1).trans (congrArg (T_law09_CiviltimeSums_1 (CP C n) a0_0 a0_1 a0_2 a0_3 a0_4 a0_5 a0_6 a1_0 a1_1 a1_2 a1_3 a1_4 a1_5 a1_6 a2_0 a2_1) (funext fun b0 => (JE_law09_CiviltimeSums_127 n) b0)))
-- law09_CiviltimeWays
def S_law09_CiviltimeWays_127 (x0 : Int) (x1 : Int) (x2 : Int) (x3 : Int) (x4 : Int) (x5 : Int) (x6 : Int) (x7 : Int) (x8 : Int) (x9 : Int) (x10 : Int) (x11 : Int) (x12 : Int) (x13 : Int) (x14 : Int) (x15 : Int) (x16 : Int) (x17 : Int) (x18 : Int) (x19 : Int) (x20 : Int) (x21 : Int) (x22 : Int) : St := ⟨[.junk, .junk, .ptr (some (0, 0)), .ptr (some (1, 0)), .junk, .junk, .junk, .ptr (some (3, 0)), .int .i64 x0, .int .i64 x1, .junk, .junk, .junk, .junk, .junk, .junk, .junk, .junk, .junk, .junk, .junk, .junk, .junk, .junk, .junk, .junk, .junk, .junk, .junk, .junk, .junk, .junk, .junk, .junk, .junk, .junk, .junk, .junk, .junk, .junk, .junk, .junk, .junk, .junk, .junk, .junk, .junk, .junk, .junk, .junk], [.cells 27 [.int .i64 x2, .int .i64 x3, .int .i64 x4, .int .i64 x5, .int .i64 x6, .int .i64 x7, .int .i64 x8], .cells 27 [.int .i64 x9, .int .i64 x10, .int .i64 x11, .int .i64 x12, .int .i64 x13, .int .i64 x14, .int .i64 x15], .dead, .cells 27 [.int .i64 x16, .int .i64 x17, .int .i64 x18, .int .i64 x19, .int .i64 x20, .int .i64 x21, .int .i64 x22]]⟩
def S_law09_CiviltimeWays_255 (b0 : Bool) : St := ⟨[.junk, .junk, .junk, .junk, .bool b0, .junk, .junk, .junk, .junk, .junk, .junk, .junk, .junk, .junk, .junk, .junk, .junk, .junk, .junk, .junk, .junk, .junk, .junk, .junk, .junk, .junk, .junk, .junk, .junk, .junk, .junk, .junk, .junk, .junk, .junk, .junk, .junk, .junk, .junk, .junk, .junk, .junk, .junk, .junk, .junk, .junk, .junk, .junk, .junk, .junk], [.dead, .dead, .dead, .dead]⟩
def T_law09_CiviltimeWays_255 (cp : FuncId → List AV → Option AV) (b0 : Bool) : Option AV :=
 (some (.bool b0))
theorem K_law09_CiviltimeWays_255 (j : Jump) (n : Nat) (b0 : Bool) : enter (topEnv C (CP C n) n F_law09_CiviltimeWays) (some j) (bodyOf C.P F_law09_CiviltimeWays) (endOf C.P F_law09_CiviltimeWays) [true, true, true, true, true, true, true] [] (S_law09_CiviltimeWays_255 b0) = T_law09_CiviltimeWays_255 (CP C n) b0 := by kernel_rfl
def J_law09_CiviltimeWays_255 (cp : FuncId → List AV → Option AV) (n : Nat) (b0 : Bool) : Option AV := T_law09_CiviltimeWays_255 cp b0
theorem JE_law09_CiviltimeWays_255 (n : Nat) (b0 : Bool) : jT (topEnv C (CP C n) n F_law09_CiviltimeWays) (bodyOf C.P F_law09_CiviltimeWays) (endOf C.P F_law09_CiviltimeWays) [true, true, true, true, true, true, true] [] (S_law09_CiviltimeWays_255 b0) = J_law09_CiviltimeWays_255 (CP C n) n b0 :=
  (jT_eq _ _ _ _ _ _).trans ((K_law09_CiviltimeWays_255 _ n b0).trans (rfl))
def T_law09_CiviltimeWays_127 (cp : FuncId → List AV → Option AV) (x0 : Int) (x1 : Int) (x2 : Int) (x3 : Int) (x4 : Int) (x5 : Int) (x6 : Int) (x7 : Int) (x8 : Int) (x9 : Int) (x10 : Int) (x11 : Int) (x12 : Int) (x13 : Int) (x14 : Int) (x15 : Int) (x16 : Int) (x17 : Int) (x18 : Int) (x19 : Int) (x20 : Int) (x21 : Int) (x22 : Int) (j255 : Bool → Option AV) : Option AV :=
 (bnd (((x16 == x2) && ((x17 == x3) && ((x18 == x4) && true))) && (((x19 == x5) && ((x20 == x6) && ((x21 == x7) && ((x22 == x8) && true)))) && true)) fun z1 =>
 (cond z1
 (cond (x0 == 0)
 ((cp F_civiltime_Cmp [.agg [.int .i64 x2, .int .i64 x3, .int .i64 x4, .int .i64 x5, .int .i64 x6, .int .i64 x7, .int .i64 x8], .agg [.int .i64 x9, .int .i64 x10, .int .i64 x11, .int .i64 x12, .int .i64 x13, .int .i64 x14, .int .i64 x15]]).bind fun r2 =>
 (AV.intK .i64 r2 fun i3 =>
 (cond (i3 == x1)
 ((cp F_law09_awake []).bind fun r4 =>
 (AV.boolK r4 fun b5 =>
 (j255 b5)))
 (j255 false))))
 (j255 false))
 (j255 false)))
theorem K_law09_CiviltimeWays_127 (j : Jump) (n : Nat) (x0 : Int) (x1 : Int) (x2 : Int) (x3 : Int) (x4 : Int) (x5 : Int) (x6 : Int) (x7 : Int) (x8 : Int) (x9 : Int) (x10 : Int) (x11 : Int) (x12 : Int) (x13 : Int) (x14 : Int) (x15 : Int) (x16 : Int) (x17 : Int) (x18 : Int) (x19 : Int) (x20 : Int) (x21 : Int) (x22 : Int) : enter (topEnv C (CP C n) n F_law09_CiviltimeWays) (some j) (bodyOf C.P F_law09_CiviltimeWays) (endOf C.P F_law09_CiviltimeWays) [true, true, true, true, true, true] [] (S_law09_CiviltimeWays_127 x0 x1 x2 x3 x4 x5 x6 x7 x8 x9 x10 x11 x12 x13 x14 x15 x16 x17 x18 x19 x20 x21 x22) = T_law09_CiviltimeWays_127 (CP C n) x0 x1 x2 x3 x4 x5 x6 x7 x8 x9 x10 x11 x12 x13 x14 x15 x16 x17 x18 x19 x20 x21 x22 (fun b0 => j [true, true, true, true, true, true, true] [] (S_law09_CiviltimeWays_255 b0)) := by kernel_rfl
def J_law09_CiviltimeWays_127 (cp : FuncId → List AV → Option AV) (n : Nat) (x0 : Int) (x1 : Int) (x2 : Int) (x3 : Int) (x4 : Int) (x5 : Int) (x6 : Int) (x7 : Int) (x8 : Int) (x9 : Int) (x10 : Int) (x11 : Int) (x12 : Int) (x13 : Int) (x14 : Int) (x15 : Int) (x16 : Int) (x17 : Int) (x18 : Int) (x19 : Int) (x20 : Int) (x21 : Int) (x22 : Int) : Option AV := T_law09_CiviltimeWays_127 cp x0 x1 x2 x3 x4 x5 x6 x7 x8 x9 x10 x11 x12 x13 x14 x15 x16 x17 x18 x19 x20 x21 x22 (J_law09_CiviltimeWays_255 cp n)
theorem JE_law09_CiviltimeWays_127 (n : Nat) (x0 : Int) (x1 : Int) (x2 : Int) (x3 : Int) (x4 : Int) (x5 : Int) (x6 : Int) (x7 : Int) (x8 : Int) (x9 : Int) (x10 : Int) (x11 : Int) (x12 : Int) (x13 : Int) (x14 : Int) (x15 : Int) (x16 : Int) (x17 : Int) (x18 : Int) (x19 : Int) (x20 : Int) (x21 : Int) (x22 : Int) : jT (topEnv C (CP C n) n F_law09_CiviltimeWays) (bodyOf C.P F_law09_CiviltimeWays) (endOf C.P F_law09_CiviltimeWays) [true, true, true, true, true, true] [] (S_law09_CiviltimeWays_127 x0 x1 x2 x3 x4 x5 x6 x7 x8 x9 x10 x11 x12 x13 x14 x15 x16 x17 x18 x19 x20 x21 x22) = J_law09_CiviltimeWays_127 (CP C n) n x0 x1 x2 x3 x4 x5 x6 x7 x8 x9 x10 x11 x12 x13 x14 x15 x16 x17 x18 x19 x20 x21 x22 :=
  (jT_eq _ _ _ _ _ _).trans ((K_law09_CiviltimeWays_127 _ n x0 x1 x2 x3 x4 x5 x6 x7 x8 x9 x10 x11 x12 x13 x14 x15 x16 x17 x18 x19 x20 x21 x22).trans (congrArg (T_law09_CiviltimeWays_127 (CP C n) x0 x1 x2 x3 x4 x5 x6 x7 x8 x9 x10 x11 x12 x13 x14 x15 x16 x17 x18 x19 x20 x21 x22) (funext fun b0 => (JE_law09_CiviltimeWays_255 n) b0)))
def T_law09_CiviltimeWays_1 (cp : FuncId → List AV → Option AV) (a0_0 : Int) (a0_1 : Int) (a0_2 : Int) (a0_3 : Int) (a0_4 : Int) (a0_5 : Int) (a0_6 : Int) (a1_0 : Int) (a1_1 : Int) (a1_2 : Int) (a1_3 : Int) (a1_4 : Int) (a1_5 : Int) (a1_6 : Int) (j127 : Int → Int → Int → Int → Int → Int → Int → Int → Int → Int → Int → Int → Int → Int → Int → Int → Int → Int → Int → Int → Int → Int → Int → Option AV) : Option AV :=
 ((cp F_civiltime_Sub [.agg [.int .i64 a0_0, .int .i64 a0_1, .int .i64 a0_2, .int .i64 a0_3, .int .i64 a0_4, .int .i64 a0_5, .int .i64 a0_6], .agg [.int .i64 a1_0, .int .i64 a1_1, .int .i64 a1_2, .int .i64 a1_3, .int .i64 a1_4, .int .i64 a1_5, .int .i64 a1_6]]).bind fun r1 =>
 (AV.tupK r1 fun l2 =>
 (consK l2 fun v3 l4 =>
 (AV.aggK v3 fun l5 =>
 (consK l5 fun v6 l7 =>
 (AV.intK .i64 v6 fun i8 =>
 (consK l7 fun v9 l10 =>
 (AV.intK .i64 v9 fun i11 =>
 (nilK l10
 (consK l4 fun v12 l13 =>
 (AV.intK .i64 v12 fun i14 =>
 (nilK l13
 (cond (i14 != 0)
 ((cp F_law09_awake []).bind fun r15 =>
 (AV.boolK r15 fun b16 =>
 (some (.bool b16))))
 ((cp F_civiltime_Add [.agg [.int .i64 a1_0, .int .i64 a1_1, .int .i64 a1_2, .int .i64 a1_3, .int .i64 a1_4, .int .i64 a1_5, .int .i64 a1_6], .agg [.int .i64 i8, .int .i64 i11]]).bind fun r17 =>
 (AV.tupK r17 fun l18 =>
 (consK l18 fun v19 l20 =>
 (AV.aggK v19 fun l21 =>
 (consK l21 fun v22 l23 =>
 (AV.intK .i64 v22 fun i24 =>
 (consK l23 fun v25 l26 =>
 (AV.intK .i64 v25 fun i27 =>
 (consK l26 fun v28 l29 =>
 (AV.intK .i64 v28 fun i30 =>
 (consK l29 fun v31 l32 =>
 (AV.intK .i64 v31 fun i33 =>
 (consK l32 fun v34 l35 =>
 (AV.intK .i64 v34 fun i36 =>
 (consK l35 fun v37 l38 =>
 (AV.intK .i64 v37 fun i39 =>
 (consK l38 fun v40 l41 =>
 (AV.intK .i64 v40 fun i42 =>
 (nilK l41
 (consK l20 fun v43 l44 =>
 (AV.intK .i64 v43 fun i45 =>
 (nilK l44
 (cond (decide (i8 < 0))
 (j127 i45 (-1) a0_0 a0_1 a0_2 a0_3 a0_4 a0_5 a0_6 a1_0 a1_1 a1_2 a1_3 a1_4 a1_5 a1_6 i24 i27 i30 i33 i36 i39 i42)
 (cond (!((i8 == 0) && ((i11 == 0) && true)))
 (j127 i45 1 a0_0 a0_1 a0_2 a0_3 a0_4 a0_5 a0_6 a1_0 a1_1 a1_2 a1_3 a1_4 a1_5 a1_6 i24 i27 i30 i33 i36 i39 i42)
 (j127 i45 0 a0_0 a0_1 a0_2 a0_3 a0_4 a0_5 a0_6 a1_0 a1_1 a1_2 a1_3 a1_4 a1_5 a1_6 i24 i27 i30 i33 i36 i39 i42))))))))))))))))))))))))))))))))))))))
theorem K_law09_CiviltimeWays_1 (j : Jump) (n : Nat) (a0_0 : Int) (a0_1 : Int) (a0_2 : Int) (a0_3 : Int) (a0_4 : Int) (a0_5 : Int) (a0_6 : Int) (a1_0 : Int) (a1_1 : Int) (a1_2 : Int) (a1_3 : Int) (a1_4 : Int) (a1_5 : Int) (a1_6 : Int) : ex (topEnv C (CP C n) n F_law09_CiviltimeWays) (some j) (bodyOf C.P F_law09_CiviltimeWays) 1 [] [] (endOf C.P F_law09_CiviltimeWays) (startOf C.P F_law09_CiviltimeWays [.agg [.int .i64 a0_0, .int .i64 a0_1, .int .i64 a0_2, .int .i64 a0_3, .int .i64 a0_4, .int .i64 a0_5, .int .i64 a0_6], .agg [.int .i64 a1_0, .int .i64 a1_1, .int .i64 a1_2, .int .i64 a1_3, .int .i64 a1_4, .int .i64 a1_5, .int .i64 a1_6]]) = T_law09_CiviltimeWays_1 (CP C n) a0_0 a0_1 a0_2 a0_3 a0_4 a0_5 a0_6 a1_0 a1_1 a1_2 a1_3 a1_4 a1_5 a1_6 (fun x0 x1 x2 x3 x4 x5 x6 x7 x8 x9 x10 x11 x12 x13 x14 x15 x16 x17 x18 x19 x20 x21 x22 => j [true, true, true, true, true, true] [] (S_law09_CiviltimeWays_127 x0 x1 x2 x3 x4 x5 x6 x7 x8 x9 x10 x11 x12 x13 x14 x15 x16 x17 x18 x19 x20 x21 x22)) := by kernel_rfl
def R_law09_CiviltimeWays (cp : FuncId → List AV → Option AV) (n : Nat) (a0_0 : Int) (a0_1 : Int) (a0_2 : Int) (a0_3 : Int) (a0_4 : Int) (a0_5 : Int) (a0_6 : Int) (a1_0 : Int) (a1_1 : Int) (a1_2 : Int) (a1_3 : Int) (a1_4 : Int) (a1_5 : Int) (a1_6 : Int) : Option AV := T_law09_CiviltimeWays_1 cp a0_0 a0_1 a0_2 a0_3 a0_4 a0_5 a0_6 a1_0 a1_1 a1_2 a1_3 a1_4 a1_5 a1_6 (J_law09_CiviltimeWays_127 cp n)
theorem eq_law09_CiviltimeWays (n : Nat) (a0_0 : Int) (a0_1 : Int) (a0_2 : Int) (a0_3 : Int) (a0_4 : Int) (a0_5 : Int) (a0_6 : Int) (a1_0 : Int) (a1_1 : Int) (a1_2 : Int) (a1_3 : Int) (a1_4 : Int) (a1_5 : Int) (a1_6 : Int) : CP C (n + 1) F_law09_CiviltimeWays [.agg [.int .i64 a0_0, .int .i64 a0_1, .int .i64 a0_2, .int .i64 a0_3, .int .i64 a0_4, .int .i64 a0_5, .int .i64 a0_6], .agg [.int .i64 a1_0, .int .i64 a1_1, .int .i64 a1_2, .int .i64 a1_3, .int .i64 a1_4, .int .i64 a1_5, .int .i64 a1_6]] = R_law09_CiviltimeWays (CP C n) n a0_0 a0_1 a0_2 a0_3 a0_4 a0_5 a0_6 a1_0 a1_1 a1_2 a1_3 a1_4 a1_5 a1_6 :=
  (CP_pure C n F_law09_CiviltimeWays _ (by kernel_rfl) (by kernel_rfl)).trans ((K_law09_CiviltimeWays_1 _ n a0_0 a0_1 a0_2 a0_3 a0_4 a0_5 a0_6 a1_0 a1_1 a1_2 a1_3 a1_4 a1_5 a1_6).trans (congrArg (T_law09_CiviltimeWays_1 (CP C n) a0_0 a0_1 a0_2 a0_3 a0_4 a0_5 a0_6 a1_0 a1_1 a1_2 a1_3 a1_4 a1_5 a1_6) (funext fun x0 => (funext fun x1 => (funext fun x2 => (funext fun x3 => (funext fun x4 => (funext fun x5 => (funext fun x6 => (funext fun x7 => (funext fun x8 => (funext fun x9 => (funext fun x10 => (funext fun x11 => (funext fun x12 => (funext fun x13 => (funext fun x14 => (funext fun x15 => (funext fun x16 => (funext fun x17 => (funext fun x18 => (funext fun x19 => (funext fun x20 => (funext fun x21 => (funext fun x22 => (JE_law09_CiviltimeWays_127 n) x0 x1 x2 x3 x4 x5 x6 x7 x8 x9 x10 x11 x12 x13 x14 x15 x16 x17 x18 x19 x20 x21 x22)))))))))))))))))))))))))
end Go.Proofs.Ytlikncnaoafdjaa.Sim.S
