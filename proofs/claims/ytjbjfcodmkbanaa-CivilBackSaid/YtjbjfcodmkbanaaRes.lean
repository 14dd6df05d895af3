/- What each function of the program answers, as a plain function, printed by a program of ours. Condition: none beyond what each theorem says. -/

import Derived.Test.YtjbjfcodmkbanaaCfg
set_option maxRecDepth 100000
set_option linter.unusedVariables false
open Go Go.Proofs.Ytjbjfcodmkbanaa.Sim Go.Proofs
namespace Go.Proofs.Ytjbjfcodmkbanaa.Sim.S
-- civil_Leap
def R_civil_Leap (cp : FuncId → List AV → Option AV) (_n : Nat) (a0 : Int) : Option AV :=
 (cond ((Int.tmod a0 4) == 0)
 (cond ((Int.tmod a0 100) != 0)
 (some (.bool true))
 (some (.bool ((Int.tmod a0 400) == 0))))
 (some (.bool ((Int.tmod a0 400) == 0))))
theorem eq_civil_Leap (n : Nat) (a0 : Int) : CP C (n + 1) F_civil_Leap [.int .i64 a0] = R_civil_Leap (CP C n) n a0 := by kernel_rfl
-- ref06_Leap
def R_ref06_Leap (cp : FuncId → List AV → Option AV) (_n : Nat) (a0 : Int) : Option AV :=
 (cond ((Int.tmod a0 4) == 0)
 (cond ((Int.tmod a0 100) != 0)
 (some (.bool true))
 (some (.bool ((Int.tmod a0 400) == 0))))
 (some (.bool false)))
theorem eq_ref06_Leap (n : Nat) (a0 : Int) : CP C (n + 1) F_ref06_Leap [.int .i64 a0] = R_ref06_Leap (CP C n) n a0 := by kernel_rfl
-- civil_months
def R_civil_months (cp : FuncId → List AV → Option AV) (_n : Nat) : Option AV :=
 (some (.agg [.int .i64 0, .int .i64 31, .int .i64 28, .int .i64 31, .int .i64 30, .int .i64 31, .int .i64 30, .int .i64 31, .int .i64 31, .int .i64 30, .int .i64 31, .int .i64 30, .int .i64 31]))
theorem eq_civil_months (n : Nat) : CP C (n + 1) F_civil_months [] = R_civil_months (CP C n) n := by kernel_rfl
-- civil_MonthDays
def S_civil_MonthDays_13 (x0 : Int) (x1 : Int) (b2 : Bool) : St := ⟨[.int .i64 x0, .int .i64 x1, .junk, .junk, .junk, .junk, .junk, .junk, .junk, .junk, .bool b2, .junk, .junk, .junk, .junk, .junk, .junk, .junk, .junk, .junk], []⟩
def S_civil_MonthDays_15 (x0 : Int) : St := ⟨[.junk, .int .i64 x0, .junk, .junk, .junk, .junk, .junk, .junk, .junk, .junk, .junk, .junk, .junk, .junk, .junk, .junk, .junk, .junk, .junk, .junk], []⟩
def T_civil_MonthDays_15 (cp : FuncId → List AV → Option AV) (x0 : Int) : Option AV :=
 ((cp F_civil_months []).bind fun r1 =>
 (AV.aggK r1 fun l2 =>
 (consK l2 fun v3 l4 =>
 (AV.intK .i64 v3 fun i5 =>
 (consK l4 fun v6 l7 =>
 (AV.intK .i64 v6 fun i8 =>
 (consK l7 fun v9 l10 =>
 (AV.intK .i64 v9 fun i11 =>
 (consK l10 fun v12 l13 =>
 (AV.intK .i64 v12 fun i14 =>
 (consK l13 fun v15 l16 =>
 (AV.intK .i64 v15 fun i17 =>
 (consK l16 fun v18 l19 =>
 (AV.intK .i64 v18 fun i20 =>
 (consK l19 fun v21 l22 =>
 (AV.intK .i64 v21 fun i23 =>
 (consK l22 fun v24 l25 =>
 (AV.intK .i64 v24 fun i26 =>
 (consK l25 fun v27 l28 =>
 (AV.intK .i64 v27 fun i29 =>
 (consK l28 fun v30 l31 =>
 (AV.intK .i64 v30 fun i32 =>
 (consK l31 fun v33 l34 =>
 (AV.intK .i64 v33 fun i35 =>
 (consK l34 fun v36 l37 =>
 (AV.intK .i64 v36 fun i38 =>
 (consK l37 fun v39 l40 =>
 (AV.intK .i64 v39 fun i41 =>
 (nilK l40
 (cond ((decide (0 ≤ x0)) && (decide (x0 < 13)))
 (cond (fits ((Int.toNat x0) * 1) 1 [.int .i64 i5, .int .i64 i8, .int .i64 i11, .int .i64 i14, .int .i64 i17, .int .i64 i20, .int .i64 i23, .int .i64 i26, .int .i64 i29, .int .i64 i32, .int .i64 i35, .int .i64 i38, .int .i64 i41])
 (cond (AV.pure (nth [.int .i64 i5, .int .i64 i8, .int .i64 i11, .int .i64 i14, .int .i64 i17, .int .i64 i20, .int .i64 i23, .int .i64 i26, .int .i64 i29, .int .i64 i32, .int .i64 i35, .int .i64 i38, .int .i64 i41] ((Int.toNat x0) * 1)))
 (some ((nth [.int .i64 i5, .int .i64 i8, .int .i64 i11, .int .i64 i14, .int .i64 i17, .int .i64 i20, .int .i64 i23, .int .i64 i26, .int .i64 i29, .int .i64 i32, .int .i64 i35, .int .i64 i38, .int .i64 i41] ((Int.toNat x0) * 1))))
 none)
 none)
 none))))))))))))))))))))))))))))))
theorem K_civil_MonthDays_15 (j : Jump) (n : Nat) (x0 : Int) : enter (topEnv C (CP C n) n F_civil_MonthDays) (some j) (bodyOf C.P F_civil_MonthDays) (endOf C.P F_civil_MonthDays) [true, true, true] [] (S_civil_MonthDays_15 x0) = T_civil_MonthDays_15 (CP C n) x0 := by kernel_rfl
def J_civil_MonthDays_15 (cp : FuncId → List AV → Option AV) (n : Nat) (x0 : Int) : Option AV := T_civil_MonthDays_15 cp x0
theorem JE_civil_MonthDays_15 (n : Nat) (x0 : Int) : jT (topEnv C (CP C n) n F_civil_MonthDays) (bodyOf C.P F_civil_MonthDays) (endOf C.P F_civil_MonthDays) [true, true, true] [] (S_civil_MonthDays_15 x0) = J_civil_MonthDays_15 (CP C n) n x0 :=
  (jT_eq _ _ _ _ _ _).trans ((K_civil_MonthDays_15 _ n x0).trans (rfl))
def T_civil_MonthDays_13 (cp : FuncId → List AV → Option AV) (x0 : Int) (x1 : Int) (b2 : Bool) (j15 : Int → Option AV) : Option AV :=
 (cond b2
 (some (.int .i64 0))
 (cond (x1 == 2)
 ((cp F_civil_Leap [.int .i64 x0]).bind fun r1 =>
 (AV.boolK r1 fun b2 =>
 (cond b2
 (some (.int .i64 29))
 (j15 x1))))
 (j15 x1)))
theorem K_civil_MonthDays_13 (j : Jump) (n : Nat) (x0 : Int) (x1 : Int) (b2 : Bool) : enter (topEnv C (CP C n) n F_civil_MonthDays) (some j) (bodyOf C.P F_civil_MonthDays) (endOf C.P F_civil_MonthDays) [true, false, true] [] (S_civil_MonthDays_13 x0 x1 b2) = T_civil_MonthDays_13 (CP C n) x0 x1 b2 (fun x0 => j [true, true, true] [] (S_civil_MonthDays_15 x0)) := by kernel_rfl
def J_civil_MonthDays_13 (cp : FuncId → List AV → Option AV) (n : Nat) (x0 : Int) (x1 : Int) (b2 : Bool) : Option AV := T_civil_MonthDays_13 cp x0 x1 b2 (J_civil_MonthDays_15 cp n)
theorem JE_civil_MonthDays_13 (n : Nat) (x0 : Int) (x1 : Int) (b2 : Bool) : jT (topEnv C (CP C n) n F_civil_MonthDays) (bodyOf C.P F_civil_MonthDays) (endOf C.P F_civil_MonthDays) [true, false, true] [] (S_civil_MonthDays_13 x0 x1 b2) = J_civil_MonthDays_13 (CP C n) n x0 x1 b2 :=
  (jT_eq _ _ _ _ _ _).trans ((K_civil_MonthDays_13 _ n x0 x1 b2).trans (congrArg (T_civil_MonthDays_13 (CP C n) x0 x1 b2) (funext fun x0 => (JE_civil_MonthDays_15 n) x0)))
def T_civil_MonthDays_1 (cp : FuncId → List AV → Option AV) (a0 : Int) (a1 : Int) (j13 : Int → Int → Bool → Option AV) : Option AV :=
 (cond (decide (a1 < 1))
 (j13 a0 a1 true)
 (j13 a0 a1 (decide (a1 > 12))))
theorem K_civil_MonthDays_1 (j : Jump) (n : Nat) (a0 : Int) (a1 : Int) : ex (topEnv C (CP C n) n F_civil_MonthDays) (some j) (bodyOf C.P F_civil_MonthDays) 1 [] [] (endOf C.P F_civil_MonthDays) (startOf C.P F_civil_MonthDays [.int .i64 a0, .int .i64 a1]) = T_civil_MonthDays_1 (CP C n) a0 a1 (fun x0 x1 b2 => j [true, false, true] [] (S_civil_MonthDays_13 x0 x1 b2)) := by kernel_rfl
def R_civil_MonthDays (cp : FuncId → List AV → Option AV) (n : Nat) (a0 : Int) (a1 : Int) : Option AV := T_civil_MonthDays_1 cp a0 a1 (J_civil_MonthDays_13 cp n)
theorem eq_civil_MonthDays (n : Nat) (a0 : Int) (a1 : Int) : CP C (n + 1) F_civil_MonthDays [.int .i64 a0, .int .i64 a1] = R_civil_MonthDays (CP C n) n a0 a1 :=
  (CP_pure C n F_civil_MonthDays _ (by kernel_rfl) (by kernel_rfl)).trans ((K_civil_MonthDays_1 _ n a0 a1).trans (congrArg (T_civil_MonthDays_1 (CP C n) a0 a1) (funext fun x0 => (funext fun x1 => (funext fun b2 => (JE_civil_MonthDays_13 n) x0 x1 b2)))))
-- ref06_MonthDays
def R_ref06_MonthDays (cp : FuncId → List AV → Option AV) (_n : Nat) (a0 : Int) (a1 : Int) : Option AV :=
 (cond (a1 == 1)
 (some (.int .i64 31))
 (cond (a1 == 3)
 (some (.int .i64 31))
 (cond (a1 == 5)
 (some (.int .i64 31))
 (cond (a1 == 7)
 (some (.int .i64 31))
 (cond (a1 == 8)
 (some (.int .i64 31))
 (cond (a1 == 10)
 (some (.int .i64 31))
 (cond (a1 == 12)
 (some (.int .i64 31))
 (cond (a1 == 4)
 (some (.int .i64 30))
 (cond (a1 == 6)
 (some (.int .i64 30))
 (cond (a1 == 9)
 (some (.int .i64 30))
 (cond (a1 == 11)
 (some (.int .i64 30))
 (cond (a1 == 2)
 ((cp F_ref06_Leap [.int .i64 a0]).bind fun r1 =>
 (AV.boolK r1 fun b2 =>
 (cond b2
 (some (.int .i64 29))
 (some (.int .i64 28)))))
 (some (.int .i64 0))))))))))))))
theorem eq_ref06_MonthDays (n : Nat) (a0 : Int) (a1 : Int) : CP C (n + 1) F_ref06_MonthDays [.int .i64 a0, .int .i64 a1] = R_ref06_MonthDays (CP C n) n a0 a1 := by kernel_rfl
-- civil_floor
def R_civil_floor (cp : FuncId → List AV → Option AV) (_n : Nat) (a0 : Int) (a1 : Int) : Option AV :=
 (cond (decide (a1 = 0))
 none
 (cond (decide (a1 = 0))
 none
 (cond (decide ((Int.tmod a0 a1) < 0))
 (some (.tup [.int .i64 (IntKind.i64.wrap ((IntKind.i64.wrap (Int.tdiv a0 a1)) - 1)), .int .i64 (IntKind.i64.wrap ((Int.tmod a0 a1) + a1))]))
 (some (.tup [.int .i64 (IntKind.i64.wrap (Int.tdiv a0 a1)), .int .i64 (Int.tmod a0 a1)])))))
theorem eq_civil_floor (n : Nat) (a0 : Int) (a1 : Int) : CP C (n + 1) F_civil_floor [.int .i64 a0, .int .i64 a1] = R_civil_floor (CP C n) n a0 a1 := by kernel_rfl
-- civil_DateOf
def R_civil_DateOf (cp : FuncId → List AV → Option AV) (_n : Nat) (a0 : Int) : Option AV :=
 (cond (decide (a0 < (-4371587)))
 (some (.tup [.agg [.int .i64 0, .int .i64 0, .int .i64 0], .int .i64 8]))
 (cond (decide (a0 > 2932896))
 (some (.tup [.agg [.int .i64 0, .int .i64 0, .int .i64 0], .int .i64 8]))
 ((cp F_civil_floor [.int .i64 (IntKind.i64.wrap (a0 + 719468)), .int .i64 146097]).bind fun r1 =>
 (AV.tupK r1 fun l2 =>
 (consK l2 fun v3 l4 =>
 (AV.intK .i64 v3 fun i5 =>
 (consK l4 fun v6 l7 =>
 (AV.intK .i64 v6 fun i8 =>
 (nilK l7
 (bnd (if 3 < (IntKind.i64.wrap (Int.tdiv i8 36524)) then 3 else (IntKind.i64.wrap (Int.tdiv i8 36524))) fun y9 =>
 (bnd (IntKind.i64.wrap (Int.tdiv (IntKind.i64.wrap (i8 - (IntKind.i64.wrap (y9 * 36524)))) 1461)) fun y10 =>
 (bnd (IntKind.i64.wrap ((IntKind.i64.wrap (i8 - (IntKind.i64.wrap (y9 * 36524)))) - (IntKind.i64.wrap (y10 * 1461)))) fun y11 =>
 (bnd (if 3 < (IntKind.i64.wrap (Int.tdiv y11 365)) then 3 else (IntKind.i64.wrap (Int.tdiv y11 365))) fun y12 =>
 (bnd (IntKind.i64.wrap (5 * (IntKind.i64.wrap (y11 - (IntKind.i64.wrap (y12 * 365)))))) fun y13 =>
 (bnd (IntKind.i64.wrap (Int.tdiv (IntKind.i64.wrap (y13 + 2)) 153)) fun y14 =>
 (bnd (IntKind.i64.wrap (Int.tdiv (IntKind.i64.wrap ((IntKind.i64.wrap (153 * y14)) + 2)) 5)) fun y15 =>
 (bnd (IntKind.i64.wrap ((IntKind.i64.wrap (y11 - (IntKind.i64.wrap (y12 * 365)))) - y15)) fun y16 =>
 (bnd (IntKind.i64.wrap ((IntKind.i64.wrap (400 * i5)) + (IntKind.i64.wrap (100 * y9)))) fun y17 =>
 (bnd (IntKind.i64.wrap ((IntKind.i64.wrap (y17 + (IntKind.i64.wrap (4 * y10)))) + y12)) fun y18 =>
 (cond (decide ((IntKind.i64.wrap (y14 + 3)) > 12))
 (some (.tup [.agg [.int .i64 (IntKind.i64.wrap (y18 + 1)), .int .i64 (IntKind.i64.wrap ((IntKind.i64.wrap (y14 + 3)) - 12)), .int .i64 (IntKind.i64.wrap (y16 + 1))], .int .i64 0]))
 (some (.tup [.agg [.int .i64 y18, .int .i64 (IntKind.i64.wrap (y14 + 3)), .int .i64 (IntKind.i64.wrap (y16 + 1))], .int .i64 0]))))))))))))))))))))))
theorem eq_civil_DateOf (n : Nat) (a0 : Int) : CP C (n + 1) F_civil_DateOf [.int .i64 a0] = R_civil_DateOf (CP C n) n a0 := by kernel_rfl
-- civil_number
def R_civil_number (cp : FuncId → List AV → Option AV) (_n : Nat) (a0 : Int) (a1 : Int) (a2 : Int) : Option AV :=
 (bnd (IntKind.i64.wrap (Int.tdiv (IntKind.i64.wrap (14 - a1)) 12)) fun y1 =>
 ((cp F_civil_floor [.int .i64 (IntKind.i64.wrap (a0 - y1)), .int .i64 400]).bind fun r2 =>
 (AV.tupK r2 fun l3 =>
 (consK l3 fun v4 l5 =>
 (AV.intK .i64 v4 fun i6 =>
 (consK l5 fun v7 l8 =>
 (AV.intK .i64 v7 fun i9 =>
 (nilK l8
 (bnd (IntKind.i64.wrap ((IntKind.i64.wrap (a1 + (IntKind.i64.wrap (12 * y1)))) - 3)) fun y10 =>
 (bnd (IntKind.i64.wrap (Int.tdiv (IntKind.i64.wrap ((IntKind.i64.wrap (153 * y10)) + 2)) 5)) fun y11 =>
 (bnd (IntKind.i64.wrap ((IntKind.i64.wrap (i6 * 146097)) + (IntKind.i64.wrap (i9 * 365)))) fun y12 =>
 (bnd (IntKind.i64.wrap (y12 + (IntKind.i64.wrap (Int.tdiv i9 4)))) fun y13 =>
 (bnd (IntKind.i64.wrap (y13 - (IntKind.i64.wrap (Int.tdiv i9 100)))) fun y14 =>
 (bnd (IntKind.i64.wrap (y14 + (IntKind.i64.wrap ((IntKind.i64.wrap (y11 + a2)) - 1)))) fun y15 =>
 (some (.int .i64 (IntKind.i64.wrap (y15 - 719468))))))))))))))))))
theorem eq_civil_number (n : Nat) (a0 : Int) (a1 : Int) (a2 : Int) : CP C (n + 1) F_civil_number [.int .i64 a0, .int .i64 a1, .int .i64 a2] = R_civil_number (CP C n) n a0 a1 a2 := by kernel_rfl
-- civil_OfOrdinal
def R_civil_OfOrdinal (cp : FuncId → List AV → Option AV) (_n : Nat) (a0 : Int) (a1 : Int) : Option AV :=
 ((cp F_civil_Leap [.int .i64 a0]).bind fun r1 =>
 (AV.boolK r1 fun b2 =>
 (cond b2
 (cond (decide (a1 < 1))
 (some (.tup [.agg [.int .i64 0, .int .i64 0, .int .i64 0], .int .i64 7]))
 (cond (decide (a1 > 366))
 (some (.tup [.agg [.int .i64 0, .int .i64 0, .int .i64 0], .int .i64 7]))
 (cond (decide (a0 < (-9999)))
 (some (.tup [.agg [.int .i64 0, .int .i64 0, .int .i64 0], .int .i64 8]))
 (cond (decide (a0 > 9999))
 (some (.tup [.agg [.int .i64 0, .int .i64 0, .int .i64 0], .int .i64 8]))
 ((cp F_civil_number [.int .i64 a0, .int .i64 1, .int .i64 1]).bind fun r3 =>
 (AV.intK .i64 r3 fun i4 =>
 ((cp F_civil_DateOf [.int .i64 (IntKind.i64.wrap ((IntKind.i64.wrap (i4 + a1)) - 1))]).bind fun r5 =>
 (AV.tupK r5 fun l6 =>
 (consK l6 fun v7 l8 =>
 (AV.aggK v7 fun l9 =>
 (consK l9 fun v10 l11 =>
 (AV.intK .i64 v10 fun i12 =>
 (consK l11 fun v13 l14 =>
 (AV.intK .i64 v13 fun i15 =>
 (consK l14 fun v16 l17 =>
 (AV.intK .i64 v16 fun i18 =>
 (nilK l17
 (consK l8 fun v19 l20 =>
 (AV.intK .i64 v19 fun i21 =>
 (nilK l20
 (some (.tup [.agg [.int .i64 i12, .int .i64 i15, .int .i64 i18], .int .i64 i21]))))))))))))))))))))))
 (cond (decide (a1 < 1))
 (some (.tup [.agg [.int .i64 0, .int .i64 0, .int .i64 0], .int .i64 7]))
 (cond (decide (a1 > 365))
 (some (.tup [.agg [.int .i64 0, .int .i64 0, .int .i64 0], .int .i64 7]))
 (cond (decide (a0 < (-9999)))
 (some (.tup [.agg [.int .i64 0, .int .i64 0, .int .i64 0], .int .i64 8]))
 (cond (decide (a0 > 9999))
 (some (.tup [.agg [.int .i64 0, .int .i64 0, .int .i64 0], .int .i64 8]))
 ((cp F_civil_number [.int .i64 a0, .int .i64 1, .int .i64 1]).bind fun r22 =>
 (AV.intK .i64 r22 fun i23 =>
 ((cp F_civil_DateOf [.int .i64 (IntKind.i64.wrap ((IntKind.i64.wrap (i23 + a1)) - 1))]).bind fun r24 =>
 (AV.tupK r24 fun l25 =>
 (consK l25 fun v26 l27 =>
 (AV.aggK v26 fun l28 =>
 (consK l28 fun v29 l30 =>
 (AV.intK .i64 v29 fun i31 =>
 (consK l30 fun v32 l33 =>
 (AV.intK .i64 v32 fun i34 =>
 (consK l33 fun v35 l36 =>
 (AV.intK .i64 v35 fun i37 =>
 (nilK l36
 (consK l27 fun v38 l39 =>
 (AV.intK .i64 v38 fun i40 =>
 (nilK l39
 (some (.tup [.agg [.int .i64 i31, .int .i64 i34, .int .i64 i37], .int .i64 i40])))))))))))))))))))))))))
theorem eq_civil_OfOrdinal (n : Nat) (a0 : Int) (a1 : Int) : CP C (n + 1) F_civil_OfOrdinal [.int .i64 a0, .int .i64 a1] = R_civil_OfOrdinal (CP C n) n a0 a1 := by kernel_rfl
-- civil_Weekday
def R_civil_Weekday (cp : FuncId → List AV → Option AV) (_n : Nat) (a0 : Int) : Option AV :=
 ((cp F_civil_floor [.int .i64 a0, .int .i64 7]).bind fun r1 =>
 (AV.tupK r1 fun l2 =>
 (consK l2 fun v3 l4 =>
 (AV.intK .i64 v3 fun i5 =>
 (consK l4 fun v6 l7 =>
 (AV.intK .i64 v6 fun i8 =>
 (nilK l7
 (bnd (IntKind.i64.wrap ((Int.tmod (IntKind.i64.wrap (i8 + 3)) 7) + 1)) fun y9 =>
 (some (.int .i64 y9))))))))))
theorem eq_civil_Weekday (n : Nat) (a0 : Int) : CP C (n + 1) F_civil_Weekday [.int .i64 a0] = R_civil_Weekday (CP C n) n a0 := by kernel_rfl
-- civil_Check
def R_civil_Check (cp : FuncId → List AV → Option AV) (_n : Nat) (a0_0 : Int) (a0_1 : Int) (a0_2 : Int) : Option AV :=
 (cond (decide (a0_2 < 1))
 (some (.int .i64 7))
 ((cp F_civil_MonthDays [.int .i64 a0_0, .int .i64 a0_1]).bind fun r1 =>
 (AV.intK .i64 r1 fun i2 =>
 (cond (decide (a0_2 > i2))
 (some (.int .i64 7))
 (cond (decide (a0_0 < (-9999)))
 (some (.int .i64 8))
 (cond (decide (a0_0 > 9999))
 (some (.int .i64 8))
 (some (.int .i64 0))))))))
theorem eq_civil_Check (n : Nat) (a0_0 : Int) (a0_1 : Int) (a0_2 : Int) : CP C (n + 1) F_civil_Check [.agg [.int .i64 a0_0, .int .i64 a0_1, .int .i64 a0_2]] = R_civil_Check (CP C n) n a0_0 a0_1 a0_2 := by kernel_rfl
-- civil_Days
def R_civil_Days (cp : FuncId → List AV → Option AV) (_n : Nat) (a0_0 : Int) (a0_1 : Int) (a0_2 : Int) : Option AV :=
 ((cp F_civil_Check [.agg [.int .i64 a0_0, .int .i64 a0_1, .int .i64 a0_2]]).bind fun r1 =>
 (AV.intK .i64 r1 fun i2 =>
 (cond (i2 != 0)
 (some (.tup [.int .i64 0, .int .i64 i2]))
 ((cp F_civil_number [.int .i64 a0_0, .int .i64 a0_1, .int .i64 a0_2]).bind fun r3 =>
 (AV.intK .i64 r3 fun i4 =>
 (some (.tup [.int .i64 i4, .int .i64 0])))))))
theorem eq_civil_Days (n : Nat) (a0_0 : Int) (a0_1 : Int) (a0_2 : Int) : CP C (n + 1) F_civil_Days [.agg [.int .i64 a0_0, .int .i64 a0_1, .int .i64 a0_2]] = R_civil_Days (CP C n) n a0_0 a0_1 a0_2 := by kernel_rfl
-- law06_awake
def R_law06_awake (cp : FuncId → List AV → Option AV) (_n : Nat) : Option AV :=
 ((cp F_civil_Days [.agg [.int .i64 2000, .int .i64 3, .int .i64 1]]).bind fun r1 =>
 (AV.tupK r1 fun l2 =>
 (consK l2 fun v3 l4 =>
 (AV.intK .i64 v3 fun i5 =>
 (consK l4 fun v6 l7 =>
 (AV.intK .i64 v6 fun i8 =>
 (nilK l7
 ((cp F_civil_Days [.agg [.int .i64 2023, .int .i64 2, .int .i64 29]]).bind fun r9 =>
 (AV.tupK r9 fun l10 =>
 (consK l10 fun v11 l12 =>
 (AV.intK .i64 v11 fun i13 =>
 (consK l12 fun v14 l15 =>
 (AV.intK .i64 v14 fun i16 =>
 (nilK l15
 ((cp F_civil_Days [.agg [.int .i64 10000, .int .i64 1, .int .i64 1]]).bind fun r17 =>
 (AV.tupK r17 fun l18 =>
 (consK l18 fun v19 l20 =>
 (AV.intK .i64 v19 fun i21 =>
 (consK l20 fun v22 l23 =>
 (AV.intK .i64 v22 fun i24 =>
 (nilK l23
 ((cp F_civil_Days [.agg [.int .i64 10000, .int .i64 13, .int .i64 1]]).bind fun r25 =>
 (AV.tupK r25 fun l26 =>
 (consK l26 fun v27 l28 =>
 (AV.intK .i64 v27 fun i29 =>
 (consK l28 fun v30 l31 =>
 (AV.intK .i64 v30 fun i32 =>
 (nilK l31
 ((cp F_civil_OfOrdinal [.int .i64 2024, .int .i64 366]).bind fun r33 =>
 (AV.tupK r33 fun l34 =>
 (consK l34 fun v35 l36 =>
 (AV.aggK v35 fun l37 =>
 (consK l37 fun v38 l39 =>
 (AV.intK .i64 v38 fun i40 =>
 (consK l39 fun v41 l42 =>
 (AV.intK .i64 v41 fun i43 =>
 (consK l42 fun v44 l45 =>
 (AV.intK .i64 v44 fun i46 =>
 (nilK l45
 (consK l36 fun v47 l48 =>
 (AV.intK .i64 v47 fun i49 =>
 (nilK l48
 (cond (i5 == 11017)
 (cond (i8 == 0)
 (cond (i16 == 7)
 (cond (i24 == 8)
 (cond (i32 == 7)
 ((cp F_civil_Weekday [.int .i64 11017]).bind fun r50 =>
 (AV.intK .i64 r50 fun i51 =>
 (cond (i51 == 3)
 (cond ((i40 == 2024) && ((i43 == 12) && ((i46 == 31) && true)))
 (some (.bool (i49 == 0)))
 (some (.bool false)))
 (some (.bool false)))))
 (some (.bool false)))
 (some (.bool false)))
 (some (.bool false)))
 (some (.bool false)))
 (some (.bool false)))))))))))))))))))))))))))))))))))))))))))))
theorem eq_law06_awake (n : Nat) : CP C (n + 1) F_law06_awake [] = R_law06_awake (CP C n) n := by kernel_rfl
-- law06_CivilMonths
def R_law06_CivilMonths (cp : FuncId → List AV → Option AV) (_n : Nat) (a0 : Int) (a1 : Int) : Option AV :=
 ((cp F_civil_Leap [.int .i64 a0]).bind fun r1 =>
 (AV.boolK r1 fun b2 =>
 ((cp F_ref06_Leap [.int .i64 a0]).bind fun r3 =>
 (AV.boolK r3 fun b4 =>
 (cond (b2 == b4)
 ((cp F_civil_MonthDays [.int .i64 a0, .int .i64 a1]).bind fun r5 =>
 (AV.intK .i64 r5 fun i6 =>
 ((cp F_ref06_MonthDays [.int .i64 a0, .int .i64 a1]).bind fun r7 =>
 (AV.intK .i64 r7 fun i8 =>
 (cond (i6 == i8)
 ((cp F_law06_awake []).bind fun r9 =>
 (AV.boolK r9 fun b10 =>
 (some (.bool b10))))
 (some (.bool false)))))))
 (some (.bool false)))))))
theorem eq_law06_CivilMonths (n : Nat) (a0 : Int) (a1 : Int) : CP C (n + 1) F_law06_CivilMonths [.int .i64 a0, .int .i64 a1] = R_law06_CivilMonths (CP C n) n a0 a1 := by kernel_rfl
-- ref06_YearDays
def R_ref06_YearDays (cp : FuncId → List AV → Option AV) (_n : Nat) (a0 : Int) : Option AV :=
 ((cp F_ref06_Leap [.int .i64 a0]).bind fun r1 =>
 (AV.boolK r1 fun b2 =>
 (cond b2
 (some (.int .i64 366))
 (some (.int .i64 365)))))
theorem eq_ref06_YearDays (n : Nat) (a0 : Int) : CP C (n + 1) F_ref06_YearDays [.int .i64 a0] = R_ref06_YearDays (CP C n) n a0 := by kernel_rfl
-- ref06_DateOf
def S_ref06_DateOf_248 (x0 : Int) (x1 : Int) : St := ⟨[.junk, .junk, .ptr (some (0, 0)), .junk, .int .i64 x0, .int .i64 x1, .junk, .junk, .junk, .junk, .junk, .junk, .junk, .junk, .junk, .junk, .junk, .junk, .junk, .junk, .junk, .junk, .junk, .junk, .junk, .junk, .junk, .junk, .junk, .junk, .junk, .junk, .junk, .junk, .junk, .junk, .junk, .junk, .junk, .junk, .junk, .junk, .junk, .junk, .junk, .junk, .junk, .junk, .junk, .junk, .junk, .junk, .junk, .junk, .junk], [.cells 27 [.int .i64 0, .int .i64 0, .int .i64 0]]⟩
def S_ref06_DateOf_504 (x0 : Int) (x1 : Int) : St := ⟨[.junk, .junk, .ptr (some (0, 0)), .junk, .int .i64 x0, .int .i64 x1, .junk, .junk, .junk, .junk, .junk, .junk, .junk, .junk, .junk, .junk, .junk, .junk, .junk, .junk, .junk, .junk, .junk, .junk, .junk, .junk, .junk, .junk, .junk, .junk, .junk, .junk, .junk, .junk, .junk, .junk, .junk, .junk, .junk, .junk, .junk, .junk, .junk, .junk, .junk, .junk, .junk, .junk, .junk, .junk, .junk, .junk, .junk, .junk, .junk], [.cells 27 [.int .i64 0, .int .i64 0, .int .i64 0]]⟩
def S_ref06_DateOf_1016 (x0 : Int) (x1 : Int) : St := ⟨[.junk, .junk, .ptr (some (0, 0)), .junk, .int .i64 x0, .int .i64 x1, .junk, .junk, .junk, .junk, .junk, .junk, .junk, .junk, .junk, .junk, .junk, .junk, .junk, .junk, .junk, .junk, .junk, .junk, .junk, .junk, .junk, .junk, .junk, .junk, .junk, .junk, .junk, .junk, .junk, .junk, .junk, .junk, .junk, .junk, .junk, .junk, .junk, .junk, .junk, .junk, .junk, .junk, .junk, .junk, .junk, .junk, .junk, .junk, .junk], [.cells 27 [.int .i64 0, .int .i64 0, .int .i64 0]]⟩
def S_ref06_DateOf_4088 (x0 : Int) (x1 : Int) (x2 : Int) : St := ⟨[.junk, .junk, .ptr (some (0, 0)), .junk, .int .i64 x0, .int .i64 x1, .int .i64 x2, .junk, .junk, .junk, .junk, .junk, .junk, .junk, .junk, .junk, .junk, .junk, .junk, .junk, .junk, .junk, .junk, .junk, .junk, .junk, .junk, .junk, .junk, .junk, .junk, .junk, .junk, .junk, .junk, .junk, .junk, .junk, .junk, .junk, .junk, .junk, .junk, .junk, .junk, .junk, .junk, .junk, .junk, .junk, .junk, .junk, .junk, .junk, .junk], [.cells 27 [.int .i64 0, .int .i64 0, .int .i64 0]]⟩
def T_ref06_DateOf_4088 (cp : FuncId → List AV → Option AV) (x0 : Int) (x1 : Int) (x2 : Int) (r4088 : Int → Int → Int → Option AV) : Option AV :=
 ((cp F_ref06_MonthDays [.int .i64 x0, .int .i64 x2]).bind fun r1 =>
 (AV.intK .i64 r1 fun i2 =>
 (cond (decide (x1 ≥ i2))
 ((cp F_ref06_MonthDays [.int .i64 x0, .int .i64 x2]).bind fun r3 =>
 (AV.intK .i64 r3 fun i4 =>
 (r4088 x0 (IntKind.i64.wrap (x1 - i4)) (IntKind.i64.wrap (x2 + 1)))))
 (some (.tup [.agg [.int .i64 x0, .int .i64 x2, .int .i64 (IntKind.i64.wrap (x1 + 1))], .int .i64 0])))))
theorem K_ref06_DateOf_4088 (j : Jump) (n : Nat) (m4088 : Nat) (x0 : Int) (x1 : Int) (x2 : Int) : enter (topEnv C (CP C n) n F_ref06_DateOf) (some j) (bodyOf C.P F_ref06_DateOf) (endOf C.P F_ref06_DateOf) [false, false, false, true, true, true, true, true, true, true, true] [(m4088 + 1)] (S_ref06_DateOf_4088 x0 x1 x2) = T_ref06_DateOf_4088 (CP C n) x0 x1 x2 (fun x0 x1 x2 => j [false, false, false, true, true, true, true, true, true, true, true] [m4088] (S_ref06_DateOf_4088 x0 x1 x2)) := by kernel_rfl
def J_ref06_DateOf_4088 (cp : FuncId → List AV → Option AV) (n : Nat) : Nat → Int → Int → Int → Option AV
  | 0 => (fun x0 x1 x2 => none)
  | m + 1 => (fun x0 x1 x2 => T_ref06_DateOf_4088 cp x0 x1 x2 (J_ref06_DateOf_4088 cp n m))
theorem Js_ref06_DateOf_4088 (cp : FuncId → List AV → Option AV) (n : Nat) (m : Nat) (x0 : Int) (x1 : Int) (x2 : Int) : J_ref06_DateOf_4088 cp n (m + 1) x0 x1 x2 = T_ref06_DateOf_4088 cp x0 x1 x2 (J_ref06_DateOf_4088 cp n m) := of_eq_true (eq_self _)
theorem JE_ref06_DateOf_4088 (n : Nat) : ∀ (m : Nat) (x0 : Int) (x1 : Int) (x2 : Int), jT (topEnv C (CP C n) n F_ref06_DateOf) (bodyOf C.P F_ref06_DateOf) (endOf C.P F_ref06_DateOf) [false, false, false, true, true, true, true, true, true, true, true] [m] (S_ref06_DateOf_4088 x0 x1 x2) = J_ref06_DateOf_4088 (CP C n) n m x0 x1 x2
  | 0, x0, x1, x2 => (jT_eq _ _ _ _ _ _).trans (by kernel_rfl)
  | m + 1, x0, x1, x2 => (jT_eq _ _ _ _ _ _).trans ((K_ref06_DateOf_4088 _ n m x0 x1 x2).trans (congrArg (T_ref06_DateOf_4088 (CP C n) x0 x1 x2) (funext fun x0 => (funext fun x1 => (funext fun x2 => (JE_ref06_DateOf_4088 n m) x0 x1 x2)))))
def T_ref06_DateOf_1016 (cp : FuncId → List AV → Option AV) (x0 : Int) (x1 : Int) (r1016 : Int → Int → Option AV) (j4088 : Int → Int → Int → Option AV) : Option AV :=
 ((cp F_ref06_YearDays [.int .i64 x0]).bind fun r1 =>
 (AV.intK .i64 r1 fun i2 =>
 (cond (decide (x1 ≥ i2))
 ((cp F_ref06_YearDays [.int .i64 x0]).bind fun r3 =>
 (AV.intK .i64 r3 fun i4 =>
 (r1016 (IntKind.i64.wrap (x0 + 1)) (IntKind.i64.wrap (x1 - i4)))))
 (j4088 x0 x1 1))))
theorem K_ref06_DateOf_1016 (j : Jump) (n : Nat) (m1016 : Nat) (x0 : Int) (x1 : Int) : enter (topEnv C (CP C n) n F_ref06_DateOf) (some j) (bodyOf C.P F_ref06_DateOf) (endOf C.P F_ref06_DateOf) [false, false, false, true, true, true, true, true, true] [(m1016 + 1)] (S_ref06_DateOf_1016 x0 x1) = T_ref06_DateOf_1016 (CP C n) x0 x1 (fun x0 x1 => j [false, false, false, true, true, true, true, true, true] [m1016] (S_ref06_DateOf_1016 x0 x1)) (fun x0 x1 x2 => j [false, false, false, true, true, true, true, true, true, true, true] [(n + 300)] (S_ref06_DateOf_4088 x0 x1 x2)) := by kernel_rfl
def J_ref06_DateOf_1016 (cp : FuncId → List AV → Option AV) (n : Nat) : Nat → Int → Int → Option AV
  | 0 => (fun x0 x1 => none)
  | m + 1 => (fun x0 x1 => T_ref06_DateOf_1016 cp x0 x1 (J_ref06_DateOf_1016 cp n m) (J_ref06_DateOf_4088 cp n (n + 300)))
theorem Js_ref06_DateOf_1016 (cp : FuncId → List AV → Option AV) (n : Nat) (m : Nat) (x0 : Int) (x1 : Int) : J_ref06_DateOf_1016 cp n (m + 1) x0 x1 = T_ref06_DateOf_1016 cp x0 x1 (J_ref06_DateOf_1016 cp n m) (J_ref06_DateOf_4088 cp n (n + 300)) := of_eq_true (eq_self _)
theorem JE_ref06_DateOf_1016 (n : Nat) : ∀ (m : Nat) (x0 : Int) (x1 : Int), jT (topEnv C (CP C n) n F_ref06_DateOf) (bodyOf C.P F_ref06_DateOf) (endOf C.P F_ref06_DateOf) [false, false, false, true, true, true, true, true, true] [m] (S_ref06_DateOf_1016 x0 x1) = J_ref06_DateOf_1016 (CP C n) n m x0 x1
  | 0, x0, x1 => (jT_eq _ _ _ _ _ _).trans (by kernel_rfl)
  | m + 1, x0, x1 => (jT_eq _ _ _ _ _ _).trans ((K_ref06_DateOf_1016 _ n m x0 x1).trans (congr (congrArg (T_ref06_DateOf_1016 (CP C n) x0 x1) (funext fun x0 => (funext fun x1 => (JE_ref06_DateOf_1016 n m) x0 x1))) (funext fun x0 => (funext fun x1 => (funext fun x2 => (JE_ref06_DateOf_4088 n (n + 300)) x0 x1 x2)))))
def T_ref06_DateOf_504 (cp : FuncId → List AV → Option AV) (x0 : Int) (x1 : Int) (r504 : Int → Int → Option AV) (j1016 : Int → Int → Option AV) : Option AV :=
 (cond (decide (x1 ≥ 146097))
 (r504 (IntKind.i64.wrap (x0 + 400)) (IntKind.i64.wrap (x1 - 146097)))
 (j1016 x0 x1))
theorem K_ref06_DateOf_504 (j : Jump) (n : Nat) (m504 : Nat) (x0 : Int) (x1 : Int) : enter (topEnv C (CP C n) n F_ref06_DateOf) (some j) (bodyOf C.P F_ref06_DateOf) (endOf C.P F_ref06_DateOf) [false, false, false, true, true, true, true, true] [(m504 + 1)] (S_ref06_DateOf_504 x0 x1) = T_ref06_DateOf_504 (CP C n) x0 x1 (fun x0 x1 => j [false, false, false, true, true, true, true, true] [m504] (S_ref06_DateOf_504 x0 x1)) (fun x0 x1 => j [false, false, false, true, true, true, true, true, true] [(n + 300)] (S_ref06_DateOf_1016 x0 x1)) := by kernel_rfl
def J_ref06_DateOf_504 (cp : FuncId → List AV → Option AV) (n : Nat) : Nat → Int → Int → Option AV
  | 0 => (fun x0 x1 => none)
  | m + 1 => (fun x0 x1 => T_ref06_DateOf_504 cp x0 x1 (J_ref06_DateOf_504 cp n m) (J_ref06_DateOf_1016 cp n (n + 300)))
theorem Js_ref06_DateOf_504 (cp : FuncId → List AV → Option AV) (n : Nat) (m : Nat) (x0 : Int) (x1 : Int) : J_ref06_DateOf_504 cp n (m + 1) x0 x1 = T_ref06_DateOf_504 cp x0 x1 (J_ref06_DateOf_504 cp n m) (J_ref06_DateOf_1016 cp n (n + 300)) := of_eq_true (eq_self _)
theorem JE_ref06_DateOf_504 (n : Nat) : ∀ (m : Nat) (x0 : Int) (x1 : Int), jT (topEnv C (CP C n) n F_ref06_DateOf) (bodyOf C.P F_ref06_DateOf) (endOf C.P F_ref06_DateOf) [false, false, false, true, true, true, true, true] [m] (S_ref06_DateOf_504 x0 x1) = J_ref06_DateOf_504 (CP C n) n m x0 x1
  | 0, x0, x1 => (jT_eq _ _ _ _ _ _).trans (by kernel_rfl)
  | m + 1, x0, x1 => (jT_eq _ _ _ _ _ _).trans ((K_ref06_DateOf_504 _ n m x0 x1).trans (congr (congrArg (T_ref06_DateOf_504 (CP C n) x0 x1) (funext fun x0 => (funext fun x1 => (JE_ref06_DateOf_504 n m) x0 x1))) (funext fun x0 => (funext fun x1 => (JE_ref06_DateOf_1016 n (n + 300)) x0 x1))))
def T_ref06_DateOf_248 (cp : FuncId → List AV → Option AV) (x0 : Int) (x1 : Int) (r248 : Int → Int → Option AV) (j504 : Int → Int → Option AV) : Option AV :=
 (cond (decide (x1 < 0))
 (r248 (IntKind.i64.wrap (x0 - 400)) (IntKind.i64.wrap (x1 + 146097)))
 (j504 x0 x1))
theorem K_ref06_DateOf_248 (j : Jump) (n : Nat) (m248 : Nat) (x0 : Int) (x1 : Int) : enter (topEnv C (CP C n) n F_ref06_DateOf) (some j) (bodyOf C.P F_ref06_DateOf) (endOf C.P F_ref06_DateOf) [false, false, false, true, true, true, true] [(m248 + 1)] (S_ref06_DateOf_248 x0 x1) = T_ref06_DateOf_248 (CP C n) x0 x1 (fun x0 x1 => j [false, false, false, true, true, true, true] [m248] (S_ref06_DateOf_248 x0 x1)) (fun x0 x1 => j [false, false, false, true, true, true, true, true] [(n + 300)] (S_ref06_DateOf_504 x0 x1)) := by kernel_rfl
def J_ref06_DateOf_248 (cp : FuncId → List AV → Option AV) (n : Nat) : Nat → Int → Int → Option AV
  | 0 => (fun x0 x1 => none)
  | m + 1 => (fun x0 x1 => T_ref06_DateOf_248 cp x0 x1 (J_ref06_DateOf_248 cp n m) (J_ref06_DateOf_504 cp n (n + 300)))
theorem Js_ref06_DateOf_248 (cp : FuncId → List AV → Option AV) (n : Nat) (m : Nat) (x0 : Int) (x1 : Int) : J_ref06_DateOf_248 cp n (m + 1) x0 x1 = T_ref06_DateOf_248 cp x0 x1 (J_ref06_DateOf_248 cp n m) (J_ref06_DateOf_504 cp n (n + 300)) := of_eq_true (eq_self _)
theorem JE_ref06_DateOf_248 (n : Nat) : ∀ (m : Nat) (x0 : Int) (x1 : Int), jT (topEnv C (CP C n) n F_ref06_DateOf) (bodyOf C.P F_ref06_DateOf) (endOf C.P F_ref06_DateOf) [false, false, false, true, true, true, true] [m] (S_ref06_DateOf_248 x0 x1) = J_ref06_DateOf_248 (CP C n) n m x0 x1
  | 0, x0, x1 => (jT_eq _ _ _ _ _ _).trans (by kernel_rfl)
  | m + 1, x0, x1 => (jT_eq _ _ _ _ _ _).trans ((K_ref06_DateOf_248 _ n m x0 x1).trans (congr (congrArg (T_ref06_DateOf_248 (CP C n) x0 x1) (funext fun x0 => (funext fun x1 => (JE_ref06_DateOf_248 n m) x0 x1))) (funext fun x0 => (funext fun x1 => (JE_ref06_DateOf_504 n (n + 300)) x0 x1))))
def T_ref06_DateOf_1 (cp : FuncId → List AV → Option AV) (a0 : Int) (j248 : Int → Int → Option AV) : Option AV :=
 (cond (decide (a0 < (-4371587)))
 (some (.tup [.agg [.int .i64 0, .int .i64 0, .int .i64 0], .int .i64 8]))
 (cond (decide (a0 > 2932896))
 (some (.tup [.agg [.int .i64 0, .int .i64 0, .int .i64 0], .int .i64 8]))
 (j248 2000 (IntKind.i64.wrap (a0 - 10957)))))
theorem K_ref06_DateOf_1 (j : Jump) (n : Nat) (a0 : Int) : ex (topEnv C (CP C n) n F_ref06_DateOf) (some j) (bodyOf C.P F_ref06_DateOf) 1 [] [] (endOf C.P F_ref06_DateOf) (startOf C.P F_ref06_DateOf [.int .i64 a0]) = T_ref06_DateOf_1 (CP C n) a0 (fun x0 x1 => j [false, false, false, true, true, true, true] [(n + 300)] (S_ref06_DateOf_248 x0 x1)) := by kernel_rfl
def R_ref06_DateOf (cp : FuncId → List AV → Option AV) (n : Nat) (a0 : Int) : Option AV := T_ref06_DateOf_1 cp a0 (J_ref06_DateOf_248 cp n (n + 300))
theorem eq_ref06_DateOf (n : Nat) (a0 : Int) : CP C (n + 1) F_ref06_DateOf [.int .i64 a0] = R_ref06_DateOf (CP C n) n a0 :=
  (CP_pure C n F_ref06_DateOf _ (by kernel_rfl) (by kernel_rfl)).trans ((K_ref06_DateOf_1 _ n a0).trans (congrArg (T_ref06_DateOf_1 (CP C n) a0) (funext fun x0 => (funext fun x1 => (JE_ref06_DateOf_248 n (n + 300)) x0 x1))))
-- ref06_start
def S_ref06_start_120 (x0 : Int) (x1 : Int) (x2 : Int) : St := ⟨[.int .i64 x0, .junk, .junk, .int .i64 x1, .int .i64 x2, .junk, .junk, .junk, .junk, .junk, .junk, .junk, .junk, .junk, .junk, .junk, .junk, .junk, .junk, .junk, .junk, .junk, .junk, .junk, .junk, .junk, .junk, .junk, .junk, .junk], []⟩
def S_ref06_start_248 (x0 : Int) (x1 : Int) (x2 : Int) : St := ⟨[.int .i64 x0, .junk, .junk, .int .i64 x1, .int .i64 x2, .junk, .junk, .junk, .junk, .junk, .junk, .junk, .junk, .junk, .junk, .junk, .junk, .junk, .junk, .junk, .junk, .junk, .junk, .junk, .junk, .junk, .junk, .junk, .junk, .junk], []⟩
def S_ref06_start_504 (x0 : Int) (x1 : Int) (x2 : Int) : St := ⟨[.int .i64 x0, .junk, .junk, .int .i64 x1, .int .i64 x2, .junk, .junk, .junk, .junk, .junk, .junk, .junk, .junk, .junk, .junk, .junk, .junk, .junk, .junk, .junk, .junk, .junk, .junk, .junk, .junk, .junk, .junk, .junk, .junk, .junk], []⟩
def T_ref06_start_504 (cp : FuncId → List AV → Option AV) (x0 : Int) (x1 : Int) (x2 : Int) (r504 : Int → Int → Int → Option AV) : Option AV :=
 (cond (decide (x2 < x0))
 ((cp F_ref06_YearDays [.int .i64 x2]).bind fun r1 =>
 (AV.intK .i64 r1 fun i2 =>
 (r504 x0 (IntKind.i64.wrap (x1 + i2)) (IntKind.i64.wrap (x2 + 1)))))
 (some (.int .i64 x1)))
theorem K_ref06_start_504 (j : Jump) (n : Nat) (m504 : Nat) (x0 : Int) (x1 : Int) (x2 : Int) : enter (topEnv C (CP C n) n F_ref06_start) (some j) (bodyOf C.P F_ref06_start) (endOf C.P F_ref06_start) [false, false, false, true, true, true, true, true] [(m504 + 1)] (S_ref06_start_504 x0 x1 x2) = T_ref06_start_504 (CP C n) x0 x1 x2 (fun x0 x1 x2 => j [false, false, false, true, true, true, true, true] [m504] (S_ref06_start_504 x0 x1 x2)) := by kernel_rfl
def J_ref06_start_504 (cp : FuncId → List AV → Option AV) (n : Nat) : Nat → Int → Int → Int → Option AV
  | 0 => (fun x0 x1 x2 => none)
  | m + 1 => (fun x0 x1 x2 => T_ref06_start_504 cp x0 x1 x2 (J_ref06_start_504 cp n m))
theorem Js_ref06_start_504 (cp : FuncId → List AV → Option AV) (n : Nat) (m : Nat) (x0 : Int) (x1 : Int) (x2 : Int) : J_ref06_start_504 cp n (m + 1) x0 x1 x2 = T_ref06_start_504 cp x0 x1 x2 (J_ref06_start_504 cp n m) := of_eq_true (eq_self _)
theorem JE_ref06_start_504 (n : Nat) : ∀ (m : Nat) (x0 : Int) (x1 : Int) (x2 : Int), jT (topEnv C (CP C n) n F_ref06_start) (bodyOf C.P F_ref06_start) (endOf C.P F_ref06_start) [false, false, false, true, true, true, true, true] [m] (S_ref06_start_504 x0 x1 x2) = J_ref06_start_504 (CP C n) n m x0 x1 x2
  | 0, x0, x1, x2 => (jT_eq _ _ _ _ _ _).trans (by kernel_rfl)
  | m + 1, x0, x1, x2 => (jT_eq _ _ _ _ _ _).trans ((K_ref06_start_504 _ n m x0 x1 x2).trans (congrArg (T_ref06_start_504 (CP C n) x0 x1 x2) (funext fun x0 => (funext fun x1 => (funext fun x2 => (JE_ref06_start_504 n m) x0 x1 x2)))))
def T_ref06_start_248 (cp : FuncId → List AV → Option AV) (x0 : Int) (x1 : Int) (x2 : Int) (r248 : Int → Int → Int → Option AV) (j504 : Int → Int → Int → Option AV) : Option AV :=
 (cond (decide (x2 > x0))
 (r248 x0 (IntKind.i64.wrap (x1 - 146097)) (IntKind.i64.wrap (x2 - 400)))
 (j504 x0 x1 x2))
theorem K_ref06_start_248 (j : Jump) (n : Nat) (m248 : Nat) (x0 : Int) (x1 : Int) (x2 : Int) : enter (topEnv C (CP C n) n F_ref06_start) (some j) (bodyOf C.P F_ref06_start) (endOf C.P F_ref06_start) [false, false, false, true, true, true, true] [(m248 + 1)] (S_ref06_start_248 x0 x1 x2) = T_ref06_start_248 (CP C n) x0 x1 x2 (fun x0 x1 x2 => j [false, false, false, true, true, true, true] [m248] (S_ref06_start_248 x0 x1 x2)) (fun x0 x1 x2 => j [false, false, false, true, true, true, true, true] [(n + 300)] (S_ref06_start_504 x0 x1 x2)) := by kernel_rfl
def J_ref06_start_248 (cp : FuncId → List AV → Option AV) (n : Nat) : Nat → Int → Int → Int → Option AV
  | 0 => (fun x0 x1 x2 => none)
  | m + 1 => (fun x0 x1 x2 => T_ref06_start_248 cp x0 x1 x2 (J_ref06_start_248 cp n m) (J_ref06_start_504 cp n (n + 300)))
theorem Js_ref06_start_248 (cp : FuncId → List AV → Option AV) (n : Nat) (m : Nat) (x0 : Int) (x1 : Int) (x2 : Int) : J_ref06_start_248 cp n (m + 1) x0 x1 x2 = T_ref06_start_248 cp x0 x1 x2 (J_ref06_start_248 cp n m) (J_ref06_start_504 cp n (n + 300)) := of_eq_true (eq_self _)
theorem JE_ref06_start_248 (n : Nat) : ∀ (m : Nat) (x0 : Int) (x1 : Int) (x2 : Int), jT (topEnv C (CP C n) n F_ref06_start) (bodyOf C.P F_ref06_start) (endOf C.P F_ref06_start) [false, false, false, true, true, true, true] [m] (S_ref06_start_248 x0 x1 x2) = J_ref06_start_248 (CP C n) n m x0 x1 x2
  | 0, x0, x1, x2 => (jT_eq _ _ _ _ _ _).trans (by kernel_rfl)
  | m + 1, x0, x1, x2 => (jT_eq _ _ _ _ _ _).trans ((K_ref06_start_248 _ n m x0 x1 x2).trans (congr (congrArg (T_ref06_start_248 (CP C n) x0 x1 x2) (funext fun x0 => (funext fun x1 => (funext fun x2 => (JE_ref06_start_248 n m) x0 x1 x2)))) (funext fun x0 => (funext fun x1 => (funext fun x2 => (JE_ref06_start_504 n (n + 300)) x0 x1 x2)))))
def T_ref06_start_120 (cp : FuncId → List AV → Option AV) (x0 : Int) (x1 : Int) (x2 : Int) (r120 : Int → Int → Int → Option AV) (j248 : Int → Int → Int → Option AV) : Option AV :=
 (cond (decide ((IntKind.i64.wrap (x2 + 400)) ≤ x0))
 (r120 x0 (IntKind.i64.wrap (x1 + 146097)) (IntKind.i64.wrap (x2 + 400)))
 (j248 x0 x1 x2))
theorem K_ref06_start_120 (j : Jump) (n : Nat) (m120 : Nat) (x0 : Int) (x1 : Int) (x2 : Int) : enter (topEnv C (CP C n) n F_ref06_start) (some j) (bodyOf C.P F_ref06_start) (endOf C.P F_ref06_start) [false, false, false, true, true, true] [(m120 + 1)] (S_ref06_start_120 x0 x1 x2) = T_ref06_start_120 (CP C n) x0 x1 x2 (fun x0 x1 x2 => j [false, false, false, true, true, true] [m120] (S_ref06_start_120 x0 x1 x2)) (fun x0 x1 x2 => j [false, false, false, true, true, true, true] [(n + 300)] (S_ref06_start_248 x0 x1 x2)) := by kernel_rfl
def J_ref06_start_120 (cp : FuncId → List AV → Option AV) (n : Nat) : Nat → Int → Int → Int → Option AV
  | 0 => (fun x0 x1 x2 => none)
  | m + 1 => (fun x0 x1 x2 => T_ref06_start_120 cp x0 x1 x2 (J_ref06_start_120 cp n m) (J_ref06_start_248 cp n (n + 300)))
theorem Js_ref06_start_120 (cp : FuncId → List AV → Option AV) (n : Nat) (m : Nat) (x0 : Int) (x1 : Int) (x2 : Int) : J_ref06_start_120 cp n (m + 1) x0 x1 x2 = T_ref06_start_120 cp x0 x1 x2 (J_ref06_start_120 cp n m) (J_ref06_start_248 cp n (n + 300)) := of_eq_true (eq_self _)
theorem JE_ref06_start_120 (n : Nat) : ∀ (m : Nat) (x0 : Int) (x1 : Int) (x2 : Int), jT (topEnv C (CP C n) n F_ref06_start) (bodyOf C.P F_ref06_start) (endOf C.P F_ref06_start) [false, false, false, true, true, true] [m] (S_ref06_start_120 x0 x1 x2) = J_ref06_start_120 (CP C n) n m x0 x1 x2
  | 0, x0, x1, x2 => (jT_eq _ _ _ _ _ _).trans (by kernel_rfl)
  | m + 1, x0, x1, x2 => (jT_eq _ _ _ _ _ _).trans ((K_ref06_start_120 _ n m x0 x1 x2).trans (congr (congrArg (T_ref06_start_120 (CP C n) x0 x1 x2) (funext fun x0 => (funext fun x1 => (funext fun x2 => (JE_ref06_start_120 n m) x0 x1 x2)))) (funext fun x0 => (funext fun x1 => (funext fun x2 => (JE_ref06_start_248 n (n + 300)) x0 x1 x2)))))
def T_ref06_start_1 (cp : FuncId → List AV → Option AV) (a0 : Int) (j120 : Int → Int → Int → Option AV) : Option AV :=
 (j120 a0 10957 2000)
theorem K_ref06_start_1 (j : Jump) (n : Nat) (a0 : Int) : ex (topEnv C (CP C n) n F_ref06_start) (some j) (bodyOf C.P F_ref06_start) 1 [] [] (endOf C.P F_ref06_start) (startOf C.P F_ref06_start [.int .i64 a0]) = T_ref06_start_1 (CP C n) a0 (fun x0 x1 x2 => j [false, false, false, true, true, true] [(n + 300)] (S_ref06_start_120 x0 x1 x2)) := by kernel_rfl
def R_ref06_start (cp : FuncId → List AV → Option AV) (n : Nat) (a0 : Int) : Option AV := T_ref06_start_1 cp a0 (J_ref06_start_120 cp n (n + 300))
theorem eq_ref06_start (n : Nat) (a0 : Int) : CP C (n + 1) F_ref06_start [.int .i64 a0] = R_ref06_start (CP C n) n a0 :=
  (CP_pure C n F_ref06_start _ (by kernel_rfl) (by kernel_rfl)).trans ((K_ref06_start_1 _ n a0).trans (congrArg (T_ref06_start_1 (CP C n) a0) (funext fun x0 => (funext fun x1 => (funext fun x2 => (JE_ref06_start_120 n (n + 300)) x0 x1 x2)))))
-- ref06_OfOrdinal
def R_ref06_OfOrdinal (cp : FuncId → List AV → Option AV) (_n : Nat) (a0 : Int) (a1 : Int) : Option AV :=
 (cond (decide (a1 < 1))
 (some (.tup [.agg [.int .i64 0, .int .i64 0, .int .i64 0], .int .i64 7]))
 ((cp F_ref06_YearDays [.int .i64 a0]).bind fun r1 =>
 (AV.intK .i64 r1 fun i2 =>
 (cond (decide (a1 > i2))
 (some (.tup [.agg [.int .i64 0, .int .i64 0, .int .i64 0], .int .i64 7]))
 (cond (decide (a0 < (-9999)))
 (some (.tup [.agg [.int .i64 0, .int .i64 0, .int .i64 0], .int .i64 8]))
 (cond (decide (a0 > 9999))
 (some (.tup [.agg [.int .i64 0, .int .i64 0, .int .i64 0], .int .i64 8]))
 ((cp F_ref06_start [.int .i64 a0]).bind fun r3 =>
 (AV.intK .i64 r3 fun i4 =>
 ((cp F_ref06_DateOf [.int .i64 (IntKind.i64.wrap ((IntKind.i64.wrap (i4 + a1)) - 1))]).bind fun r5 =>
 (AV.tupK r5 fun l6 =>
 (consK l6 fun v7 l8 =>
 (AV.aggK v7 fun l9 =>
 (consK l9 fun v10 l11 =>
 (AV.intK .i64 v10 fun i12 =>
 (consK l11 fun v13 l14 =>
 (AV.intK .i64 v13 fun i15 =>
 (consK l14 fun v16 l17 =>
 (AV.intK .i64 v16 fun i18 =>
 (nilK l17
 (consK l8 fun v19 l20 =>
 (AV.intK .i64 v19 fun i21 =>
 (nilK l20
 (some (.tup [.agg [.int .i64 i12, .int .i64 i15, .int .i64 i18], .int .i64 i21]))))))))))))))))))))))))
theorem eq_ref06_OfOrdinal (n : Nat) (a0 : Int) (a1 : Int) : CP C (n + 1) F_ref06_OfOrdinal [.int .i64 a0, .int .i64 a1] = R_ref06_OfOrdinal (CP C n) n a0 a1 := by kernel_rfl
-- ref06_Weekday
def R_ref06_Weekday (cp : FuncId → List AV → Option AV) (_n : Nat) (a0 : Int) : Option AV :=
 (cond (decide ((Int.tmod a0 7) < 0))
 (bnd (IntKind.i64.wrap ((IntKind.i64.wrap ((Int.tmod a0 7) + 7)) + 3)) fun y1 =>
 (some (.int .i64 (IntKind.i64.wrap ((Int.tmod y1 7) + 1)))))
 (bnd (IntKind.i64.wrap ((Int.tmod (IntKind.i64.wrap ((Int.tmod a0 7) + 3)) 7) + 1)) fun y2 =>
 (some (.int .i64 y2))))
theorem eq_ref06_Weekday (n : Nat) (a0 : Int) : CP C (n + 1) F_ref06_Weekday [.int .i64 a0] = R_ref06_Weekday (CP C n) n a0 := by kernel_rfl
-- law06_CivilDates
def R_law06_CivilDates (cp : FuncId → List AV → Option AV) (_n : Nat) (a0 : Int) (a1 : Int) (a2 : Int) : Option AV :=
 ((cp F_civil_DateOf [.int .i64 a0]).bind fun r1 =>
 (AV.tupK r1 fun l2 =>
 (consK l2 fun v3 l4 =>
 (AV.aggK v3 fun l5 =>
 (consK l5 fun v6 l7 =>
 (AV.intK .i64 v6 fun i8 =>
 (consK l7 fun v9 l10 =>
 (AV.intK .i64 v9 fun i11 =>
 (consK l10 fun v12 l13 =>
 (AV.intK .i64 v12 fun i14 =>
 (nilK l13
 (consK l4 fun v15 l16 =>
 (AV.intK .i64 v15 fun i17 =>
 (nilK l16
 ((cp F_ref06_DateOf [.int .i64 a0]).bind fun r18 =>
 (AV.tupK r18 fun l19 =>
 (consK l19 fun v20 l21 =>
 (AV.aggK v20 fun l22 =>
 (consK l22 fun v23 l24 =>
 (AV.intK .i64 v23 fun i25 =>
 (consK l24 fun v26 l27 =>
 (AV.intK .i64 v26 fun i28 =>
 (consK l27 fun v29 l30 =>
 (AV.intK .i64 v29 fun i31 =>
 (nilK l30
 (consK l21 fun v32 l33 =>
 (AV.intK .i64 v32 fun i34 =>
 (nilK l33
 ((cp F_civil_OfOrdinal [.int .i64 a1, .int .i64 a2]).bind fun r35 =>
 (AV.tupK r35 fun l36 =>
 (consK l36 fun v37 l38 =>
 (AV.aggK v37 fun l39 =>
 (consK l39 fun v40 l41 =>
 (AV.intK .i64 v40 fun i42 =>
 (consK l41 fun v43 l44 =>
 (AV.intK .i64 v43 fun i45 =>
 (consK l44 fun v46 l47 =>
 (AV.intK .i64 v46 fun i48 =>
 (nilK l47
 (consK l38 fun v49 l50 =>
 (AV.intK .i64 v49 fun i51 =>
 (nilK l50
 ((cp F_ref06_OfOrdinal [.int .i64 a1, .int .i64 a2]).bind fun r52 =>
 (AV.tupK r52 fun l53 =>
 (consK l53 fun v54 l55 =>
 (AV.aggK v54 fun l56 =>
 (consK l56 fun v57 l58 =>
 (AV.intK .i64 v57 fun i59 =>
 (consK l58 fun v60 l61 =>
 (AV.intK .i64 v60 fun i62 =>
 (consK l61 fun v63 l64 =>
 (AV.intK .i64 v63 fun i65 =>
 (nilK l64
 (consK l55 fun v66 l67 =>
 (AV.intK .i64 v66 fun i68 =>
 (nilK l67
 (cond ((i8 == i25) && ((i11 == i28) && ((i14 == i31) && true)))
 (cond (i17 == i34)
 (cond ((i42 == i59) && ((i45 == i62) && ((i48 == i65) && true)))
 (cond (i51 == i68)
 ((cp F_civil_Weekday [.int .i64 a0]).bind fun r69 =>
 (AV.intK .i64 r69 fun i70 =>
 ((cp F_ref06_Weekday [.int .i64 a0]).bind fun r71 =>
 (AV.intK .i64 r71 fun i72 =>
 (cond (i70 == i72)
 ((cp F_law06_awake []).bind fun r73 =>
 (AV.boolK r73 fun b74 =>
 (some (.bool b74))))
 (some (.bool false)))))))
 (some (.bool false)))
 (some (.bool false)))
 (some (.bool false)))
 (some (.bool false)))))))))))))))))))))))))))))))))))))))))))))))))))))))))))
theorem eq_law06_CivilDates (n : Nat) (a0 : Int) (a1 : Int) (a2 : Int) : CP C (n + 1) F_law06_CivilDates [.int .i64 a0, .int .i64 a1, .int .i64 a2] = R_law06_CivilDates (CP C n) n a0 a1 a2 := by kernel_rfl
-- ref06_May
def R_ref06_May (cp : FuncId → List AV → Option AV) (_n : Nat) (a0_0 : Int) (a0_1 : Int) (a0_2 : Int) : Option AV :=
 (cond (decide (a0_2 ≥ 1))
 ((cp F_ref06_MonthDays [.int .i64 a0_0, .int .i64 a0_1]).bind fun r1 =>
 (AV.intK .i64 r1 fun i2 =>
 (some (.bool (decide (a0_2 ≤ i2))))))
 (some (.bool false)))
theorem eq_ref06_May (n : Nat) (a0_0 : Int) (a0_1 : Int) (a0_2 : Int) : CP C (n + 1) F_ref06_May [.agg [.int .i64 a0_0, .int .i64 a0_1, .int .i64 a0_2]] = R_ref06_May (CP C n) n a0_0 a0_1 a0_2 := by kernel_rfl
-- ref06_Check
def R_ref06_Check (cp : FuncId → List AV → Option AV) (_n : Nat) (a0_0 : Int) (a0_1 : Int) (a0_2 : Int) : Option AV :=
 ((cp F_ref06_May [.agg [.int .i64 a0_0, .int .i64 a0_1, .int .i64 a0_2]]).bind fun r1 =>
 (AV.boolK r1 fun b2 =>
 (cond (!b2)
 (some (.int .i64 7))
 (cond (decide (a0_0 < (-9999)))
 (some (.int .i64 8))
 (cond (decide (a0_0 > 9999))
 (some (.int .i64 8))
 (some (.int .i64 0)))))))
theorem eq_ref06_Check (n : Nat) (a0_0 : Int) (a0_1 : Int) (a0_2 : Int) : CP C (n + 1) F_ref06_Check [.agg [.int .i64 a0_0, .int .i64 a0_1, .int .i64 a0_2]] = R_ref06_Check (CP C n) n a0_0 a0_1 a0_2 := by kernel_rfl
-- ref06_Number
def S_ref06_Number_116 (x0 : Int) (x1 : Int) (x2 : Int) (x3 : Int) (x4 : Int) : St := ⟨[.junk, .ptr (some (0, 0)), .junk, .int .i64 x0, .int .i64 x1, .junk, .junk, .junk, .junk, .junk, .junk, .junk, .junk, .junk, .junk, .junk, .junk, .junk, .junk, .junk, .junk, .junk, .junk, .junk, .junk], [.cells 27 [.int .i64 x2, .int .i64 x3, .int .i64 x4]]⟩
def T_ref06_Number_116 (cp : FuncId → List AV → Option AV) (x0 : Int) (x1 : Int) (x2 : Int) (x3 : Int) (x4 : Int) (r116 : Int → Int → Int → Int → Int → Option AV) : Option AV :=
 (cond (decide (x1 < x3))
 ((cp F_ref06_MonthDays [.int .i64 x2, .int .i64 x1]).bind fun r1 =>
 (AV.intK .i64 r1 fun i2 =>
 (r116 (IntKind.i64.wrap (x0 + i2)) (IntKind.i64.wrap (x1 + 1)) x2 x3 x4)))
 (some (.int .i64 (IntKind.i64.wrap ((IntKind.i64.wrap (x0 + x4)) - 1)))))
theorem K_ref06_Number_116 (j : Jump) (n : Nat) (m116 : Nat) (x0 : Int) (x1 : Int) (x2 : Int) (x3 : Int) (x4 : Int) : enter (topEnv C (CP C n) n F_ref06_Number) (some j) (bodyOf C.P F_ref06_Number) (endOf C.P F_ref06_Number) [false, false, true, false, true, true] [(m116 + 1)] (S_ref06_Number_116 x0 x1 x2 x3 x4) = T_ref06_Number_116 (CP C n) x0 x1 x2 x3 x4 (fun x0 x1 x2 x3 x4 => j [false, false, true, false, true, true] [m116] (S_ref06_Number_116 x0 x1 x2 x3 x4)) := by kernel_rfl
def J_ref06_Number_116 (cp : FuncId → List AV → Option AV) (n : Nat) : Nat → Int → Int → Int → Int → Int → Option AV
  | 0 => (fun x0 x1 x2 x3 x4 => none)
  | m + 1 => (fun x0 x1 x2 x3 x4 => T_ref06_Number_116 cp x0 x1 x2 x3 x4 (J_ref06_Number_116 cp n m))
theorem Js_ref06_Number_116 (cp : FuncId → List AV → Option AV) (n : Nat) (m : Nat) (x0 : Int) (x1 : Int) (x2 : Int) (x3 : Int) (x4 : Int) : J_ref06_Number_116 cp n (m + 1) x0 x1 x2 x3 x4 = T_ref06_Number_116 cp x0 x1 x2 x3 x4 (J_ref06_Number_116 cp n m) := of_eq_true (eq_self _)
theorem JE_ref06_Number_116 (n : Nat) : ∀ (m : Nat) (x0 : Int) (x1 : Int) (x2 : Int) (x3 : Int) (x4 : Int), jT (topEnv C (CP C n) n F_ref06_Number) (bodyOf C.P F_ref06_Number) (endOf C.P F_ref06_Number) [false, false, true, false, true, true] [m] (S_ref06_Number_116 x0 x1 x2 x3 x4) = J_ref06_Number_116 (CP C n) n m x0 x1 x2 x3 x4
  | 0, x0, x1, x2, x3, x4 => (jT_eq _ _ _ _ _ _).trans (by kernel_rfl)
  | m + 1, x0, x1, x2, x3, x4 => (jT_eq _ _ _ _ _ _).trans ((K_ref06_Number_116 _ n m x0 x1 x2 x3 x4).trans (congrArg (T_ref06_Number_116 (CP C n) x0 x1 x2 x3 x4) (funext fun x0 => (funext fun x1 => (funext fun x2 => (funext fun x3 => (funext fun x4 => (JE_ref06_Number_116 n m) x0 x1 x2 x3 x4)))))))
def T_ref06_Number_1 (cp : FuncId → List AV → Option AV) (a0_0 : Int) (a0_1 : Int) (a0_2 : Int) (j116 : Int → Int → Int → Int → Int → Option AV) : Option AV :=
 ((cp F_ref06_start [.int .i64 a0_0]).bind fun r1 =>
 (AV.intK .i64 r1 fun i2 =>
 (j116 i2 1 a0_0 a0_1 a0_2)))
theorem K_ref06_Number_1 (j : Jump) (n : Nat) (a0_0 : Int) (a0_1 : Int) (a0_2 : Int) : ex (topEnv C (CP C n) n F_ref06_Number) (some j) (bodyOf C.P F_ref06_Number) 1 [] [] (endOf C.P F_ref06_Number) (startOf C.P F_ref06_Number [.agg [.int .i64 a0_0, .int .i64 a0_1, .int .i64 a0_2]]) = T_ref06_Number_1 (CP C n) a0_0 a0_1 a0_2 (fun x0 x1 x2 x3 x4 => j [false, false, true, false, true, true] [(n + 300)] (S_ref06_Number_116 x0 x1 x2 x3 x4)) := by kernel_rfl
def R_ref06_Number (cp : FuncId → List AV → Option AV) (n : Nat) (a0_0 : Int) (a0_1 : Int) (a0_2 : Int) : Option AV := T_ref06_Number_1 cp a0_0 a0_1 a0_2 (J_ref06_Number_116 cp n (n + 300))
theorem eq_ref06_Number (n : Nat) (a0_0 : Int) (a0_1 : Int) (a0_2 : Int) : CP C (n + 1) F_ref06_Number [.agg [.int .i64 a0_0, .int .i64 a0_1, .int .i64 a0_2]] = R_ref06_Number (CP C n) n a0_0 a0_1 a0_2 :=
  (CP_pure C n F_ref06_Number _ (by kernel_rfl) (by kernel_rfl)).trans ((K_ref06_Number_1 _ n a0_0 a0_1 a0_2).trans (congrArg (T_ref06_Number_1 (CP C n) a0_0 a0_1 a0_2) (funext fun x0 => (funext fun x1 => (funext fun x2 => (funext fun x3 => (funext fun x4 => (JE_ref06_Number_116 n (n + 300)) x0 x1 x2 x3 x4)))))))
-- ref06_Days
def R_ref06_Days (cp : FuncId → List AV → Option AV) (_n : Nat) (a0_0 : Int) (a0_1 : Int) (a0_2 : Int) : Option AV :=
 ((cp F_ref06_Check [.agg [.int .i64 a0_0, .int .i64 a0_1, .int .i64 a0_2]]).bind fun r1 =>
 (AV.intK .i64 r1 fun i2 =>
 (cond (i2 != 0)
 (some (.tup [.int .i64 0, .int .i64 i2]))
 ((cp F_ref06_Number [.agg [.int .i64 a0_0, .int .i64 a0_1, .int .i64 a0_2]]).bind fun r3 =>
 (AV.intK .i64 r3 fun i4 =>
 (some (.tup [.int .i64 i4, .int .i64 0])))))))
theorem eq_ref06_Days (n : Nat) (a0_0 : Int) (a0_1 : Int) (a0_2 : Int) : CP C (n + 1) F_ref06_Days [.agg [.int .i64 a0_0, .int .i64 a0_1, .int .i64 a0_2]] = R_ref06_Days (CP C n) n a0_0 a0_1 a0_2 := by kernel_rfl
-- civil_Ordinal
def R_civil_Ordinal (cp : FuncId → List AV → Option AV) (_n : Nat) (a0_0 : Int) (a0_1 : Int) (a0_2 : Int) : Option AV :=
 ((cp F_civil_Days [.agg [.int .i64 a0_0, .int .i64 a0_1, .int .i64 a0_2]]).bind fun r1 =>
 (AV.tupK r1 fun l2 =>
 (consK l2 fun v3 l4 =>
 (AV.intK .i64 v3 fun i5 =>
 (consK l4 fun v6 l7 =>
 (AV.intK .i64 v6 fun i8 =>
 (nilK l7
 (cond (i8 != 0)
 (some (.tup [.int .i64 0, .int .i64 i8]))
 ((cp F_civil_number [.int .i64 a0_0, .int .i64 1, .int .i64 1]).bind fun r9 =>
 (AV.intK .i64 r9 fun i10 =>
 (some (.tup [.int .i64 (IntKind.i64.wrap ((IntKind.i64.wrap (i5 - i10)) + 1)), .int .i64 0]))))))))))))
theorem eq_civil_Ordinal (n : Nat) (a0_0 : Int) (a0_1 : Int) (a0_2 : Int) : CP C (n + 1) F_civil_Ordinal [.agg [.int .i64 a0_0, .int .i64 a0_1, .int .i64 a0_2]] = R_civil_Ordinal (CP C n) n a0_0 a0_1 a0_2 := by kernel_rfl
-- ref06_Ordinal
def R_ref06_Ordinal (cp : FuncId → List AV → Option AV) (_n : Nat) (a0_0 : Int) (a0_1 : Int) (a0_2 : Int) : Option AV :=
 ((cp F_ref06_Check [.agg [.int .i64 a0_0, .int .i64 a0_1, .int .i64 a0_2]]).bind fun r1 =>
 (AV.intK .i64 r1 fun i2 =>
 (cond (i2 != 0)
 (some (.tup [.int .i64 0, .int .i64 i2]))
 ((cp F_ref06_Number [.agg [.int .i64 a0_0, .int .i64 a0_1, .int .i64 a0_2]]).bind fun r3 =>
 (AV.intK .i64 r3 fun i4 =>
 ((cp F_ref06_start [.int .i64 a0_0]).bind fun r5 =>
 (AV.intK .i64 r5 fun i6 =>
 (some (.tup [.int .i64 (IntKind.i64.wrap ((IntKind.i64.wrap (i4 - i6)) + 1)), .int .i64 0])))))))))
theorem eq_ref06_Ordinal (n : Nat) (a0_0 : Int) (a0_1 : Int) (a0_2 : Int) : CP C (n + 1) F_ref06_Ordinal [.agg [.int .i64 a0_0, .int .i64 a0_1, .int .i64 a0_2]] = R_ref06_Ordinal (CP C n) n a0_0 a0_1 a0_2 := by kernel_rfl
-- law06_CivilDays
def R_law06_CivilDays (cp : FuncId → List AV → Option AV) (_n : Nat) (a0_0 : Int) (a0_1 : Int) (a0_2 : Int) : Option AV :=
 ((cp F_civil_Days [.agg [.int .i64 a0_0, .int .i64 a0_1, .int .i64 a0_2]]).bind fun r1 =>
 (AV.tupK r1 fun l2 =>
 (consK l2 fun v3 l4 =>
 (AV.intK .i64 v3 fun i5 =>
 (consK l4 fun v6 l7 =>
 (AV.intK .i64 v6 fun i8 =>
 (nilK l7
 ((cp F_ref06_Days [.agg [.int .i64 a0_0, .int .i64 a0_1, .int .i64 a0_2]]).bind fun r9 =>
 (AV.tupK r9 fun l10 =>
 (consK l10 fun v11 l12 =>
 (AV.intK .i64 v11 fun i13 =>
 (consK l12 fun v14 l15 =>
 (AV.intK .i64 v14 fun i16 =>
 (nilK l15
 ((cp F_civil_Ordinal [.agg [.int .i64 a0_0, .int .i64 a0_1, .int .i64 a0_2]]).bind fun r17 =>
 (AV.tupK r17 fun l18 =>
 (consK l18 fun v19 l20 =>
 (AV.intK .i64 v19 fun i21 =>
 (consK l20 fun v22 l23 =>
 (AV.intK .i64 v22 fun i24 =>
 (nilK l23
 ((cp F_ref06_Ordinal [.agg [.int .i64 a0_0, .int .i64 a0_1, .int .i64 a0_2]]).bind fun r25 =>
 (AV.tupK r25 fun l26 =>
 (consK l26 fun v27 l28 =>
 (AV.intK .i64 v27 fun i29 =>
 (consK l28 fun v30 l31 =>
 (AV.intK .i64 v30 fun i32 =>
 (nilK l31
 (cond (i5 == i13)
 (cond (i8 == i16)
 (cond (i21 == i29)
 (cond (i24 == i32)
 ((cp F_civil_Check [.agg [.int .i64 a0_0, .int .i64 a0_1, .int .i64 a0_2]]).bind fun r33 =>
 (AV.intK .i64 r33 fun i34 =>
 ((cp F_ref06_Check [.agg [.int .i64 a0_0, .int .i64 a0_1, .int .i64 a0_2]]).bind fun r35 =>
 (AV.intK .i64 r35 fun i36 =>
 (cond (i34 == i36)
 ((cp F_law06_awake []).bind fun r37 =>
 (AV.boolK r37 fun b38 =>
 (some (.bool b38))))
 (some (.bool false)))))))
 (some (.bool false)))
 (some (.bool false)))
 (some (.bool false)))
 (some (.bool false)))))))))))))))))))))))))))))))
theorem eq_law06_CivilDays (n : Nat) (a0_0 : Int) (a0_1 : Int) (a0_2 : Int) : CP C (n + 1) F_law06_CivilDays [.agg [.int .i64 a0_0, .int .i64 a0_1, .int .i64 a0_2]] = R_law06_CivilDays (CP C n) n a0_0 a0_1 a0_2 := by kernel_rfl
-- cmp_isNaN_int
def R_cmp_isNaN_int (cp : FuncId → List AV → Option AV) (_n : Nat) (a0 : Int) : Option AV :=
 (some (.bool (a0 != a0)))
theorem eq_cmp_isNaN_int (n : Nat) (a0 : Int) : CP C (n + 1) F_cmp_isNaN_int [.int .i64 a0] = R_cmp_isNaN_int (CP C n) n a0 := by kernel_rfl
-- cmp_Compare_int
def R_cmp_Compare_int (cp : FuncId → List AV → Option AV) (_n : Nat) (a0 : Int) (a1 : Int) : Option AV :=
 ((cp F_cmp_isNaN_int [.int .i64 a0]).bind fun r1 =>
 (AV.boolK r1 fun b2 =>
 ((cp F_cmp_isNaN_int [.int .i64 a1]).bind fun r3 =>
 (AV.boolK r3 fun b4 =>
 (cond b2
 (cond b4
 (some (.int .i64 0))
 (some (.int .i64 (-1))))
 (cond b4
 (some (.int .i64 1))
 (cond (decide (a0 < a1))
 (some (.int .i64 (-1)))
 (cond (decide (a0 > a1))
 (some (.int .i64 1))
 (some (.int .i64 0))))))))))
theorem eq_cmp_Compare_int (n : Nat) (a0 : Int) (a1 : Int) : CP C (n + 1) F_cmp_Compare_int [.int .i64 a0, .int .i64 a1] = R_cmp_Compare_int (CP C n) n a0 a1 := by kernel_rfl
-- civil_Cmp
def R_civil_Cmp (cp : FuncId → List AV → Option AV) (_n : Nat) (a0_0 : Int) (a0_1 : Int) (a0_2 : Int) (a1_0 : Int) (a1_1 : Int) (a1_2 : Int) : Option AV :=
 ((cp F_cmp_Compare_int [.int .i64 a0_0, .int .i64 a1_0]).bind fun r1 =>
 (AV.intK .i64 r1 fun i2 =>
 ((cp F_cmp_Compare_int [.int .i64 a0_1, .int .i64 a1_1]).bind fun r3 =>
 (AV.intK .i64 r3 fun i4 =>
 ((cp F_cmp_Compare_int [.int .i64 a0_2, .int .i64 a1_2]).bind fun r5 =>
 (AV.intK .i64 r5 fun i6 =>
 (cond (i2 != 0)
 (some (.int .i64 i2))
 (cond (i4 != 0)
 (some (.int .i64 i4))
 (cond (i6 != 0)
 (some (.int .i64 i6))
 (some (.int .i64 0)))))))))))
theorem eq_civil_Cmp (n : Nat) (a0_0 : Int) (a0_1 : Int) (a0_2 : Int) (a1_0 : Int) (a1_1 : Int) (a1_2 : Int) : CP C (n + 1) F_civil_Cmp [.agg [.int .i64 a0_0, .int .i64 a0_1, .int .i64 a0_2], .agg [.int .i64 a1_0, .int .i64 a1_1, .int .i64 a1_2]] = R_civil_Cmp (CP C n) n a0_0 a0_1 a0_2 a1_0 a1_1 a1_2 := by kernel_rfl
-- ref06_Cmp
def R_ref06_Cmp (cp : FuncId → List AV → Option AV) (_n : Nat) (a0_0 : Int) (a0_1 : Int) (a0_2 : Int) (a1_0 : Int) (a1_1 : Int) (a1_2 : Int) : Option AV :=
 (cond (decide (a0_0 < a1_0))
 (some (.int .i64 (-1)))
 (cond (decide (a0_0 > a1_0))
 (some (.int .i64 1))
 (cond (decide (a0_1 < a1_1))
 (some (.int .i64 (-1)))
 (cond (decide (a0_1 > a1_1))
 (some (.int .i64 1))
 (cond (decide (a0_2 < a1_2))
 (some (.int .i64 (-1)))
 (cond (decide (a0_2 > a1_2))
 (some (.int .i64 1))
 (some (.int .i64 0))))))))
theorem eq_ref06_Cmp (n : Nat) (a0_0 : Int) (a0_1 : Int) (a0_2 : Int) (a1_0 : Int) (a1_1 : Int) (a1_2 : Int) : CP C (n + 1) F_ref06_Cmp [.agg [.int .i64 a0_0, .int .i64 a0_1, .int .i64 a0_2], .agg [.int .i64 a1_0, .int .i64 a1_1, .int .i64 a1_2]] = R_ref06_Cmp (CP C n) n a0_0 a0_1 a0_2 a1_0 a1_1 a1_2 := by kernel_rfl
-- law06_CivilOrder
def R_law06_CivilOrder (cp : FuncId → List AV → Option AV) (_n : Nat) (a0_0 : Int) (a0_1 : Int) (a0_2 : Int) (a1_0 : Int) (a1_1 : Int) (a1_2 : Int) : Option AV :=
 ((cp F_civil_Cmp [.agg [.int .i64 a0_0, .int .i64 a0_1, .int .i64 a0_2], .agg [.int .i64 a1_0, .int .i64 a1_1, .int .i64 a1_2]]).bind fun r1 =>
 (AV.intK .i64 r1 fun i2 =>
 ((cp F_ref06_Cmp [.agg [.int .i64 a0_0, .int .i64 a0_1, .int .i64 a0_2], .agg [.int .i64 a1_0, .int .i64 a1_1, .int .i64 a1_2]]).bind fun r3 =>
 (AV.intK .i64 r3 fun i4 =>
 (cond (i2 != i4)
 (some (.bool false))
 ((cp F_civil_Days [.agg [.int .i64 a0_0, .int .i64 a0_1, .int .i64 a0_2]]).bind fun r5 =>
 (AV.tupK r5 fun l6 =>
 (consK l6 fun v7 l8 =>
 (AV.intK .i64 v7 fun i9 =>
 (consK l8 fun v10 l11 =>
 (AV.intK .i64 v10 fun i12 =>
 (nilK l11
 ((cp F_civil_Days [.agg [.int .i64 a1_0, .int .i64 a1_1, .int .i64 a1_2]]).bind fun r13 =>
 (AV.tupK r13 fun l14 =>
 (consK l14 fun v15 l16 =>
 (AV.intK .i64 v15 fun i17 =>
 (consK l16 fun v18 l19 =>
 (AV.intK .i64 v18 fun i20 =>
 (nilK l19
 (cond (i12 != 0)
 ((cp F_law06_awake []).bind fun r21 =>
 (AV.boolK r21 fun b22 =>
 (some (.bool b22))))
 (cond (i20 != 0)
 ((cp F_law06_awake []).bind fun r23 =>
 (AV.boolK r23 fun b24 =>
 (some (.bool b24))))
 (cond (decide (i9 < i17))
 (cond (decide (i9 > i17))
 ((cp F_civil_Cmp [.agg [.int .i64 a0_0, .int .i64 a0_1, .int .i64 a0_2], .agg [.int .i64 a1_0, .int .i64 a1_1, .int .i64 a1_2]]).bind fun r25 =>
 (AV.intK .i64 r25 fun i26 =>
 (cond (i26 == 1)
 ((cp F_law06_awake []).bind fun r27 =>
 (AV.boolK r27 fun b28 =>
 (some (.bool b28))))
 (some (.bool false)))))
 ((cp F_civil_Cmp [.agg [.int .i64 a0_0, .int .i64 a0_1, .int .i64 a0_2], .agg [.int .i64 a1_0, .int .i64 a1_1, .int .i64 a1_2]]).bind fun r29 =>
 (AV.intK .i64 r29 fun i30 =>
 (cond (i30 == (-1))
 ((cp F_law06_awake []).bind fun r31 =>
 (AV.boolK r31 fun b32 =>
 (some (.bool b32))))
 (some (.bool false))))))
 (cond (decide (i9 > i17))
 ((cp F_civil_Cmp [.agg [.int .i64 a0_0, .int .i64 a0_1, .int .i64 a0_2], .agg [.int .i64 a1_0, .int .i64 a1_1, .int .i64 a1_2]]).bind fun r33 =>
 (AV.intK .i64 r33 fun i34 =>
 (cond (i34 == 1)
 ((cp F_law06_awake []).bind fun r35 =>
 (AV.boolK r35 fun b36 =>
 (some (.bool b36))))
 (some (.bool false)))))
 ((cp F_civil_Cmp [.agg [.int .i64 a0_0, .int .i64 a0_1, .int .i64 a0_2], .agg [.int .i64 a1_0, .int .i64 a1_1, .int .i64 a1_2]]).bind fun r37 =>
 (AV.intK .i64 r37 fun i38 =>
 (cond (i38 == 0)
 ((cp F_law06_awake []).bind fun r39 =>
 (AV.boolK r39 fun b40 =>
 (some (.bool b40))))
 (some (.bool false))))))))))))))))))))))))))))
theorem eq_law06_CivilOrder (n : Nat) (a0_0 : Int) (a0_1 : Int) (a0_2 : Int) (a1_0 : Int) (a1_1 : Int) (a1_2 : Int) : CP C (n + 1) F_law06_CivilOrder [.agg [.int .i64 a0_0, .int .i64 a0_1, .int .i64 a0_2], .agg [.int .i64 a1_0, .int .i64 a1_1, .int .i64 a1_2]] = R_law06_CivilOrder (CP C n) n a0_0 a0_1 a0_2 a1_0 a1_1 a1_2 := by kernel_rfl
-- law06_CivilBack
def S_law06_CivilBack_509 (x0 : Int) (b1 : Bool) (x2 : Int) (x3 : Int) (x4 : Int) : St := ⟨[.junk, .ptr (some (0, 0)), .junk, .int .i64 x0, .junk, .junk, .junk, .junk, .junk, .junk, .junk, .junk, .junk, .junk, .junk, .junk, .junk, .junk, .junk, .junk, .junk, .junk, .junk, .junk, .junk, .junk, .junk, .junk, .junk, .junk, .junk, .junk, .junk, .junk, .junk, .junk, .junk, .junk, .junk, .junk, .junk, .junk, .junk, .junk, .junk, .junk, .junk, .junk, .junk, .junk, .junk, .junk, .junk, .junk, .junk, .junk, .junk, .junk, .junk, .junk, .junk, .junk, .junk, .bool b1, .junk, .junk, .junk, .junk, .junk, .junk, .junk, .junk, .junk, .junk, .junk, .junk, .junk, .junk, .junk, .junk, .junk, .junk, .junk, .junk, .junk, .junk, .junk, .junk, .junk, .junk, .junk, .junk, .junk, .junk, .junk, .junk, .junk, .junk, .junk, .junk, .junk, .junk, .junk, .junk, .junk, .junk, .junk, .junk, .junk, .junk, .junk, .junk, .junk, .junk, .junk, .junk, .junk, .junk, .junk, .junk, .junk, .junk, .junk, .junk, .junk, .junk, .junk, .junk, .junk, .junk, .junk, .junk, .junk, .junk, .junk, .junk, .junk, .junk, .junk, .junk, .junk, .junk, .junk, .junk, .junk, .junk, .junk, .junk, .junk, .junk, .junk, .junk, .junk, .junk, .junk, .junk, .junk, .junk, .junk, .junk, .junk, .junk, .junk, .junk, .junk, .junk, .junk, .junk, .junk, .junk, .junk, .junk, .junk, .junk, .junk, .junk], [.cells 27 [.int .i64 x2, .int .i64 x3, .int .i64 x4], .dead, .dead]⟩
def S_law06_CivilBack_4095 (x0 : Int) (b1 : Bool) (b2 : Bool) (x3 : Int) (x4 : Int) (x5 : Int) (x6 : Int) (x7 : Int) (x8 : Int) : St := ⟨[.junk, .ptr (some (0, 0)), .junk, .int .i64 x0, .junk, .junk, .junk, .junk, .junk, .junk, .junk, .ptr (some (3, 0)), .junk, .bool b1, .bool b2, .junk, .junk, .junk, .junk, .junk, .junk, .junk, .junk, .junk, .junk, .junk, .junk, .junk, .junk, .junk, .junk, .junk, .junk, .junk, .junk, .junk, .junk, .junk, .junk, .junk, .junk, .junk, .junk, .junk, .junk, .junk, .junk, .junk, .junk, .junk, .junk, .junk, .junk, .junk, .junk, .junk, .junk, .junk, .junk, .junk, .junk, .junk, .junk, .junk, .junk, .junk, .junk, .junk, .junk, .junk, .junk, .junk, .junk, .junk, .junk, .junk, .junk, .junk, .junk, .junk, .junk, .junk, .junk, .junk, .junk, .junk, .junk, .junk, .junk, .junk, .junk, .junk, .junk, .junk, .junk, .junk, .junk, .junk, .junk, .junk, .junk, .junk, .junk, .junk, .junk, .junk, .junk, .junk, .junk, .junk, .junk, .junk, .junk, .junk, .junk, .junk, .junk, .junk, .junk, .junk, .junk, .junk, .junk, .junk, .junk, .junk, .junk, .junk, .junk, .junk, .junk, .junk, .junk, .junk, .junk, .junk, .junk, .junk, .junk, .junk, .junk, .junk, .junk, .junk, .junk, .junk, .junk, .junk, .junk, .junk, .junk, .junk, .junk, .junk, .junk, .junk, .junk, .junk, .junk, .junk, .junk, .junk, .junk, .junk, .junk, .junk, .junk, .junk, .junk, .junk, .junk, .junk, .junk, .junk, .junk, .junk], [.cells 27 [.int .i64 x3, .int .i64 x4, .int .i64 x5], .dead, .dead, .cells 27 [.int .i64 x6, .int .i64 x7, .int .i64 x8]]⟩
def S_law06_CivilBack_8191 (b0 : Bool) : St := ⟨[.junk, .junk, .bool b0, .junk, .junk, .junk, .junk, .junk, .junk, .junk, .junk, .junk, .junk, .junk, .junk, .junk, .junk, .junk, .junk, .junk, .junk, .junk, .junk, .junk, .junk, .junk, .junk, .junk, .junk, .junk, .junk, .junk, .junk, .junk, .junk, .junk, .junk, .junk, .junk, .junk, .junk, .junk, .junk, .junk, .junk, .junk, .junk, .junk, .junk, .junk, .junk, .junk, .junk, .junk, .junk, .junk, .junk, .junk, .junk, .junk, .junk, .junk, .junk, .junk, .junk, .junk, .junk, .junk, .junk, .junk, .junk, .junk, .junk, .junk, .junk, .junk, .junk, .junk, .junk, .junk, .junk, .junk, .junk, .junk, .junk, .junk, .junk, .junk, .junk, .junk, .junk, .junk, .junk, .junk, .junk, .junk, .junk, .junk, .junk, .junk, .junk, .junk, .junk, .junk, .junk, .junk, .junk, .junk, .junk, .junk, .junk, .junk, .junk, .junk, .junk, .junk, .junk, .junk, .junk, .junk, .junk, .junk, .junk, .junk, .junk, .junk, .junk, .junk, .junk, .junk, .junk, .junk, .junk, .junk, .junk, .junk, .junk, .junk, .junk, .junk, .junk, .junk, .junk, .junk, .junk, .junk, .junk, .junk, .junk, .junk, .junk, .junk, .junk, .junk, .junk, .junk, .junk, .junk, .junk, .junk, .junk, .junk, .junk, .junk, .junk, .junk, .junk, .junk, .junk, .junk, .junk, .junk, .junk, .junk, .junk, .junk], [.dead, .dead, .dead, .dead]⟩
def T_law06_CivilBack_8191 (cp : FuncId → List AV → Option AV) (b0 : Bool) : Option AV :=
 (some (.bool b0))
theorem K_law06_CivilBack_8191 (j : Jump) (n : Nat) (b0 : Bool) : enter (topEnv C (CP C n) n F_law06_CivilBack) (some j) (bodyOf C.P F_law06_CivilBack) (endOf C.P F_law06_CivilBack) [true, true, true, true, true, true, true, true, true, true, true, true] [] (S_law06_CivilBack_8191 b0) = T_law06_CivilBack_8191 (CP C n) b0 := by kernel_rfl
def J_law06_CivilBack_8191 (cp : FuncId → List AV → Option AV) (n : Nat) (b0 : Bool) : Option AV := T_law06_CivilBack_8191 cp b0
theorem JE_law06_CivilBack_8191 (n : Nat) (b0 : Bool) : jT (topEnv C (CP C n) n F_law06_CivilBack) (bodyOf C.P F_law06_CivilBack) (endOf C.P F_law06_CivilBack) [true, true, true, true, true, true, true, true, true, true, true, true] [] (S_law06_CivilBack_8191 b0) = J_law06_CivilBack_8191 (CP C n) n b0 :=
  (jT_eq _ _ _ _ _ _).trans ((K_law06_CivilBack_8191 _ n b0).trans (rfl))
def T_law06_CivilBack_4095 (cp : FuncId → List AV → Option AV) (x0 : Int) (b1 : Bool) (b2 : Bool) (x3 : Int) (x4 : Int) (x5 : Int) (x6 : Int) (x7 : Int) (x8 : Int) (j8191 : Bool → Option AV) : Option AV :=
 (cond b1
 ((cp F_civil_Weekday [.int .i64 (IntKind.i64.wrap (x0 + 1))]).bind fun r1 =>
 (AV.intK .i64 r1 fun i2 =>
 ((cp F_civil_Weekday [.int .i64 x0]).bind fun r3 =>
 (AV.intK .i64 r3 fun i4 =>
 (cond (i2 == (IntKind.i64.wrap ((Int.tmod i4 7) + 1)))
 ((cp F_civil_Cmp [.agg [.int .i64 x6, .int .i64 x7, .int .i64 x8], .agg [.int .i64 x3, .int .i64 x4, .int .i64 x5]]).bind fun r5 =>
 (AV.intK .i64 r5 fun i6 =>
 (cond (i6 == 1)
 ((cp F_civil_Cmp [.agg [.int .i64 x3, .int .i64 x4, .int .i64 x5], .agg [.int .i64 x6, .int .i64 x7, .int .i64 x8]]).bind fun r7 =>
 (AV.intK .i64 r7 fun i8 =>
 (cond (i8 == (-1))
 ((cp F_law06_awake []).bind fun r9 =>
 (AV.boolK r9 fun b10 =>
 (j8191 b10)))
 (j8191 false))))
 (j8191 false))))
 (j8191 false))))))
 (cond b2
 ((cp F_civil_Weekday [.int .i64 (IntKind.i64.wrap (x0 + 1))]).bind fun r11 =>
 (AV.intK .i64 r11 fun i12 =>
 ((cp F_civil_Weekday [.int .i64 x0]).bind fun r13 =>
 (AV.intK .i64 r13 fun i14 =>
 (cond (i12 == (IntKind.i64.wrap ((Int.tmod i14 7) + 1)))
 ((cp F_civil_Cmp [.agg [.int .i64 x6, .int .i64 x7, .int .i64 x8], .agg [.int .i64 x3, .int .i64 x4, .int .i64 x5]]).bind fun r15 =>
 (AV.intK .i64 r15 fun i16 =>
 (cond (i16 == 1)
 ((cp F_civil_Cmp [.agg [.int .i64 x3, .int .i64 x4, .int .i64 x5], .agg [.int .i64 x6, .int .i64 x7, .int .i64 x8]]).bind fun r17 =>
 (AV.intK .i64 r17 fun i18 =>
 (cond (i18 == (-1))
 ((cp F_law06_awake []).bind fun r19 =>
 (AV.boolK r19 fun b20 =>
 (j8191 b20)))
 (j8191 false))))
 (j8191 false))))
 (j8191 false))))))
 (j8191 false)))
theorem K_law06_CivilBack_4095 (j : Jump) (n : Nat) (x0 : Int) (b1 : Bool) (b2 : Bool) (x3 : Int) (x4 : Int) (x5 : Int) (x6 : Int) (x7 : Int) (x8 : Int) : enter (topEnv C (CP C n) n F_law06_CivilBack) (some j) (bodyOf C.P F_law06_CivilBack) (endOf C.P F_law06_CivilBack) [true, true, true, true, true, true, true, true, true, true, true] [] (S_law06_CivilBack_4095 x0 b1 b2 x3 x4 x5 x6 x7 x8) = T_law06_CivilBack_4095 (CP C n) x0 b1 b2 x3 x4 x5 x6 x7 x8 (fun b0 => j [true, true, true, true, true, true, true, true, true, true, true, true] [] (S_law06_CivilBack_8191 b0)) := by kernel_rfl
def J_law06_CivilBack_4095 (cp : FuncId → List AV → Option AV) (n : Nat) (x0 : Int) (b1 : Bool) (b2 : Bool) (x3 : Int) (x4 : Int) (x5 : Int) (x6 : Int) (x7 : Int) (x8 : Int) : Option AV := T_law06_CivilBack_4095 cp x0 b1 b2 x3 x4 x5 x6 x7 x8 (J_law06_CivilBack_8191 cp n)
theorem JE_law06_CivilBack_4095 (n : Nat) (x0 : Int) (b1 : Bool) (b2 : Bool) (x3 : Int) (x4 : Int) (x5 : Int) (x6 : Int) (x7 : Int) (x8 : Int) : jT (topEnv C (CP C n) n F_law06_CivilBack) (bodyOf C.P F_law06_CivilBack) (endOf C.P F_law06_CivilBack) [true, true, true, true, true, true, true, true, true, true, true] [] (S_law06_CivilBack_4095 x0 b1 b2 x3 x4 x5 x6 x7 x8) = J_law06_CivilBack_4095 (CP C n) n x0 b1 b2 x3 x4 x5 x6 x7 x8 :=
  (jT_eq _ _ _ _ _ _).trans ((K_law06_CivilBack_4095 _ n x0 b1 b2 x3 x4 x5 x6 x7 x8).trans (congrArg (T_law06_CivilBack_4095 (CP C n) x0 b1 b2 x3 x4 x5 x6 x7 x8) (funext fun b0 => (JE_law06_CivilBack_8191 n) b0)))
def T_law06_CivilBack_509 (cp : FuncId → List AV → Option AV) (x0 : Int) (b1 : Bool) (x2 : Int) (x3 : Int) (x4 : Int) (j4095 : Int → Bool → Bool → Int → Int → Int → Int → Int → Int → Option AV) : Option AV :=
 (cond b1
 (some (.bool false))
 ((cp F_civil_DateOf [.int .i64 (IntKind.i64.wrap (x0 + 1))]).bind fun r1 =>
 (AV.tupK r1 fun l2 =>
 (consK l2 fun v3 l4 =>
 (AV.aggK v3 fun l5 =>
 (consK l5 fun v6 l7 =>
 (AV.intK .i64 v6 fun i8 =>
 (consK l7 fun v9 l10 =>
 (AV.intK .i64 v9 fun i11 =>
 (consK l10 fun v12 l13 =>
 (AV.intK .i64 v12 fun i14 =>
 (nilK l13
 (consK l4 fun v15 l16 =>
 (AV.intK .i64 v15 fun i17 =>
 (nilK l16
 (cond (i17 != 0)
 (cond (x0 == 2932896)
 (cond (i17 == 8)
 ((cp F_law06_awake []).bind fun r18 =>
 (AV.boolK r18 fun b19 =>
 (some (.bool b19))))
 (some (.bool false)))
 (some (.bool false)))
 (cond (i8 == x2)
 (cond (i11 == x3)
 (cond (i14 == 1)
 ((cp F_civil_MonthDays [.int .i64 x2, .int .i64 x3]).bind fun r20 =>
 (AV.intK .i64 r20 fun i21 =>
 (cond (x4 == i21)
 (cond (i8 == x2)
 (cond (i11 == (IntKind.i64.wrap (x3 + 1)))
 (j4095 x0 (i14 == (IntKind.i64.wrap (x4 + 1))) true x2 x3 x4 i8 i11 i14)
 (cond (i8 == (IntKind.i64.wrap (x2 + 1)))
 (cond (i11 == 1)
 (j4095 x0 (i14 == (IntKind.i64.wrap (x4 + 1))) (x3 == 12) x2 x3 x4 i8 i11 i14)
 (j4095 x0 (i14 == (IntKind.i64.wrap (x4 + 1))) false x2 x3 x4 i8 i11 i14))
 (j4095 x0 (i14 == (IntKind.i64.wrap (x4 + 1))) false x2 x3 x4 i8 i11 i14)))
 (cond (i8 == (IntKind.i64.wrap (x2 + 1)))
 (cond (i11 == 1)
 (j4095 x0 (i14 == (IntKind.i64.wrap (x4 + 1))) (x3 == 12) x2 x3 x4 i8 i11 i14)
 (j4095 x0 (i14 == (IntKind.i64.wrap (x4 + 1))) false x2 x3 x4 i8 i11 i14))
 (j4095 x0 (i14 == (IntKind.i64.wrap (x4 + 1))) false x2 x3 x4 i8 i11 i14)))
 (j4095 x0 (i14 == (IntKind.i64.wrap (x4 + 1))) false x2 x3 x4 i8 i11 i14))))
 (j4095 x0 (i14 == (IntKind.i64.wrap (x4 + 1))) false x2 x3 x4 i8 i11 i14))
 (cond (i14 == 1)
 ((cp F_civil_MonthDays [.int .i64 x2, .int .i64 x3]).bind fun r22 =>
 (AV.intK .i64 r22 fun i23 =>
 (cond (x4 == i23)
 (cond (i8 == x2)
 (cond (i11 == (IntKind.i64.wrap (x3 + 1)))
 (j4095 x0 false true x2 x3 x4 i8 i11 i14)
 (cond (i8 == (IntKind.i64.wrap (x2 + 1)))
 (cond (i11 == 1)
 (j4095 x0 false (x3 == 12) x2 x3 x4 i8 i11 i14)
 (j4095 x0 false false x2 x3 x4 i8 i11 i14))
 (j4095 x0 false false x2 x3 x4 i8 i11 i14)))
 (cond (i8 == (IntKind.i64.wrap (x2 + 1)))
 (cond (i11 == 1)
 (j4095 x0 false (x3 == 12) x2 x3 x4 i8 i11 i14)
 (j4095 x0 false false x2 x3 x4 i8 i11 i14))
 (j4095 x0 false false x2 x3 x4 i8 i11 i14)))
 (j4095 x0 false false x2 x3 x4 i8 i11 i14))))
 (j4095 x0 false false x2 x3 x4 i8 i11 i14)))
 (cond (i14 == 1)
 ((cp F_civil_MonthDays [.int .i64 x2, .int .i64 x3]).bind fun r24 =>
 (AV.intK .i64 r24 fun i25 =>
 (cond (x4 == i25)
 (cond (i8 == x2)
 (cond (i11 == (IntKind.i64.wrap (x3 + 1)))
 (j4095 x0 false true x2 x3 x4 i8 i11 i14)
 (cond (i8 == (IntKind.i64.wrap (x2 + 1)))
 (cond (i11 == 1)
 (j4095 x0 false (x3 == 12) x2 x3 x4 i8 i11 i14)
 (j4095 x0 false false x2 x3 x4 i8 i11 i14))
 (j4095 x0 false false x2 x3 x4 i8 i11 i14)))
 (cond (i8 == (IntKind.i64.wrap (x2 + 1)))
 (cond (i11 == 1)
 (j4095 x0 false (x3 == 12) x2 x3 x4 i8 i11 i14)
 (j4095 x0 false false x2 x3 x4 i8 i11 i14))
 (j4095 x0 false false x2 x3 x4 i8 i11 i14)))
 (j4095 x0 false false x2 x3 x4 i8 i11 i14))))
 (j4095 x0 false false x2 x3 x4 i8 i11 i14)))))))))))))))))))
theorem K_law06_CivilBack_509 (j : Jump) (n : Nat) (x0 : Int) (b1 : Bool) (x2 : Int) (x3 : Int) (x4 : Int) : enter (topEnv C (CP C n) n F_law06_CivilBack) (some j) (bodyOf C.P F_law06_CivilBack) (endOf C.P F_law06_CivilBack) [true, false, true, true, true, true, true, true] [] (S_law06_CivilBack_509 x0 b1 x2 x3 x4) = T_law06_CivilBack_509 (CP C n) x0 b1 x2 x3 x4 (fun x0 b1 b2 x3 x4 x5 x6 x7 x8 => j [true, true, true, true, true, true, true, true, true, true, true] [] (S_law06_CivilBack_4095 x0 b1 b2 x3 x4 x5 x6 x7 x8)) := by kernel_rfl
def J_law06_CivilBack_509 (cp : FuncId → List AV → Option AV) (n : Nat) (x0 : Int) (b1 : Bool) (x2 : Int) (x3 : Int) (x4 : Int) : Option AV := T_law06_CivilBack_509 cp x0 b1 x2 x3 x4 (J_law06_CivilBack_4095 cp n)
theorem JE_law06_CivilBack_509 (n : Nat) (x0 : Int) (b1 : Bool) (x2 : Int) (x3 : Int) (x4 : Int) : jT (topEnv C (CP C n) n F_law06_CivilBack) (bodyOf C.P F_law06_CivilBack) (endOf C.P F_law06_CivilBack) [true, false, true, true, true, true, true, true] [] (S_law06_CivilBack_509 x0 b1 x2 x3 x4) = J_law06_CivilBack_509 (CP C n) n x0 b1 x2 x3 x4 :=
  (jT_eq _ _ _ _ _ _).trans ((K_law06_CivilBack_509 _ n x0 b1 x2 x3 x4).trans (congrArg (T_law06_CivilBack_509 (CP C n) x0 b1 x2 x3 x4) (funext fun x0 => (funext fun b1 => (funext fun b2 => (funext fun x3 => (funext fun x4 => (funext fun x5 => (funext fun x6 => (funext fun x7 => (funext fun x8 => (JE_law06_CivilBack_4095 n) x0 b1 b2 x3 x4 x5 x6 x7 x8)))))))))))
def T_law06_CivilBack_1 (cp : FuncId → List AV → Option AV) (a0_0 : Int) (a0_1 : Int) (a0_2 : Int) (j509 : Int → Bool → Int → Int → Int → Option AV) : Option AV :=
 ((cp F_civil_Days [.agg [.int .i64 a0_0, .int .i64 a0_1, .int .i64 a0_2]]).bind fun r1 =>
 (AV.tupK r1 fun l2 =>
 (consK l2 fun v3 l4 =>
 (AV.intK .i64 v3 fun i5 =>
 (consK l4 fun v6 l7 =>
 (AV.intK .i64 v6 fun i8 =>
 (nilK l7
 (cond (i8 != 0)
 (cond (i5 == 0)
 ((cp F_law06_awake []).bind fun r9 =>
 (AV.boolK r9 fun b10 =>
 (some (.bool b10))))
 (some (.bool false)))
 ((cp F_civil_DateOf [.int .i64 i5]).bind fun r11 =>
 (AV.tupK r11 fun l12 =>
 (consK l12 fun v13 l14 =>
 (AV.aggK v13 fun l15 =>
 (consK l15 fun v16 l17 =>
 (AV.intK .i64 v16 fun i18 =>
 (consK l17 fun v19 l20 =>
 (AV.intK .i64 v19 fun i21 =>
 (consK l20 fun v22 l23 =>
 (AV.intK .i64 v22 fun i24 =>
 (nilK l23
 (consK l14 fun v25 l26 =>
 (AV.intK .i64 v25 fun i27 =>
 (nilK l26
 ((cp F_civil_Ordinal [.agg [.int .i64 a0_0, .int .i64 a0_1, .int .i64 a0_2]]).bind fun r28 =>
 (AV.tupK r28 fun l29 =>
 (consK l29 fun v30 l31 =>
 (AV.intK .i64 v30 fun i32 =>
 (consK l31 fun v33 l34 =>
 (AV.intK .i64 v33 fun i35 =>
 (nilK l34
 ((cp F_civil_OfOrdinal [.int .i64 a0_0, .int .i64 i32]).bind fun r36 =>
 (AV.tupK r36 fun l37 =>
 (consK l37 fun v38 l39 =>
 (AV.aggK v38 fun l40 =>
 (consK l40 fun v41 l42 =>
 (AV.intK .i64 v41 fun i43 =>
 (consK l42 fun v44 l45 =>
 (AV.intK .i64 v44 fun i46 =>
 (consK l45 fun v47 l48 =>
 (AV.intK .i64 v47 fun i49 =>
 (nilK l48
 (consK l39 fun v50 l51 =>
 (AV.intK .i64 v50 fun i52 =>
 (nilK l51
 (cond (!((i18 == a0_0) && ((i21 == a0_1) && ((i24 == a0_2) && true))))
 (j509 i5 true a0_0 a0_1 a0_2)
 (cond (i27 != 0)
 (j509 i5 true a0_0 a0_1 a0_2)
 (cond (i35 != 0)
 (j509 i5 true a0_0 a0_1 a0_2)
 (cond (!((i43 == a0_0) && ((i46 == a0_1) && ((i49 == a0_2) && true))))
 (j509 i5 true a0_0 a0_1 a0_2)
 (j509 i5 (i52 != 0) a0_0 a0_1 a0_2))))))))))))))))))))))))))))))))))))))))))))))))
theorem K_law06_CivilBack_1 (j : Jump) (n : Nat) (a0_0 : Int) (a0_1 : Int) (a0_2 : Int) : ex (topEnv C (CP C n) n F_law06_CivilBack) (some j) (bodyOf C.P F_law06_CivilBack) 1 [] [] (endOf C.P F_law06_CivilBack) (startOf C.P F_law06_CivilBack [.agg [.int .i64 a0_0, .int .i64 a0_1, .int .i64 a0_2]]) = T_law06_CivilBack_1 (CP C n) a0_0 a0_1 a0_2 (fun x0 b1 x2 x3 x4 => j [true, false, true, true, true, true, true, true] [] (S_law06_CivilBack_509 x0 b1 x2 x3 x4)) := by kernel_rfl
def R_law06_CivilBack (cp : FuncId → List AV → Option AV) (n : Nat) (a0_0 : Int) (a0_1 : Int) (a0_2 : Int) : Option AV := T_law06_CivilBack_1 cp a0_0 a0_1 a0_2 (J_law06_CivilBack_509 cp n)
theorem eq_law06_CivilBack (n : Nat) (a0_0 : Int) (a0_1 : Int) (a0_2 : Int) : CP C (n + 1) F_law06_CivilBack [.agg [.int .i64 a0_0, .int .i64 a0_1, .int .i64 a0_2]] = R_law06_CivilBack (CP C n) n a0_0 a0_1 a0_2 :=
  (CP_pure C n F_law06_CivilBack _ (by kernel_rfl) (by kernel_rfl)).trans ((K_law06_CivilBack_1 _ n a0_0 a0_1 a0_2).trans (congrArg (T_law06_CivilBack_1 (CP C n) a0_0 a0_1 a0_2) (funext fun x0 => (funext fun b1 => (funext fun x2 => (funext fun x3 => (funext fun x4 => (JE_law06_CivilBack_509 n) x0 b1 x2 x3 x4)))))))
end Go.Proofs.Ytjbjfcodmkbanaa.Sim.S
