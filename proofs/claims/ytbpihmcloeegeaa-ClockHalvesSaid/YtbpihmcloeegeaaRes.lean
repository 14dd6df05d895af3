/- What each function of the program answers, as a plain function, printed by a program of ours. Condition: none beyond what each theorem says. -/

import Derived.Test.YtbpihmcloeegeaaCfg
set_option maxRecDepth 100000
set_option linter.unusedVariables false
open Go Go.Proofs.Ytbpihmcloeegeaa.Sim Go.Proofs
namespace Go.Proofs.Ytbpihmcloeegeaa.Sim.S
-- clock_cut
def R_clock_cut (cp : FuncId → List AV → Option AV) (_n : Nat) (a0_0 : Int) (a0_1 : Int) (a0_2 : Int) (a0_3 : Int) : Option AV :=
 (some (.agg [.int .i64 (if (if 23 < a0_0 then 23 else a0_0) > 0 then (if 23 < a0_0 then 23 else a0_0) else 0), .int .i64 (if (if 59 < a0_1 then 59 else a0_1) > 0 then (if 59 < a0_1 then 59 else a0_1) else 0), .int .i64 (if (if 59 < a0_2 then 59 else a0_2) > 0 then (if 59 < a0_2 then 59 else a0_2) else 0), .int .i64 (if (if 999999999 < a0_3 then 999999999 else a0_3) > 0 then (if 999999999 < a0_3 then 999999999 else a0_3) else 0)]))
theorem eq_clock_cut (n : Nat) (a0_0 : Int) (a0_1 : Int) (a0_2 : Int) (a0_3 : Int) : CP C (n + 1) F_clock_cut [.agg [.int .i64 a0_0, .int .i64 a0_1, .int .i64 a0_2, .int .i64 a0_3]] = R_clock_cut (CP C n) n a0_0 a0_1 a0_2 a0_3 := by kernel_rfl
-- clock_Check
def R_clock_Check (cp : FuncId → List AV → Option AV) (_n : Nat) (a0_0 : Int) (a0_1 : Int) (a0_2 : Int) (a0_3 : Int) : Option AV :=
 ((cp F_clock_cut [.agg [.int .i64 a0_0, .int .i64 a0_1, .int .i64 a0_2, .int .i64 a0_3]]).bind fun r1 =>
 (AV.aggK r1 fun l2 =>
 (consK l2 fun v3 l4 =>
 (AV.intK .i64 v3 fun i5 =>
 (consK l4 fun v6 l7 =>
 (AV.intK .i64 v6 fun i8 =>
 (consK l7 fun v9 l10 =>
 (AV.intK .i64 v9 fun i11 =>
 (consK l10 fun v12 l13 =>
 (AV.intK .i64 v12 fun i14 =>
 (nilK l13
 (cond (!((i5 == a0_0) && ((i8 == a0_1) && ((i11 == a0_2) && ((i14 == a0_3) && true)))))
 (some (.int .i64 5))
 (some (.int .i64 0))))))))))))))
theorem eq_clock_Check (n : Nat) (a0_0 : Int) (a0_1 : Int) (a0_2 : Int) (a0_3 : Int) : CP C (n + 1) F_clock_Check [.agg [.int .i64 a0_0, .int .i64 a0_1, .int .i64 a0_2, .int .i64 a0_3]] = R_clock_Check (CP C n) n a0_0 a0_1 a0_2 a0_3 := by kernel_rfl
-- clock_Nanos
def R_clock_Nanos (cp : FuncId → List AV → Option AV) (_n : Nat) (a0_0 : Int) (a0_1 : Int) (a0_2 : Int) (a0_3 : Int) : Option AV :=
 ((cp F_clock_Check [.agg [.int .i64 a0_0, .int .i64 a0_1, .int .i64 a0_2, .int .i64 a0_3]]).bind fun r1 =>
 (AV.intK .i64 r1 fun i2 =>
 (cond (i2 != 0)
 (some (.tup [.int .i64 0, .int .i64 i2]))
 (some (.tup [.int .i64 (IntKind.i64.wrap ((IntKind.i64.wrap ((IntKind.i64.wrap ((IntKind.i64.wrap ((IntKind.i64.wrap ((IntKind.i64.wrap (a0_0 * 60)) + a0_1)) * 60)) + a0_2)) * 1000000000)) + a0_3)), .int .i64 0])))))
theorem eq_clock_Nanos (n : Nat) (a0_0 : Int) (a0_1 : Int) (a0_2 : Int) (a0_3 : Int) : CP C (n + 1) F_clock_Nanos [.agg [.int .i64 a0_0, .int .i64 a0_1, .int .i64 a0_2, .int .i64 a0_3]] = R_clock_Nanos (CP C n) n a0_0 a0_1 a0_2 a0_3 := by kernel_rfl
-- ref08_Check
def R_ref08_Check (cp : FuncId → List AV → Option AV) (_n : Nat) (a0_0 : Int) (a0_1 : Int) (a0_2 : Int) (a0_3 : Int) : Option AV :=
 (cond (decide (a0_0 < 0))
 (some (.int .i64 5))
 (cond (decide (a0_0 > 23))
 (some (.int .i64 5))
 (cond (decide (a0_1 < 0))
 (some (.int .i64 5))
 (cond (decide (a0_1 > 59))
 (some (.int .i64 5))
 (cond (decide (a0_2 < 0))
 (some (.int .i64 5))
 (cond (decide (a0_2 > 59))
 (some (.int .i64 5))
 (cond (decide (a0_3 < 0))
 (some (.int .i64 5))
 (cond (decide (a0_3 ≥ 1000000000))
 (some (.int .i64 5))
 (some (.int .i64 0))))))))))
theorem eq_ref08_Check (n : Nat) (a0_0 : Int) (a0_1 : Int) (a0_2 : Int) (a0_3 : Int) : CP C (n + 1) F_ref08_Check [.agg [.int .i64 a0_0, .int .i64 a0_1, .int .i64 a0_2, .int .i64 a0_3]] = R_ref08_Check (CP C n) n a0_0 a0_1 a0_2 a0_3 := by kernel_rfl
-- ref08_Secs
def R_ref08_Secs (cp : FuncId → List AV → Option AV) (_n : Nat) (a0_0 : Int) (a0_1 : Int) (a0_2 : Int) (a0_3 : Int) : Option AV :=
 (some (.int .i64 (IntKind.i64.wrap ((IntKind.i64.wrap ((IntKind.i64.wrap (3600 * a0_0)) + (IntKind.i64.wrap (60 * a0_1)))) + a0_2))))
theorem eq_ref08_Secs (n : Nat) (a0_0 : Int) (a0_1 : Int) (a0_2 : Int) (a0_3 : Int) : CP C (n + 1) F_ref08_Secs [.agg [.int .i64 a0_0, .int .i64 a0_1, .int .i64 a0_2, .int .i64 a0_3]] = R_ref08_Secs (CP C n) n a0_0 a0_1 a0_2 a0_3 := by kernel_rfl
-- ref08_Nanos
def R_ref08_Nanos (cp : FuncId → List AV → Option AV) (_n : Nat) (a0_0 : Int) (a0_1 : Int) (a0_2 : Int) (a0_3 : Int) : Option AV :=
 ((cp F_ref08_Check [.agg [.int .i64 a0_0, .int .i64 a0_1, .int .i64 a0_2, .int .i64 a0_3]]).bind fun r1 =>
 (AV.intK .i64 r1 fun i2 =>
 (cond (i2 != 0)
 (some (.tup [.int .i64 0, .int .i64 i2]))
 ((cp F_ref08_Secs [.agg [.int .i64 a0_0, .int .i64 a0_1, .int .i64 a0_2, .int .i64 a0_3]]).bind fun r3 =>
 (AV.intK .i64 r3 fun i4 =>
 (some (.tup [.int .i64 (IntKind.i64.wrap ((IntKind.i64.wrap (i4 * 1000000000)) + a0_3)), .int .i64 0])))))))
theorem eq_ref08_Nanos (n : Nat) (a0_0 : Int) (a0_1 : Int) (a0_2 : Int) (a0_3 : Int) : CP C (n + 1) F_ref08_Nanos [.agg [.int .i64 a0_0, .int .i64 a0_1, .int .i64 a0_2, .int .i64 a0_3]] = R_ref08_Nanos (CP C n) n a0_0 a0_1 a0_2 a0_3 := by kernel_rfl
-- clock_Of
def R_clock_Of (cp : FuncId → List AV → Option AV) (_n : Nat) (a0 : Int) : Option AV :=
 (cond (decide (a0 < 0))
 (some (.tup [.agg [.int .i64 0, .int .i64 0, .int .i64 0, .int .i64 0], .int .i64 8]))
 (cond (decide (a0 ≥ 86400000000000))
 (some (.tup [.agg [.int .i64 0, .int .i64 0, .int .i64 0, .int .i64 0], .int .i64 8]))
 (some (.tup [.agg [.int .i64 (IntKind.i64.wrap (Int.tdiv (IntKind.i64.wrap (Int.tdiv a0 1000000000)) 3600)), .int .i64 (Int.tmod (IntKind.i64.wrap (Int.tdiv (IntKind.i64.wrap (Int.tdiv a0 1000000000)) 60)) 60), .int .i64 (Int.tmod (IntKind.i64.wrap (Int.tdiv a0 1000000000)) 60), .int .i64 (Int.tmod a0 1000000000)], .int .i64 0]))))
theorem eq_clock_Of (n : Nat) (a0 : Int) : CP C (n + 1) F_clock_Of [.int .i64 a0] = R_clock_Of (CP C n) n a0 := by kernel_rfl
-- ref08_OfSecs
def R_ref08_OfSecs (cp : FuncId → List AV → Option AV) (_n : Nat) (a0 : Int) (a1 : Int) : Option AV :=
 (some (.agg [.int .i64 (IntKind.i64.wrap (Int.tdiv a0 3600)), .int .i64 (Int.tmod (IntKind.i64.wrap (Int.tdiv a0 60)) 60), .int .i64 (Int.tmod a0 60), .int .i64 a1]))
theorem eq_ref08_OfSecs (n : Nat) (a0 : Int) (a1 : Int) : CP C (n + 1) F_ref08_OfSecs [.int .i64 a0, .int .i64 a1] = R_ref08_OfSecs (CP C n) n a0 a1 := by kernel_rfl
-- ref08_Of
def R_ref08_Of (cp : FuncId → List AV → Option AV) (_n : Nat) (a0 : Int) : Option AV :=
 (cond (decide (a0 < 0))
 (some (.tup [.agg [.int .i64 0, .int .i64 0, .int .i64 0, .int .i64 0], .int .i64 8]))
 (cond (decide (a0 ≥ 86400000000000))
 (some (.tup [.agg [.int .i64 0, .int .i64 0, .int .i64 0, .int .i64 0], .int .i64 8]))
 ((cp F_ref08_OfSecs [.int .i64 (IntKind.i64.wrap (Int.tdiv a0 1000000000)), .int .i64 (Int.tmod a0 1000000000)]).bind fun r1 =>
 (AV.aggK r1 fun l2 =>
 (consK l2 fun v3 l4 =>
 (AV.intK .i64 v3 fun i5 =>
 (consK l4 fun v6 l7 =>
 (AV.intK .i64 v6 fun i8 =>
 (consK l7 fun v9 l10 =>
 (AV.intK .i64 v9 fun i11 =>
 (consK l10 fun v12 l13 =>
 (AV.intK .i64 v12 fun i14 =>
 (nilK l13
 (some (.tup [.agg [.int .i64 i5, .int .i64 i8, .int .i64 i11, .int .i64 i14], .int .i64 0])))))))))))))))
theorem eq_ref08_Of (n : Nat) (a0 : Int) : CP C (n + 1) F_ref08_Of [.int .i64 a0] = R_ref08_Of (CP C n) n a0 := by kernel_rfl
-- clock_Half
def R_clock_Half (cp : FuncId → List AV → Option AV) (_n : Nat) (a0_0 : Int) (a0_1 : Int) (a0_2 : Int) (a0_3 : Int) : Option AV :=
 ((cp F_clock_Check [.agg [.int .i64 a0_0, .int .i64 a0_1, .int .i64 a0_2, .int .i64 a0_3]]).bind fun r1 =>
 (AV.intK .i64 r1 fun i2 =>
 (cond (i2 != 0)
 (some (.tup [.int .i64 0, .bool false, .int .i64 i2]))
 (some (.tup [.int .i64 (IntKind.i64.wrap ((Int.tmod (IntKind.i64.wrap (a0_0 + 11)) 12) + 1)), .bool (decide (a0_0 > 11)), .int .i64 0])))))
theorem eq_clock_Half (n : Nat) (a0_0 : Int) (a0_1 : Int) (a0_2 : Int) (a0_3 : Int) : CP C (n + 1) F_clock_Half [.agg [.int .i64 a0_0, .int .i64 a0_1, .int .i64 a0_2, .int .i64 a0_3]] = R_clock_Half (CP C n) n a0_0 a0_1 a0_2 a0_3 := by kernel_rfl
-- ref08_Half
def R_ref08_Half (cp : FuncId → List AV → Option AV) (_n : Nat) (a0_0 : Int) (a0_1 : Int) (a0_2 : Int) (a0_3 : Int) : Option AV :=
 ((cp F_ref08_Check [.agg [.int .i64 a0_0, .int .i64 a0_1, .int .i64 a0_2, .int .i64 a0_3]]).bind fun r1 =>
 (AV.intK .i64 r1 fun i2 =>
 (cond (i2 != 0)
 (some (.tup [.int .i64 0, .bool false, .int .i64 i2]))
 (cond ((Int.tmod a0_0 12) == 0)
 (some (.tup [.int .i64 12, .bool (decide (a0_0 ≥ 12)), .int .i64 0]))
 (some (.tup [.int .i64 (Int.tmod a0_0 12), .bool (decide (a0_0 ≥ 12)), .int .i64 0]))))))
theorem eq_ref08_Half (n : Nat) (a0_0 : Int) (a0_1 : Int) (a0_2 : Int) (a0_3 : Int) : CP C (n + 1) F_ref08_Half [.agg [.int .i64 a0_0, .int .i64 a0_1, .int .i64 a0_2, .int .i64 a0_3]] = R_ref08_Half (CP C n) n a0_0 a0_1 a0_2 a0_3 := by kernel_rfl
-- dur_Check
def R_dur_Check (cp : FuncId → List AV → Option AV) (_n : Nat) (a0_0 : Int) (a0_1 : Int) : Option AV :=
 (cond (decide (a0_1 < 0))
 (some (.int .i64 5))
 (cond (decide (a0_1 ≥ 1000000000))
 (some (.int .i64 5))
 (cond (decide (a0_0 > 1099511627776))
 (some (.int .i64 8))
 (cond (decide (a0_0 < (-1099511627776)))
 (some (.int .i64 8))
 (cond ((a0_0 == 1099511627776) && ((a0_1 == (if 1 > a0_1 then 1 else a0_1)) && true))
 (some (.int .i64 8))
 (some (.int .i64 0)))))))
theorem eq_dur_Check (n : Nat) (a0_0 : Int) (a0_1 : Int) : CP C (n + 1) F_dur_Check [.agg [.int .i64 a0_0, .int .i64 a0_1]] = R_dur_Check (CP C n) n a0_0 a0_1 := by kernel_rfl
-- clock_Add
def S_clock_Add_1016 (x0 : Int) (x1 : Int) : St := ⟨[.junk, .junk, .junk, .junk, .ptr (some (2, 0)), .junk, .junk, .int .i64 x0, .junk, .junk, .int .i64 x1, .junk, .junk, .junk, .junk, .junk, .junk, .junk, .junk, .junk, .junk, .junk, .junk, .junk, .junk, .junk, .junk, .junk, .junk, .junk, .junk, .junk, .junk, .junk, .junk, .junk, .junk, .junk, .junk, .junk, .junk, .junk, .junk, .junk, .junk, .junk, .junk, .junk, .junk, .junk, .junk, .junk, .junk, .junk, .junk, .junk, .junk, .junk, .junk, .junk, .junk], [.dead, .dead, .cells 23 [.int .i64 0, .int .i64 0, .int .i64 0, .int .i64 0]]⟩
def S_clock_Add_2040 (x0 : Int) (x1 : Int) : St := ⟨[.junk, .junk, .junk, .junk, .ptr (some (2, 0)), .junk, .junk, .int .i64 x0, .junk, .junk, .int .i64 x1, .junk, .junk, .junk, .junk, .junk, .junk, .junk, .junk, .junk, .junk, .junk, .junk, .junk, .junk, .junk, .junk, .junk, .junk, .junk, .junk, .junk, .junk, .junk, .junk, .junk, .junk, .junk, .junk, .junk, .junk, .junk, .junk, .junk, .junk, .junk, .junk, .junk, .junk, .junk, .junk, .junk, .junk, .junk, .junk, .junk, .junk, .junk, .junk, .junk, .junk], [.dead, .dead, .cells 23 [.int .i64 0, .int .i64 0, .int .i64 0, .int .i64 0]]⟩
def T_clock_Add_2040 (cp : FuncId → List AV → Option AV) (x0 : Int) (x1 : Int) (r2040 : Int → Int → Option AV) : Option AV :=
 (cond (decide (x0 ≥ 86400000000000))
 (r2040 (IntKind.i64.wrap (x0 - 86400000000000)) (IntKind.i64.wrap (x1 + 1)))
 ((cp F_clock_Of [.int .i64 x0]).bind fun r1 =>
 (AV.tupK r1 fun l2 =>
 (consK l2 fun v3 l4 =>
 (AV.aggK v3 fun l5 =>
 (consK l5 fun v6 l7 =>
 (AV.intK .i64 v6 fun i8 =>
 (consK l7 fun v9 l10 =>
 (AV.intK .i64 v9 fun i11 =>
 (consK l10 fun v12 l13 =>
 (AV.intK .i64 v12 fun i14 =>
 (consK l13 fun v15 l16 =>
 (AV.intK .i64 v15 fun i17 =>
 (nilK l16
 (consK l4 fun v18 l19 =>
 (AV.intK .i64 v18 fun i20 =>
 (nilK l19
 (some (.tup [.agg [.int .i64 i8, .int .i64 i11, .int .i64 i14, .int .i64 i17], .int .i64 x1, .int .i64 0])))))))))))))))))))
theorem K_clock_Add_2040 (j : Jump) (n : Nat) (m2040 : Nat) (x0 : Int) (x1 : Int) : enter (topEnv C (CP C n) n F_clock_Add) (some j) (bodyOf C.P F_clock_Add) (endOf C.P F_clock_Add) [false, false, false, true, true, true, true, true, true, true] [(m2040 + 1)] (S_clock_Add_2040 x0 x1) = T_clock_Add_2040 (CP C n) x0 x1 (fun x0 x1 => j [false, false, false, true, true, true, true, true, true, true] [m2040] (S_clock_Add_2040 x0 x1)) := by kernel_rfl
def J_clock_Add_2040 (cp : FuncId → List AV → Option AV) (n : Nat) : Nat → Int → Int → Option AV
  | 0 => (fun x0 x1 => none)
  | m + 1 => (fun x0 x1 => T_clock_Add_2040 cp x0 x1 (J_clock_Add_2040 cp n m))
theorem Js_clock_Add_2040 (cp : FuncId → List AV → Option AV) (n : Nat) (m : Nat) (x0 : Int) (x1 : Int) : J_clock_Add_2040 cp n (m + 1) x0 x1 = T_clock_Add_2040 cp x0 x1 (J_clock_Add_2040 cp n m) := of_eq_true (eq_self _)
theorem JE_clock_Add_2040 (n : Nat) : ∀ (m : Nat) (x0 : Int) (x1 : Int), jT (topEnv C (CP C n) n F_clock_Add) (bodyOf C.P F_clock_Add) (endOf C.P F_clock_Add) [false, false, false, true, true, true, true, true, true, true] [m] (S_clock_Add_2040 x0 x1) = J_clock_Add_2040 (CP C n) n m x0 x1
  | 0, x0, x1 => (jT_eq _ _ _ _ _ _).trans (by kernel_rfl)
  | m + 1, x0, x1 => (jT_eq _ _ _ _ _ _).trans ((K_clock_Add_2040 _ n m x0 x1).trans (congrArg (T_clock_Add_2040 (CP C n) x0 x1) (funext fun x0 => (funext fun x1 => (JE_clock_Add_2040 n m) x0 x1))))
def T_clock_Add_1016 (cp : FuncId → List AV → Option AV) (x0 : Int) (x1 : Int) (r1016 : Int → Int → Option AV) (j2040 : Int → Int → Option AV) : Option AV :=
 (cond (decide (x0 < 0))
 (r1016 (IntKind.i64.wrap (x0 + 86400000000000)) (IntKind.i64.wrap (x1 - 1)))
 (j2040 x0 x1))
theorem K_clock_Add_1016 (j : Jump) (n : Nat) (m1016 : Nat) (x0 : Int) (x1 : Int) : enter (topEnv C (CP C n) n F_clock_Add) (some j) (bodyOf C.P F_clock_Add) (endOf C.P F_clock_Add) [false, false, false, true, true, true, true, true, true] [(m1016 + 1)] (S_clock_Add_1016 x0 x1) = T_clock_Add_1016 (CP C n) x0 x1 (fun x0 x1 => j [false, false, false, true, true, true, true, true, true] [m1016] (S_clock_Add_1016 x0 x1)) (fun x0 x1 => j [false, false, false, true, true, true, true, true, true, true] [(n + 300)] (S_clock_Add_2040 x0 x1)) := by kernel_rfl
def J_clock_Add_1016 (cp : FuncId → List AV → Option AV) (n : Nat) : Nat → Int → Int → Option AV
  | 0 => (fun x0 x1 => none)
  | m + 1 => (fun x0 x1 => T_clock_Add_1016 cp x0 x1 (J_clock_Add_1016 cp n m) (J_clock_Add_2040 cp n (n + 300)))
theorem Js_clock_Add_1016 (cp : FuncId → List AV → Option AV) (n : Nat) (m : Nat) (x0 : Int) (x1 : Int) : J_clock_Add_1016 cp n (m + 1) x0 x1 = T_clock_Add_1016 cp x0 x1 (J_clock_Add_1016 cp n m) (J_clock_Add_2040 cp n (n + 300)) := of_eq_true (eq_self _)
theorem JE_clock_Add_1016 (n : Nat) : ∀ (m : Nat) (x0 : Int) (x1 : Int), jT (topEnv C (CP C n) n F_clock_Add) (bodyOf C.P F_clock_Add) (endOf C.P F_clock_Add) [false, false, false, true, true, true, true, true, true] [m] (S_clock_Add_1016 x0 x1) = J_clock_Add_1016 (CP C n) n m x0 x1
  | 0, x0, x1 => (jT_eq _ _ _ _ _ _).trans (by kernel_rfl)
  | m + 1, x0, x1 => (jT_eq _ _ _ _ _ _).trans ((K_clock_Add_1016 _ n m x0 x1).trans (congr (congrArg (T_clock_Add_1016 (CP C n) x0 x1) (funext fun x0 => (funext fun x1 => (JE_clock_Add_1016 n m) x0 x1))) (funext fun x0 => (funext fun x1 => (JE_clock_Add_2040 n (n + 300)) x0 x1))))
def T_clock_Add_1 (cp : FuncId → List AV → Option AV) (a0_0 : Int) (a0_1 : Int) (a0_2 : Int) (a0_3 : Int) (a1_0 : Int) (a1_1 : Int) (j1016 : Int → Int → Option AV) : Option AV :=
 ((cp F_clock_Nanos [.agg [.int .i64 a0_0, .int .i64 a0_1, .int .i64 a0_2, .int .i64 a0_3]]).bind fun r1 =>
 (AV.tupK r1 fun l2 =>
 (consK l2 fun v3 l4 =>
 (AV.intK .i64 v3 fun i5 =>
 (consK l4 fun v6 l7 =>
 (AV.intK .i64 v6 fun i8 =>
 (nilK l7
 (cond (i8 != 0)
 (some (.tup [.agg [.int .i64 0, .int .i64 0, .int .i64 0, .int .i64 0], .int .i64 0, .int .i64 i8]))
 ((cp F_dur_Check [.agg [.int .i64 a1_0, .int .i64 a1_1]]).bind fun r9 =>
 (AV.intK .i64 r9 fun i10 =>
 (cond (i10 != 0)
 (some (.tup [.agg [.int .i64 0, .int .i64 0, .int .i64 0, .int .i64 0], .int .i64 0, .int .i64 i10]))
 (j1016 (IntKind.i64.wrap (i5 + (IntKind.i64.wrap ((IntKind.i64.wrap ((Int.tmod a1_0 86400) * 1000000000)) + a1_1)))) (IntKind.i64.wrap (Int.tdiv a1_0 86400))))))))))))))
theorem K_clock_Add_1 (j : Jump) (n : Nat) (a0_0 : Int) (a0_1 : Int) (a0_2 : Int) (a0_3 : Int) (a1_0 : Int) (a1_1 : Int) : ex (topEnv C (CP C n) n F_clock_Add) (some j) (bodyOf C.P F_clock_Add) 1 [] [] (endOf C.P F_clock_Add) (startOf C.P F_clock_Add [.agg [.int .i64 a0_0, .int .i64 a0_1, .int .i64 a0_2, .int .i64 a0_3], .agg [.int .i64 a1_0, .int .i64 a1_1]]) = T_clock_Add_1 (CP C n) a0_0 a0_1 a0_2 a0_3 a1_0 a1_1 (fun x0 x1 => j [false, false, false, true, true, true, true, true, true] [(n + 300)] (S_clock_Add_1016 x0 x1)) := by kernel_rfl
def R_clock_Add (cp : FuncId → List AV → Option AV) (n : Nat) (a0_0 : Int) (a0_1 : Int) (a0_2 : Int) (a0_3 : Int) (a1_0 : Int) (a1_1 : Int) : Option AV := T_clock_Add_1 cp a0_0 a0_1 a0_2 a0_3 a1_0 a1_1 (J_clock_Add_1016 cp n (n + 300))
theorem eq_clock_Add (n : Nat) (a0_0 : Int) (a0_1 : Int) (a0_2 : Int) (a0_3 : Int) (a1_0 : Int) (a1_1 : Int) : CP C (n + 1) F_clock_Add [.agg [.int .i64 a0_0, .int .i64 a0_1, .int .i64 a0_2, .int .i64 a0_3], .agg [.int .i64 a1_0, .int .i64 a1_1]] = R_clock_Add (CP C n) n a0_0 a0_1 a0_2 a0_3 a1_0 a1_1 :=
  (CP_pure C n F_clock_Add _ (by kernel_rfl) (by kernel_rfl)).trans ((K_clock_Add_1 _ n a0_0 a0_1 a0_2 a0_3 a1_0 a1_1).trans (congrArg (T_clock_Add_1 (CP C n) a0_0 a0_1 a0_2 a0_3 a1_0 a1_1) (funext fun x0 => (funext fun x1 => (JE_clock_Add_1016 n (n + 300)) x0 x1))))
-- law08_awake
def R_law08_awake (cp : FuncId → List AV → Option AV) (_n : Nat) : Option AV :=
 ((cp F_clock_Add [.agg [.int .i64 23, .int .i64 59, .int .i64 59, .int .i64 999999999], .agg [.int .i64 0, .int .i64 1]]).bind fun r1 =>
 (AV.tupK r1 fun l2 =>
 (consK l2 fun v3 l4 =>
 (AV.aggK v3 fun l5 =>
 (consK l5 fun v6 l7 =>
 (AV.intK .i64 v6 fun i8 =>
 (consK l7 fun v9 l10 =>
 (AV.intK .i64 v9 fun i11 =>
 (consK l10 fun v12 l13 =>
 (AV.intK .i64 v12 fun i14 =>
 (consK l13 fun v15 l16 =>
 (AV.intK .i64 v15 fun i17 =>
 (nilK l16
 (consK l4 fun v18 l19 =>
 (AV.intK .i64 v18 fun i20 =>
 (consK l19 fun v21 l22 =>
 (AV.intK .i64 v21 fun i23 =>
 (nilK l22
 ((cp F_clock_Add [.agg [.int .i64 0, .int .i64 0, .int .i64 0, .int .i64 0], .agg [.int .i64 (-1), .int .i64 999999999]]).bind fun r24 =>
 (AV.tupK r24 fun l25 =>
 (consK l25 fun v26 l27 =>
 (AV.aggK v26 fun l28 =>
 (consK l28 fun v29 l30 =>
 (AV.intK .i64 v29 fun i31 =>
 (consK l30 fun v32 l33 =>
 (AV.intK .i64 v32 fun i34 =>
 (consK l33 fun v35 l36 =>
 (AV.intK .i64 v35 fun i37 =>
 (consK l36 fun v38 l39 =>
 (AV.intK .i64 v38 fun i40 =>
 (nilK l39
 (consK l27 fun v41 l42 =>
 (AV.intK .i64 v41 fun i43 =>
 (consK l42 fun v44 l45 =>
 (AV.intK .i64 v44 fun i46 =>
 (nilK l45
 ((cp F_clock_Half [.agg [.int .i64 0, .int .i64 30, .int .i64 0, .int .i64 0]]).bind fun r47 =>
 (AV.tupK r47 fun l48 =>
 (consK l48 fun v49 l50 =>
 (AV.intK .i64 v49 fun i51 =>
 (consK l50 fun v52 l53 =>
 (AV.boolK v52 fun b54 =>
 (consK l53 fun v55 l56 =>
 (AV.intK .i64 v55 fun i57 =>
 (nilK l56
 (cond ((i8 == 0) && ((i11 == 0) && ((i14 == 0) && ((i17 == 0) && true))))
 (cond (i20 == 1)
 (cond (i23 == 0)
 (cond ((i31 == 23) && ((i34 == 59) && ((i37 == 59) && ((i40 == 999999999) && true))))
 (cond (i43 == (-1))
 (cond (i46 == 0)
 (cond (i51 == 12)
 (cond (!b54)
 (some (.bool (i57 == 0)))
 (some (.bool false)))
 (some (.bool false)))
 (some (.bool false)))
 (some (.bool false)))
 (some (.bool false)))
 (some (.bool false)))
 (some (.bool false)))
 (some (.bool false))))))))))))))))))))))))))))))))))))))))))))))))
theorem eq_law08_awake (n : Nat) : CP C (n + 1) F_law08_awake [] = R_law08_awake (CP C n) n := by kernel_rfl
-- law08_ClockNanos
def R_law08_ClockNanos (cp : FuncId → List AV → Option AV) (_n : Nat) (a0_0 : Int) (a0_1 : Int) (a0_2 : Int) (a0_3 : Int) (a1 : Int) : Option AV :=
 ((cp F_clock_Nanos [.agg [.int .i64 a0_0, .int .i64 a0_1, .int .i64 a0_2, .int .i64 a0_3]]).bind fun r1 =>
 (AV.tupK r1 fun l2 =>
 (consK l2 fun v3 l4 =>
 (AV.intK .i64 v3 fun i5 =>
 (consK l4 fun v6 l7 =>
 (AV.intK .i64 v6 fun i8 =>
 (nilK l7
 ((cp F_ref08_Nanos [.agg [.int .i64 a0_0, .int .i64 a0_1, .int .i64 a0_2, .int .i64 a0_3]]).bind fun r9 =>
 (AV.tupK r9 fun l10 =>
 (consK l10 fun v11 l12 =>
 (AV.intK .i64 v11 fun i13 =>
 (consK l12 fun v14 l15 =>
 (AV.intK .i64 v14 fun i16 =>
 (nilK l15
 ((cp F_clock_Of [.int .i64 a1]).bind fun r17 =>
 (AV.tupK r17 fun l18 =>
 (consK l18 fun v19 l20 =>
 (AV.aggK v19 fun l21 =>
 (consK l21 fun v22 l23 =>
 (AV.intK .i64 v22 fun i24 =>
 (consK l23 fun v25 l26 =>
 (AV.intK .i64 v25 fun i27 =>
 (consK l26 fun v28 l29 =>
 (AV.intK .i64 v28 fun i30 =>
 (consK l29 fun v31 l32 =>
 (AV.intK .i64 v31 fun i33 =>
 (nilK l32
 (consK l20 fun v34 l35 =>
 (AV.intK .i64 v34 fun i36 =>
 (nilK l35
 ((cp F_ref08_Of [.int .i64 a1]).bind fun r37 =>
 (AV.tupK r37 fun l38 =>
 (consK l38 fun v39 l40 =>
 (AV.aggK v39 fun l41 =>
 (consK l41 fun v42 l43 =>
 (AV.intK .i64 v42 fun i44 =>
 (consK l43 fun v45 l46 =>
 (AV.intK .i64 v45 fun i47 =>
 (consK l46 fun v48 l49 =>
 (AV.intK .i64 v48 fun i50 =>
 (consK l49 fun v51 l52 =>
 (AV.intK .i64 v51 fun i53 =>
 (nilK l52
 (consK l40 fun v54 l55 =>
 (AV.intK .i64 v54 fun i56 =>
 (nilK l55
 ((cp F_clock_Half [.agg [.int .i64 a0_0, .int .i64 a0_1, .int .i64 a0_2, .int .i64 a0_3]]).bind fun r57 =>
 (AV.tupK r57 fun l58 =>
 (consK l58 fun v59 l60 =>
 (AV.intK .i64 v59 fun i61 =>
 (consK l60 fun v62 l63 =>
 (AV.boolK v62 fun b64 =>
 (consK l63 fun v65 l66 =>
 (AV.intK .i64 v65 fun i67 =>
 (nilK l66
 ((cp F_ref08_Half [.agg [.int .i64 a0_0, .int .i64 a0_1, .int .i64 a0_2, .int .i64 a0_3]]).bind fun r68 =>
 (AV.tupK r68 fun l69 =>
 (consK l69 fun v70 l71 =>
 (AV.intK .i64 v70 fun i72 =>
 (consK l71 fun v73 l74 =>
 (AV.boolK v73 fun b75 =>
 (consK l74 fun v76 l77 =>
 (AV.intK .i64 v76 fun i78 =>
 (nilK l77
 (cond (i5 == i13)
 (cond (i8 == i16)
 (cond ((i24 == i44) && ((i27 == i47) && ((i30 == i50) && ((i33 == i53) && true))))
 (cond (i36 == i56)
 (cond (i61 == i72)
 (cond (b64 == b75)
 (cond (i67 == i78)
 ((cp F_clock_Check [.agg [.int .i64 a0_0, .int .i64 a0_1, .int .i64 a0_2, .int .i64 a0_3]]).bind fun r79 =>
 (AV.intK .i64 r79 fun i80 =>
 ((cp F_ref08_Check [.agg [.int .i64 a0_0, .int .i64 a0_1, .int .i64 a0_2, .int .i64 a0_3]]).bind fun r81 =>
 (AV.intK .i64 r81 fun i82 =>
 (cond (i80 == i82)
 ((cp F_law08_awake []).bind fun r83 =>
 (AV.boolK r83 fun b84 =>
 (some (.bool b84))))
 (some (.bool false)))))))
 (some (.bool false)))
 (some (.bool false)))
 (some (.bool false)))
 (some (.bool false)))
 (some (.bool false)))
 (some (.bool false)))
 (some (.bool false)))))))))))))))))))))))))))))))))))))))))))))))))))))))))))))))))))
theorem eq_law08_ClockNanos (n : Nat) (a0_0 : Int) (a0_1 : Int) (a0_2 : Int) (a0_3 : Int) (a1 : Int) : CP C (n + 1) F_law08_ClockNanos [.agg [.int .i64 a0_0, .int .i64 a0_1, .int .i64 a0_2, .int .i64 a0_3], .int .i64 a1] = R_law08_ClockNanos (CP C n) n a0_0 a0_1 a0_2 a0_3 a1 := by kernel_rfl
-- ref03_CheckDur
def R_ref03_CheckDur (cp : FuncId → List AV → Option AV) (_n : Nat) (a0_0 : Int) (a0_1 : Int) : Option AV :=
 (cond (decide (a0_1 < 0))
 (some (.int .i64 5))
 (cond (decide (a0_1 ≥ 1000000000))
 (some (.int .i64 5))
 (cond (decide (a0_0 < (-1099511627776)))
 (some (.int .i64 8))
 (cond (decide (a0_0 > 1099511627776))
 (some (.int .i64 8))
 (cond (a0_0 == 1099511627776)
 (cond (decide (a0_1 > 0))
 (some (.int .i64 8))
 (some (.int .i64 0)))
 (some (.int .i64 0)))))))
theorem eq_ref03_CheckDur (n : Nat) (a0_0 : Int) (a0_1 : Int) : CP C (n + 1) F_ref03_CheckDur [.agg [.int .i64 a0_0, .int .i64 a0_1]] = R_ref03_CheckDur (CP C n) n a0_0 a0_1 := by kernel_rfl
-- ref08_Add
def S_ref08_Add_63 (x0 : Int) (x1 : Int) : St := ⟨[.junk, .junk, .junk, .junk, .ptr (some (2, 0)), .junk, .junk, .junk, .int .i64 x0, .int .i64 x1, .junk, .junk, .junk, .junk, .junk, .junk, .junk, .junk, .junk, .junk, .junk, .junk, .junk, .junk, .junk, .junk, .junk, .junk, .junk, .junk, .junk, .junk, .junk, .junk, .junk, .junk, .junk, .junk, .junk, .junk, .junk, .junk, .junk, .junk, .junk, .junk, .junk, .junk, .junk, .junk, .junk], [.dead, .dead, .cells 23 [.int .i64 0, .int .i64 0, .int .i64 0, .int .i64 0], .dead, .dead, .dead, .dead, .dead, .dead, .dead]⟩
def S_ref08_Add_511 (x0 : Int) (x1 : Int) (x2 : Int) : St := ⟨[.junk, .junk, .junk, .junk, .ptr (some (2, 0)), .junk, .junk, .junk, .int .i64 x0, .int .i64 x1, .int .i64 x2, .junk, .junk, .junk, .junk, .junk, .junk, .junk, .junk, .junk, .junk, .junk, .junk, .junk, .junk, .junk, .junk, .junk, .junk, .junk, .junk, .junk, .junk, .junk, .junk, .junk, .junk, .junk, .junk, .junk, .junk, .junk, .junk, .junk, .junk, .junk, .junk, .junk, .junk, .junk, .junk], [.dead, .dead, .cells 23 [.int .i64 0, .int .i64 0, .int .i64 0, .int .i64 0], .dead, .dead, .dead, .dead, .dead, .dead, .dead]⟩
def T_ref08_Add_511 (cp : FuncId → List AV → Option AV) (x0 : Int) (x1 : Int) (x2 : Int) : Option AV :=
 ((cp F_ref08_OfSecs [.int .i64 x1, .int .i64 x0]).bind fun r1 =>
 (AV.aggK r1 fun l2 =>
 (consK l2 fun v3 l4 =>
 (AV.intK .i64 v3 fun i5 =>
 (consK l4 fun v6 l7 =>
 (AV.intK .i64 v6 fun i8 =>
 (consK l7 fun v9 l10 =>
 (AV.intK .i64 v9 fun i11 =>
 (consK l10 fun v12 l13 =>
 (AV.intK .i64 v12 fun i14 =>
 (nilK l13
 (some (.tup [.agg [.int .i64 i5, .int .i64 i8, .int .i64 i11, .int .i64 i14], .int .i64 x2, .int .i64 0])))))))))))))
theorem K_ref08_Add_511 (j : Jump) (n : Nat) (x0 : Int) (x1 : Int) (x2 : Int) : enter (topEnv C (CP C n) n F_ref08_Add) (some j) (bodyOf C.P F_ref08_Add) (endOf C.P F_ref08_Add) [true, true, true, true, true, true, true, true] [] (S_ref08_Add_511 x0 x1 x2) = T_ref08_Add_511 (CP C n) x0 x1 x2 := by kernel_rfl
def J_ref08_Add_511 (cp : FuncId → List AV → Option AV) (n : Nat) (x0 : Int) (x1 : Int) (x2 : Int) : Option AV := T_ref08_Add_511 cp x0 x1 x2
theorem JE_ref08_Add_511 (n : Nat) (x0 : Int) (x1 : Int) (x2 : Int) : jT (topEnv C (CP C n) n F_ref08_Add) (bodyOf C.P F_ref08_Add) (endOf C.P F_ref08_Add) [true, true, true, true, true, true, true, true] [] (S_ref08_Add_511 x0 x1 x2) = J_ref08_Add_511 (CP C n) n x0 x1 x2 :=
  (jT_eq _ _ _ _ _ _).trans ((K_ref08_Add_511 _ n x0 x1 x2).trans (rfl))
def T_ref08_Add_63 (cp : FuncId → List AV → Option AV) (x0 : Int) (x1 : Int) (j511 : Int → Int → Int → Option AV) : Option AV :=
 (cond (decide ((Int.tmod x1 86400) < 0))
 (j511 x0 (IntKind.i64.wrap ((Int.tmod x1 86400) + 86400)) (IntKind.i64.wrap ((IntKind.i64.wrap (Int.tdiv x1 86400)) - 1)))
 (j511 x0 (Int.tmod x1 86400) (IntKind.i64.wrap (Int.tdiv x1 86400))))
theorem K_ref08_Add_63 (j : Jump) (n : Nat) (x0 : Int) (x1 : Int) : enter (topEnv C (CP C n) n F_ref08_Add) (some j) (bodyOf C.P F_ref08_Add) (endOf C.P F_ref08_Add) [true, true, true, true, true] [] (S_ref08_Add_63 x0 x1) = T_ref08_Add_63 (CP C n) x0 x1 (fun x0 x1 x2 => j [true, true, true, true, true, true, true, true] [] (S_ref08_Add_511 x0 x1 x2)) := by kernel_rfl
def J_ref08_Add_63 (cp : FuncId → List AV → Option AV) (n : Nat) (x0 : Int) (x1 : Int) : Option AV := T_ref08_Add_63 cp x0 x1 (J_ref08_Add_511 cp n)
theorem JE_ref08_Add_63 (n : Nat) (x0 : Int) (x1 : Int) : jT (topEnv C (CP C n) n F_ref08_Add) (bodyOf C.P F_ref08_Add) (endOf C.P F_ref08_Add) [true, true, true, true, true] [] (S_ref08_Add_63 x0 x1) = J_ref08_Add_63 (CP C n) n x0 x1 :=
  (jT_eq _ _ _ _ _ _).trans ((K_ref08_Add_63 _ n x0 x1).trans (congrArg (T_ref08_Add_63 (CP C n) x0 x1) (funext fun x0 => (funext fun x1 => (funext fun x2 => (JE_ref08_Add_511 n) x0 x1 x2)))))
def T_ref08_Add_1 (cp : FuncId → List AV → Option AV) (a0_0 : Int) (a0_1 : Int) (a0_2 : Int) (a0_3 : Int) (a1_0 : Int) (a1_1 : Int) (j63 : Int → Int → Option AV) : Option AV :=
 ((cp F_ref08_Check [.agg [.int .i64 a0_0, .int .i64 a0_1, .int .i64 a0_2, .int .i64 a0_3]]).bind fun r1 =>
 (AV.intK .i64 r1 fun i2 =>
 ((cp F_ref03_CheckDur [.agg [.int .i64 a1_0, .int .i64 a1_1]]).bind fun r3 =>
 (AV.intK .i64 r3 fun i4 =>
 (cond (i2 != 0)
 (cond (i4 != 0)
 (cond (i2 == 0)
 (cond (i4 != 0)
 (some (.tup [.agg [.int .i64 0, .int .i64 0, .int .i64 0, .int .i64 0], .int .i64 0, .int .i64 i4]))
 ((cp F_ref08_Secs [.agg [.int .i64 a0_0, .int .i64 a0_1, .int .i64 a0_2, .int .i64 a0_3]]).bind fun r5 =>
 (AV.intK .i64 r5 fun i6 =>
 (cond (decide ((IntKind.i64.wrap (a0_3 + a1_1)) ≥ 1000000000))
 (j63 (IntKind.i64.wrap ((IntKind.i64.wrap (a0_3 + a1_1)) - 1000000000)) (IntKind.i64.wrap ((IntKind.i64.wrap (i6 + a1_0)) + 1)))
 (j63 (IntKind.i64.wrap (a0_3 + a1_1)) (IntKind.i64.wrap (i6 + a1_0)))))))
 (cond (decide (i4 < i2))
 (cond (i4 != 0)
 (some (.tup [.agg [.int .i64 0, .int .i64 0, .int .i64 0, .int .i64 0], .int .i64 0, .int .i64 i4]))
 ((cp F_ref08_Secs [.agg [.int .i64 a0_0, .int .i64 a0_1, .int .i64 a0_2, .int .i64 a0_3]]).bind fun r7 =>
 (AV.intK .i64 r7 fun i8 =>
 (cond (decide ((IntKind.i64.wrap (a0_3 + a1_1)) ≥ 1000000000))
 (j63 (IntKind.i64.wrap ((IntKind.i64.wrap (a0_3 + a1_1)) - 1000000000)) (IntKind.i64.wrap ((IntKind.i64.wrap (i8 + a1_0)) + 1)))
 (j63 (IntKind.i64.wrap (a0_3 + a1_1)) (IntKind.i64.wrap (i8 + a1_0)))))))
 (cond (i2 != 0)
 (some (.tup [.agg [.int .i64 0, .int .i64 0, .int .i64 0, .int .i64 0], .int .i64 0, .int .i64 i2]))
 ((cp F_ref08_Secs [.agg [.int .i64 a0_0, .int .i64 a0_1, .int .i64 a0_2, .int .i64 a0_3]]).bind fun r9 =>
 (AV.intK .i64 r9 fun i10 =>
 (cond (decide ((IntKind.i64.wrap (a0_3 + a1_1)) ≥ 1000000000))
 (j63 (IntKind.i64.wrap ((IntKind.i64.wrap (a0_3 + a1_1)) - 1000000000)) (IntKind.i64.wrap ((IntKind.i64.wrap (i10 + a1_0)) + 1)))
 (j63 (IntKind.i64.wrap (a0_3 + a1_1)) (IntKind.i64.wrap (i10 + a1_0)))))))))
 (cond (i2 != 0)
 (some (.tup [.agg [.int .i64 0, .int .i64 0, .int .i64 0, .int .i64 0], .int .i64 0, .int .i64 i2]))
 ((cp F_ref08_Secs [.agg [.int .i64 a0_0, .int .i64 a0_1, .int .i64 a0_2, .int .i64 a0_3]]).bind fun r11 =>
 (AV.intK .i64 r11 fun i12 =>
 (cond (decide ((IntKind.i64.wrap (a0_3 + a1_1)) ≥ 1000000000))
 (j63 (IntKind.i64.wrap ((IntKind.i64.wrap (a0_3 + a1_1)) - 1000000000)) (IntKind.i64.wrap ((IntKind.i64.wrap (i12 + a1_0)) + 1)))
 (j63 (IntKind.i64.wrap (a0_3 + a1_1)) (IntKind.i64.wrap (i12 + a1_0))))))))
 (cond (i4 != 0)
 (cond (i4 != 0)
 (some (.tup [.agg [.int .i64 0, .int .i64 0, .int .i64 0, .int .i64 0], .int .i64 0, .int .i64 i4]))
 ((cp F_ref08_Secs [.agg [.int .i64 a0_0, .int .i64 a0_1, .int .i64 a0_2, .int .i64 a0_3]]).bind fun r13 =>
 (AV.intK .i64 r13 fun i14 =>
 (cond (decide ((IntKind.i64.wrap (a0_3 + a1_1)) ≥ 1000000000))
 (j63 (IntKind.i64.wrap ((IntKind.i64.wrap (a0_3 + a1_1)) - 1000000000)) (IntKind.i64.wrap ((IntKind.i64.wrap (i14 + a1_0)) + 1)))
 (j63 (IntKind.i64.wrap (a0_3 + a1_1)) (IntKind.i64.wrap (i14 + a1_0)))))))
 ((cp F_ref08_Secs [.agg [.int .i64 a0_0, .int .i64 a0_1, .int .i64 a0_2, .int .i64 a0_3]]).bind fun r15 =>
 (AV.intK .i64 r15 fun i16 =>
 (cond (decide ((IntKind.i64.wrap (a0_3 + a1_1)) ≥ 1000000000))
 (j63 (IntKind.i64.wrap ((IntKind.i64.wrap (a0_3 + a1_1)) - 1000000000)) (IntKind.i64.wrap ((IntKind.i64.wrap (i16 + a1_0)) + 1)))
 (j63 (IntKind.i64.wrap (a0_3 + a1_1)) (IntKind.i64.wrap (i16 + a1_0))))))))))))
theorem K_ref08_Add_1 (j : Jump) (n : Nat) (a0_0 : Int) (a0_1 : Int) (a0_2 : Int) (a0_3 : Int) (a1_0 : Int) (a1_1 : Int) : ex (topEnv C (CP C n) n F_ref08_Add) (some j) (bodyOf C.P F_ref08_Add) 1 [] [] (endOf C.P F_ref08_Add) (startOf C.P F_ref08_Add [.agg [.int .i64 a0_0, .int .i64 a0_1, .int .i64 a0_2, .int .i64 a0_3], .agg [.int .i64 a1_0, .int .i64 a1_1]]) = T_ref08_Add_1 (CP C n) a0_0 a0_1 a0_2 a0_3 a1_0 a1_1 (fun x0 x1 => j [true, true, true, true, true] [] (S_ref08_Add_63 x0 x1)) := by kernel_rfl
def R_ref08_Add (cp : FuncId → List AV → Option AV) (n : Nat) (a0_0 : Int) (a0_1 : Int) (a0_2 : Int) (a0_3 : Int) (a1_0 : Int) (a1_1 : Int) : Option AV := T_ref08_Add_1 cp a0_0 a0_1 a0_2 a0_3 a1_0 a1_1 (J_ref08_Add_63 cp n)
theorem eq_ref08_Add (n : Nat) (a0_0 : Int) (a0_1 : Int) (a0_2 : Int) (a0_3 : Int) (a1_0 : Int) (a1_1 : Int) : CP C (n + 1) F_ref08_Add [.agg [.int .i64 a0_0, .int .i64 a0_1, .int .i64 a0_2, .int .i64 a0_3], .agg [.int .i64 a1_0, .int .i64 a1_1]] = R_ref08_Add (CP C n) n a0_0 a0_1 a0_2 a0_3 a1_0 a1_1 :=
  (CP_pure C n F_ref08_Add _ (by kernel_rfl) (by kernel_rfl)).trans ((K_ref08_Add_1 _ n a0_0 a0_1 a0_2 a0_3 a1_0 a1_1).trans (congrArg (T_ref08_Add_1 (CP C n) a0_0 a0_1 a0_2 a0_3 a1_0 a1_1) (funext fun x0 => (funext fun x1 => (JE_ref08_Add_63 n) x0 x1))))
-- law08_ClockAdds
def R_law08_ClockAdds (cp : FuncId → List AV → Option AV) (_n : Nat) (a0_0 : Int) (a0_1 : Int) (a0_2 : Int) (a0_3 : Int) (a1_0 : Int) (a1_1 : Int) : Option AV :=
 ((cp F_clock_Add [.agg [.int .i64 a0_0, .int .i64 a0_1, .int .i64 a0_2, .int .i64 a0_3], .agg [.int .i64 a1_0, .int .i64 a1_1]]).bind fun r1 =>
 (AV.tupK r1 fun l2 =>
 (consK l2 fun v3 l4 =>
 (AV.aggK v3 fun l5 =>
 (consK l5 fun v6 l7 =>
 (AV.intK .i64 v6 fun i8 =>
 (consK l7 fun v9 l10 =>
 (AV.intK .i64 v9 fun i11 =>
 (consK l10 fun v12 l13 =>
 (AV.intK .i64 v12 fun i14 =>
 (consK l13 fun v15 l16 =>
 (AV.intK .i64 v15 fun i17 =>
 (nilK l16
 (consK l4 fun v18 l19 =>
 (AV.intK .i64 v18 fun i20 =>
 (consK l19 fun v21 l22 =>
 (AV.intK .i64 v21 fun i23 =>
 (nilK l22
 ((cp F_ref08_Add [.agg [.int .i64 a0_0, .int .i64 a0_1, .int .i64 a0_2, .int .i64 a0_3], .agg [.int .i64 a1_0, .int .i64 a1_1]]).bind fun r24 =>
 (AV.tupK r24 fun l25 =>
 (consK l25 fun v26 l27 =>
 (AV.aggK v26 fun l28 =>
 (consK l28 fun v29 l30 =>
 (AV.intK .i64 v29 fun i31 =>
 (consK l30 fun v32 l33 =>
 (AV.intK .i64 v32 fun i34 =>
 (consK l33 fun v35 l36 =>
 (AV.intK .i64 v35 fun i37 =>
 (consK l36 fun v38 l39 =>
 (AV.intK .i64 v38 fun i40 =>
 (nilK l39
 (consK l27 fun v41 l42 =>
 (AV.intK .i64 v41 fun i43 =>
 (consK l42 fun v44 l45 =>
 (AV.intK .i64 v44 fun i46 =>
 (nilK l45
 (cond ((i8 == i31) && ((i11 == i34) && ((i14 == i37) && ((i17 == i40) && true))))
 (cond (i20 == i43)
 (cond (i23 == i46)
 ((cp F_law08_awake []).bind fun r47 =>
 (AV.boolK r47 fun b48 =>
 (some (.bool b48))))
 (some (.bool false)))
 (some (.bool false)))
 (some (.bool false)))))))))))))))))))))))))))))))))))))))
theorem eq_law08_ClockAdds (n : Nat) (a0_0 : Int) (a0_1 : Int) (a0_2 : Int) (a0_3 : Int) (a1_0 : Int) (a1_1 : Int) : CP C (n + 1) F_law08_ClockAdds [.agg [.int .i64 a0_0, .int .i64 a0_1, .int .i64 a0_2, .int .i64 a0_3], .agg [.int .i64 a1_0, .int .i64 a1_1]] = R_law08_ClockAdds (CP C n) n a0_0 a0_1 a0_2 a0_3 a1_0 a1_1 := by kernel_rfl
-- law08_ClockBack
def R_law08_ClockBack (cp : FuncId → List AV → Option AV) (_n : Nat) (a0_0 : Int) (a0_1 : Int) (a0_2 : Int) (a0_3 : Int) (a1 : Int) : Option AV :=
 ((cp F_clock_Nanos [.agg [.int .i64 a0_0, .int .i64 a0_1, .int .i64 a0_2, .int .i64 a0_3]]).bind fun r1 =>
 (AV.tupK r1 fun l2 =>
 (consK l2 fun v3 l4 =>
 (AV.intK .i64 v3 fun i5 =>
 (consK l4 fun v6 l7 =>
 (AV.intK .i64 v6 fun i8 =>
 (nilK l7
 (cond (i8 != 0)
 ((cp F_law08_awake []).bind fun r9 =>
 (AV.boolK r9 fun b10 =>
 (some (.bool b10))))
 ((cp F_clock_Of [.int .i64 i5]).bind fun r11 =>
 (AV.tupK r11 fun l12 =>
 (consK l12 fun v13 l14 =>
 (AV.aggK v13 fun l15 =>
 (consK l15 fun v16 l17 =>
 (AV.intK .i64 v16 fun i18 =>
 (consK l17 fun v19 l20 =>
 (AV.intK .i64 v19 fun i21 =>
 (consK l20 fun v22 l23 =>
 (AV.intK .i64 v22 fun i24 =>
 (consK l23 fun v25 l26 =>
 (AV.intK .i64 v25 fun i27 =>
 (nilK l26
 (consK l14 fun v28 l29 =>
 (AV.intK .i64 v28 fun i30 =>
 (nilK l29
 (cond (!((i18 == a0_0) && ((i21 == a0_1) && ((i24 == a0_2) && ((i27 == a0_3) && true)))))
 (some (.bool false))
 (cond (i30 != 0)
 (some (.bool false))
 ((cp F_clock_Add [.agg [.int .i64 a0_0, .int .i64 a0_1, .int .i64 a0_2, .int .i64 a0_3], .agg [.int .i64 (Int.tmod a1 1099511627776), .int .i64 0]]).bind fun r31 =>
 (AV.tupK r31 fun l32 =>
 (consK l32 fun v33 l34 =>
 (AV.aggK v33 fun l35 =>
 (consK l35 fun v36 l37 =>
 (AV.intK .i64 v36 fun i38 =>
 (consK l37 fun v39 l40 =>
 (AV.intK .i64 v39 fun i41 =>
 (consK l40 fun v42 l43 =>
 (AV.intK .i64 v42 fun i44 =>
 (consK l43 fun v45 l46 =>
 (AV.intK .i64 v45 fun i47 =>
 (nilK l46
 (consK l34 fun v48 l49 =>
 (AV.intK .i64 v48 fun i50 =>
 (consK l49 fun v51 l52 =>
 (AV.intK .i64 v51 fun i53 =>
 (nilK l52
 ((cp F_clock_Add [.agg [.int .i64 i38, .int .i64 i41, .int .i64 i44, .int .i64 i47], .agg [.int .i64 (IntKind.i64.wrap (0 - (Int.tmod a1 1099511627776))), .int .i64 0]]).bind fun r54 =>
 (AV.tupK r54 fun l55 =>
 (consK l55 fun v56 l57 =>
 (AV.aggK v56 fun l58 =>
 (consK l58 fun v59 l60 =>
 (AV.intK .i64 v59 fun i61 =>
 (consK l60 fun v62 l63 =>
 (AV.intK .i64 v62 fun i64 =>
 (consK l63 fun v65 l66 =>
 (AV.intK .i64 v65 fun i67 =>
 (consK l66 fun v68 l69 =>
 (AV.intK .i64 v68 fun i70 =>
 (nilK l69
 (consK l57 fun v71 l72 =>
 (AV.intK .i64 v71 fun i73 =>
 (consK l72 fun v74 l75 =>
 (AV.intK .i64 v74 fun i76 =>
 (nilK l75
 (cond (i53 == 0)
 (cond (i76 == 0)
 (cond ((i61 == a0_0) && ((i64 == a0_1) && ((i67 == a0_2) && ((i70 == a0_3) && true))))
 (cond (i50 == (IntKind.i64.wrap (0 - i73)))
 ((cp F_law08_awake []).bind fun r77 =>
 (AV.boolK r77 fun b78 =>
 (some (.bool b78))))
 (some (.bool false)))
 (some (.bool false)))
 (some (.bool false)))
 (some (.bool false)))))))))))))))))))))))))))))))))))))))))))))))))))))))))))))))))
theorem eq_law08_ClockBack (n : Nat) (a0_0 : Int) (a0_1 : Int) (a0_2 : Int) (a0_3 : Int) (a1 : Int) : CP C (n + 1) F_law08_ClockBack [.agg [.int .i64 a0_0, .int .i64 a0_1, .int .i64 a0_2, .int .i64 a0_3], .int .i64 a1] = R_law08_ClockBack (CP C n) n a0_0 a0_1 a0_2 a0_3 a1 := by kernel_rfl
-- law08_ClockDays
def R_law08_ClockDays (cp : FuncId → List AV → Option AV) (_n : Nat) (a0_0 : Int) (a0_1 : Int) (a0_2 : Int) (a0_3 : Int) (a1 : Int) (a2 : Int) : Option AV :=
 ((cp F_clock_Add [.agg [.int .i64 a0_0, .int .i64 a0_1, .int .i64 a0_2, .int .i64 a0_3], .agg [.int .i64 (Int.tmod a2 86400), .int .i64 0]]).bind fun r1 =>
 (AV.tupK r1 fun l2 =>
 (consK l2 fun v3 l4 =>
 (AV.aggK v3 fun l5 =>
 (consK l5 fun v6 l7 =>
 (AV.intK .i64 v6 fun i8 =>
 (consK l7 fun v9 l10 =>
 (AV.intK .i64 v9 fun i11 =>
 (consK l10 fun v12 l13 =>
 (AV.intK .i64 v12 fun i14 =>
 (consK l13 fun v15 l16 =>
 (AV.intK .i64 v15 fun i17 =>
 (nilK l16
 (consK l4 fun v18 l19 =>
 (AV.intK .i64 v18 fun i20 =>
 (consK l19 fun v21 l22 =>
 (AV.intK .i64 v21 fun i23 =>
 (nilK l22
 ((cp F_clock_Add [.agg [.int .i64 a0_0, .int .i64 a0_1, .int .i64 a0_2, .int .i64 a0_3], .agg [.int .i64 (IntKind.i64.wrap ((Int.tmod a2 86400) + (IntKind.i64.wrap ((Int.tmod a1 1000000) * 86400)))), .int .i64 0]]).bind fun r24 =>
 (AV.tupK r24 fun l25 =>
 (consK l25 fun v26 l27 =>
 (AV.aggK v26 fun l28 =>
 (consK l28 fun v29 l30 =>
 (AV.intK .i64 v29 fun i31 =>
 (consK l30 fun v32 l33 =>
 (AV.intK .i64 v32 fun i34 =>
 (consK l33 fun v35 l36 =>
 (AV.intK .i64 v35 fun i37 =>
 (consK l36 fun v38 l39 =>
 (AV.intK .i64 v38 fun i40 =>
 (nilK l39
 (consK l27 fun v41 l42 =>
 (AV.intK .i64 v41 fun i43 =>
 (consK l42 fun v44 l45 =>
 (AV.intK .i64 v44 fun i46 =>
 (nilK l45
 (cond (i23 == i46)
 (cond ((i8 == i31) && ((i11 == i34) && ((i14 == i37) && ((i17 == i40) && true))))
 (cond (i23 != 0)
 ((cp F_law08_awake []).bind fun r47 =>
 (AV.boolK r47 fun b48 =>
 (some (.bool b48))))
 (cond (i43 == (IntKind.i64.wrap (i20 + (Int.tmod a1 1000000))))
 ((cp F_law08_awake []).bind fun r49 =>
 (AV.boolK r49 fun b50 =>
 (some (.bool b50))))
 (some (.bool false))))
 (some (.bool false)))
 (some (.bool false)))))))))))))))))))))))))))))))))))))))
theorem eq_law08_ClockDays (n : Nat) (a0_0 : Int) (a0_1 : Int) (a0_2 : Int) (a0_3 : Int) (a1 : Int) (a2 : Int) : CP C (n + 1) F_law08_ClockDays [.agg [.int .i64 a0_0, .int .i64 a0_1, .int .i64 a0_2, .int .i64 a0_3], .int .i64 a1, .int .i64 a2] = R_law08_ClockDays (CP C n) n a0_0 a0_1 a0_2 a0_3 a1 a2 := by kernel_rfl
-- law08_ClockHalves
def R_law08_ClockHalves (cp : FuncId → List AV → Option AV) (_n : Nat) (a0_0 : Int) (a0_1 : Int) (a0_2 : Int) (a0_3 : Int) (a1_0 : Int) (a1_1 : Int) (a1_2 : Int) (a1_3 : Int) : Option AV :=
 ((cp F_clock_Half [.agg [.int .i64 a0_0, .int .i64 a0_1, .int .i64 a0_2, .int .i64 a0_3]]).bind fun r1 =>
 (AV.tupK r1 fun l2 =>
 (consK l2 fun v3 l4 =>
 (AV.intK .i64 v3 fun i5 =>
 (consK l4 fun v6 l7 =>
 (AV.boolK v6 fun b8 =>
 (consK l7 fun v9 l10 =>
 (AV.intK .i64 v9 fun i11 =>
 (nilK l10
 ((cp F_clock_Half [.agg [.int .i64 a1_0, .int .i64 a1_1, .int .i64 a1_2, .int .i64 a1_3]]).bind fun r12 =>
 (AV.tupK r12 fun l13 =>
 (consK l13 fun v14 l15 =>
 (AV.intK .i64 v14 fun i16 =>
 (consK l15 fun v17 l18 =>
 (AV.boolK v17 fun b19 =>
 (consK l18 fun v20 l21 =>
 (AV.intK .i64 v20 fun i22 =>
 (nilK l21
 (cond (i11 != 0)
 ((cp F_law08_awake []).bind fun r23 =>
 (AV.boolK r23 fun b24 =>
 (some (.bool b24))))
 (cond (i22 != 0)
 ((cp F_law08_awake []).bind fun r25 =>
 (AV.boolK r25 fun b26 =>
 (some (.bool b26))))
 (cond (decide (i5 ≥ 1))
 (cond (decide (i5 ≤ 12))
 (cond (i5 == i16)
 (cond ((b8 == b19) == (a0_0 == a1_0))
 (cond (b8 == (decide (a0_0 ≥ 12)))
 (cond ((Int.tmod i5 12) == (Int.tmod a0_0 12))
 ((cp F_law08_awake []).bind fun r27 =>
 (AV.boolK r27 fun b28 =>
 (some (.bool b28))))
 (some (.bool false)))
 (some (.bool false)))
 (some (.bool false)))
 (cond (false == (a0_0 == a1_0))
 (cond (b8 == (decide (a0_0 ≥ 12)))
 (cond ((Int.tmod i5 12) == (Int.tmod a0_0 12))
 ((cp F_law08_awake []).bind fun r29 =>
 (AV.boolK r29 fun b30 =>
 (some (.bool b30))))
 (some (.bool false)))
 (some (.bool false)))
 (some (.bool false))))
 (some (.bool false)))
 (some (.bool false)))))))))))))))))))))))
theorem eq_law08_ClockHalves (n : Nat) (a0_0 : Int) (a0_1 : Int) (a0_2 : Int) (a0_3 : Int) (a1_0 : Int) (a1_1 : Int) (a1_2 : Int) (a1_3 : Int) : CP C (n + 1) F_law08_ClockHalves [.agg [.int .i64 a0_0, .int .i64 a0_1, .int .i64 a0_2, .int .i64 a0_3], .agg [.int .i64 a1_0, .int .i64 a1_1, .int .i64 a1_2, .int .i64 a1_3]] = R_law08_ClockHalves (CP C n) n a0_0 a0_1 a0_2 a0_3 a1_0 a1_1 a1_2 a1_3 := by kernel_rfl
end Go.Proofs.Ytbpihmcloeegeaa.Sim.S
