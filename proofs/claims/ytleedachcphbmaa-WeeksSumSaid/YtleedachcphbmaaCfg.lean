/- The program as the abstract run takes it. Condition: none beyond what each theorem says. -/

import Derived.Test.YtleedachcphbmaaSimCfg
import Derived.Test.YtleedachcphbmaaProg
open Go Go.Proofs.Ytleedachcphbmaa.Sim Go.Proofs
namespace Go.Proofs.Ytleedachcphbmaa.Sim.S
abbrev F_law07_WeeksOf : FuncId := 3
abbrev F_law07_WeeksDates : FuncId := 4
abbrev F_law07_WeeksBack : FuncId := 5
abbrev F_law07_WeeksThursdays : FuncId := 6
abbrev F_law07_WeeksSum : FuncId := 7
abbrev F_weeks_Of : FuncId := 8
abbrev F_ref07_Of : FuncId := 9
abbrev F_law07_awake : FuncId := 10
abbrev F_weeks_Date : FuncId := 11
abbrev F_ref07_Date : FuncId := 12
abbrev F_weeks_Weeks : FuncId := 13
abbrev F_ref07_Weeks : FuncId := 14
abbrev F_ref06_Days : FuncId := 15
abbrev F_ref06_DateOf : FuncId := 16
abbrev F_ref06_Ordinal : FuncId := 17
abbrev F_civil_Days : FuncId := 18
abbrev F_civil_Weekday : FuncId := 19
abbrev F_weeks_begin : FuncId := 20
abbrev F_ref06_Check : FuncId := 21
abbrev F_ref07_like : FuncId := 22
abbrev F_ref06_Number : FuncId := 23
abbrev F_ref07_one : FuncId := 24
abbrev F_ref06_Weekday : FuncId := 25
abbrev F_civil_DateOf : FuncId := 26
abbrev F_weeks_first : FuncId := 27
abbrev F_civil_Leap : FuncId := 28
abbrev F_ref06_YearDays : FuncId := 29
abbrev F_ref06_MonthDays : FuncId := 30
abbrev F_ref06_start : FuncId := 31
abbrev F_civil_Check : FuncId := 32
abbrev F_civil_number : FuncId := 33
abbrev F_civil_floor : FuncId := 34
abbrev F_civil_Number : FuncId := 35
abbrev F_ref06_May : FuncId := 36
abbrev F_ref06_Leap : FuncId := 37
abbrev F_civil_MonthDays : FuncId := 38
abbrev F_civil_months : FuncId := 39
def shapes : List (Nat × Shape) := [(8, (.tup [(.int .i64), (.int .i64), (.int .i64), (.int .i64)])), (9, (.tup [(.int .i64), (.int .i64), (.int .i64), (.int .i64)])), (10, .bool), (11, (.tup [(.agg [(.int .i64), (.int .i64), (.int .i64)]), (.int .i64)])), (12, (.tup [(.agg [(.int .i64), (.int .i64), (.int .i64)]), (.int .i64)])), (13, (.int .i64)), (14, (.int .i64)), (15, (.tup [(.int .i64), (.int .i64)])), (16, (.tup [(.agg [(.int .i64), (.int .i64), (.int .i64)]), (.int .i64)])), (17, (.tup [(.int .i64), (.int .i64)])), (18, (.tup [(.int .i64), (.int .i64)])), (19, (.int .i64)), (20, (.int .i64)), (21, (.int .i64)), (22, (.int .i64)), (23, (.int .i64)), (24, (.int .i64)), (25, (.int .i64)), (26, (.tup [(.agg [(.int .i64), (.int .i64), (.int .i64)]), (.int .i64)])), (27, (.int .i64)), (28, .bool), (29, (.int .i64)), (30, (.int .i64)), (31, (.int .i64)), (32, (.int .i64)), (33, (.int .i64)), (34, (.tup [(.int .i64), (.int .i64)])), (35, (.int .i64)), (36, .bool), (37, .bool), (38, (.int .i64)), (39, (.agg [(.int .i64), (.int .i64), (.int .i64), (.int .i64), (.int .i64), (.int .i64), (.int .i64), (.int .i64), (.int .i64), (.int .i64), (.int .i64), (.int .i64), (.int .i64)]))]
def cutsL : List (Nat × List (Nat × Nat × Nat × Option Nat)) := [(38, [(13, 1027, 0, none), (15, 2, 0, none)]), (8, [(1012, 16778050, 0, none), (2025, 50332482, 0, none)]), (31, [(120, 25, 0, none), (248, 25, 0, none), (504, 25, 0, none)]), (23, [(116, 26, 0, none)]), (9, [(508, 898, 0, none)]), (16, [(248, 52, 0, none), (504, 52, 0, none), (1016, 52, 0, none), (4088, 116, 0, none)]), (7, [(244, 25, 0, none)])]
noncomputable def C : Cfg := { P := Try.prog, isP := fun f => memN f [3, 4, 5, 6, 7, 8, 9, 10, 11, 12, 13, 14, 15, 16, 17, 18, 19, 20, 21, 22, 23, 24, 25, 26, 27, 28, 29, 30, 31, 32, 33, 34, 35, 36, 37, 38, 39], isF := fun f => memN f [3, 4, 5, 6, 7, 8, 9, 10, 11, 12, 13, 14, 15, 16, 17, 18, 19, 20, 21, 22, 23, 24, 25, 26, 27, 28, 29, 30, 31, 32, 33, 34, 35, 36, 37, 38, 39], ext := fun _ _ => none, shape := lookN .any shapes, cuts := lookN [] cutsL }
theorem okC : CfgOk C where
  ext := fun _ _ _ h => by cases h
  isF := cfg_isF (by kernel_rfl)
  mix := by kernel_rfl
end Go.Proofs.Ytleedachcphbmaa.Sim.S
