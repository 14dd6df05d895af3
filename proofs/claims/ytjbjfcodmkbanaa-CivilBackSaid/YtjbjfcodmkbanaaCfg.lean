/- The program as the abstract run takes it. Condition: none beyond what each theorem says. -/

import Derived.Test.YtjbjfcodmkbanaaSimCfg
import Derived.Test.YtjbjfcodmkbanaaProg
open Go Go.Proofs.Ytjbjfcodmkbanaa.Sim Go.Proofs
namespace Go.Proofs.Ytjbjfcodmkbanaa.Sim.S
abbrev F_law06_CivilMonths : FuncId := 3
abbrev F_law06_CivilDates : FuncId := 4
abbrev F_law06_CivilDays : FuncId := 5
abbrev F_law06_CivilOrder : FuncId := 6
abbrev F_law06_CivilBack : FuncId := 7
abbrev F_civil_Leap : FuncId := 8
abbrev F_ref06_Leap : FuncId := 9
abbrev F_civil_MonthDays : FuncId := 10
abbrev F_ref06_MonthDays : FuncId := 11
abbrev F_law06_awake : FuncId := 12
abbrev F_civil_DateOf : FuncId := 13
abbrev F_ref06_DateOf : FuncId := 14
abbrev F_civil_OfOrdinal : FuncId := 15
abbrev F_ref06_OfOrdinal : FuncId := 16
abbrev F_civil_Weekday : FuncId := 17
abbrev F_ref06_Weekday : FuncId := 18
abbrev F_civil_Days : FuncId := 19
abbrev F_ref06_Days : FuncId := 20
abbrev F_civil_Ordinal : FuncId := 21
abbrev F_ref06_Ordinal : FuncId := 22
abbrev F_civil_Check : FuncId := 23
abbrev F_ref06_Check : FuncId := 24
abbrev F_civil_Cmp : FuncId := 25
abbrev F_ref06_Cmp : FuncId := 26
abbrev F_civil_months : FuncId := 27
abbrev F_civil_floor : FuncId := 28
abbrev F_ref06_YearDays : FuncId := 29
abbrev F_civil_number : FuncId := 30
abbrev F_ref06_start : FuncId := 31
abbrev F_ref06_Number : FuncId := 32
abbrev F_ref06_May : FuncId := 33
abbrev F_cmp_Or_int : FuncId := 34
abbrev F_cmp_Compare_int : FuncId := 35
abbrev F_cmp_isNaN_int : FuncId := 36
def shapes : List (Nat × Shape) := [(8, .bool), (9, .bool), (10, (.int .i64)), (11, (.int .i64)), (12, .bool), (13, (.tup [(.agg [(.int .i64), (.int .i64), (.int .i64)]), (.int .i64)])), (14, (.tup [(.agg [(.int .i64), (.int .i64), (.int .i64)]), (.int .i64)])), (15, (.tup [(.agg [(.int .i64), (.int .i64), (.int .i64)]), (.int .i64)])), (16, (.tup [(.agg [(.int .i64), (.int .i64), (.int .i64)]), (.int .i64)])), (17, (.int .i64)), (18, (.int .i64)), (19, (.tup [(.int .i64), (.int .i64)])), (20, (.tup [(.int .i64), (.int .i64)])), (21, (.tup [(.int .i64), (.int .i64)])), (22, (.tup [(.int .i64), (.int .i64)])), (23, (.int .i64)), (24, (.int .i64)), (25, (.int .i64)), (26, (.int .i64)), (27, (.agg [(.int .i64), (.int .i64), (.int .i64), (.int .i64), (.int .i64), (.int .i64), (.int .i64), (.int .i64), (.int .i64), (.int .i64), (.int .i64), (.int .i64), (.int .i64)])), (28, (.tup [(.int .i64), (.int .i64)])), (29, (.int .i64)), (30, (.int .i64)), (31, (.int .i64)), (32, (.int .i64)), (33, .bool), (35, (.int .i64)), (36, .bool)]
def cutsL : List (Nat × List (Nat × Nat × Nat × Option Nat)) := [(10, [(13, 1027, 0, none), (15, 2, 0, none)]), (14, [(248, 52, 0, none), (504, 52, 0, none), (1016, 52, 0, none), (4088, 116, 0, none)]), (31, [(120, 25, 0, none), (248, 25, 0, none), (504, 25, 0, none)]), (32, [(116, 26, 0, none)]), (7, [(509, 9223372036854775818, 6, none), (4095, 26634, 6, none), (8191, 4, 15, none)])]
noncomputable def C : Cfg := { P := Try.prog, isP := fun f => memN f [3, 4, 5, 6, 7, 8, 9, 10, 11, 12, 13, 14, 15, 16, 17, 18, 19, 20, 21, 22, 23, 24, 25, 26, 27, 28, 29, 30, 31, 32, 33, 35, 36], isF := fun f => memN f [3, 4, 5, 6, 7, 8, 9, 10, 11, 12, 13, 14, 15, 16, 17, 18, 19, 20, 21, 22, 23, 24, 25, 26, 27, 28, 29, 30, 31, 32, 33, 34, 35, 36], ext := fun _ _ => none, shape := lookN .any shapes, cuts := lookN [] cutsL }
theorem okC : CfgOk C where
  ext := fun _ _ _ h => by cases h
  isF := cfg_isF (by kernel_rfl)
  mix := by kernel_rfl
end Go.Proofs.Ytjbjfcodmkbanaa.Sim.S
