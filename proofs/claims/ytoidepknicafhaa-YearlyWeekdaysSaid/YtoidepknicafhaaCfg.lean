/- The program as the abstract run takes it. Condition: none beyond what each theorem says. -/

import Derived.Test.YtoidepknicafhaaSimCfg
import Derived.Test.YtoidepknicafhaaProg
open Go Go.Proofs.Ytoidepknicafhaa.Sim Go.Proofs
namespace Go.Proofs.Ytoidepknicafhaa.Sim.S
abbrev F_law16_YearlyDays : FuncId := 3
abbrev F_law16_YearlyWeekdays : FuncId := 4
abbrev F_yearly_Day : FuncId := 5
abbrev F_ref16_Day : FuncId := 6
abbrev F_law16_awake : FuncId := 7
abbrev F_ref06_Number : FuncId := 8
abbrev F_ref06_MonthDays : FuncId := 9
abbrev F_ref06_Weekday : FuncId := 10
abbrev F_civil_MonthDays : FuncId := 11
abbrev F_words_May : FuncId := 12
abbrev F_yearly_find : FuncId := 13
abbrev F_civil_Number : FuncId := 14
abbrev F_ref14_MayDay : FuncId := 15
abbrev F_ref06_start : FuncId := 16
abbrev F_ref06_Leap : FuncId := 17
abbrev F_civil_Leap : FuncId := 18
abbrev F_civil_months : FuncId := 19
abbrev F_yearly_find_1 : FuncId := 20
abbrev F_yearly_back : FuncId := 21
abbrev F_yearly_find_2 : FuncId := 22
abbrev F_yearly_forward : FuncId := 23
abbrev F_yearly_find_3 : FuncId := 24
abbrev F_yearly_find_4 : FuncId := 25
abbrev F_civil_number : FuncId := 26
abbrev F_ref06_YearDays : FuncId := 27
abbrev F_civil_Weekday : FuncId := 28
abbrev F_civil_floor : FuncId := 29
def shapes : List (Nat × Shape) := [(5, (.tup [(.int .i64), (.int .i64)])), (6, (.tup [(.int .i64), (.int .i64)])), (7, .bool), (8, (.int .i64)), (9, (.int .i64)), (10, (.int .i64)), (11, (.int .i64)), (12, .bool), (14, (.int .i64)), (15, .bool), (16, (.int .i64)), (17, .bool), (18, .bool), (19, (.agg [(.int .i64), (.int .i64), (.int .i64), (.int .i64), (.int .i64), (.int .i64), (.int .i64), (.int .i64), (.int .i64), (.int .i64), (.int .i64), (.int .i64), (.int .i64)])), (20, (.int .i64)), (21, (.int .i64)), (22, (.int .i64)), (23, (.int .i64)), (24, (.int .i64)), (25, (.int .i64)), (26, (.int .i64)), (27, (.int .i64)), (28, (.int .i64)), (29, (.tup [(.int .i64), (.int .i64)]))]
def cutsL : List (Nat × List (Nat × Nat × Nat × Option Nat)) := [(11, [(13, 1027, 0, none), (15, 2, 0, none)]), (5, [(63, 192, 7, none)]), (16, [(120, 25, 0, none), (248, 25, 0, none), (504, 25, 0, none)]), (8, [(116, 26, 0, none)]), (6, [(2040, 1544, 0, none)])]
noncomputable def C : Cfg := { P := Try.prog, isP := fun f => memN f [3, 4, 5, 6, 7, 8, 9, 10, 11, 12, 14, 15, 16, 17, 18, 19, 20, 21, 22, 23, 24, 25, 26, 27, 28, 29], isF := fun f => memN f [3, 4, 5, 6, 7, 8, 9, 10, 11, 12, 13, 14, 15, 16, 17, 18, 19, 20, 21, 22, 23, 24, 25, 26, 27, 28, 29], ext := fun _ _ => none, shape := lookN .any shapes, cuts := lookN [] cutsL }
theorem okC : CfgOk C where
  ext := fun _ _ _ h => by cases h
  isF := cfg_isF (by kernel_rfl)
  mix := by kernel_rfl
end Go.Proofs.Ytoidepknicafhaa.Sim.S
