/- The program as the abstract run takes it. Condition: none beyond what each theorem says. -/

import Derived.Test.YtbelgjebmeajcaaSimCfg
import Derived.Test.YtbelgjebmeajcaaProg
open Go Go.Proofs.Ytbelgjebmeajcaa.Sim Go.Proofs
namespace Go.Proofs.Ytbelgjebmeajcaa.Sim.S
abbrev F_law11_MonthsAdds : FuncId := 3
abbrev F_law11_MonthsLasts : FuncId := 4
abbrev F_law11_MonthsBack : FuncId := 5
abbrev F_law11_MonthsClamped : FuncId := 6
abbrev F_months_Add : FuncId := 7
abbrev F_ref11_Add : FuncId := 8
abbrev F_law11_awake : FuncId := 9
abbrev F_months_Last : FuncId := 10
abbrev F_ref06_Check : FuncId := 11
abbrev F_ref06_MonthDays : FuncId := 12
abbrev F_months_find : FuncId := 13
abbrev F_civil_Check : FuncId := 14
abbrev F_checked_Add : FuncId := 15
abbrev F_checked_FloorDiv : FuncId := 16
abbrev F_checked_FloorMod : FuncId := 17
abbrev F_civil_MonthDays : FuncId := 18
abbrev F_ref02_Add : FuncId := 19
abbrev F_ref02_FloorDiv : FuncId := 20
abbrev F_ref02_FloorMod : FuncId := 21
abbrev F_months_Plus : FuncId := 22
abbrev F_ref06_May : FuncId := 23
abbrev F_ref06_Leap : FuncId := 24
abbrev F_checked_signs : FuncId := 25
abbrev F_civil_Leap : FuncId := 26
abbrev F_civil_months : FuncId := 27
abbrev F_ref01_Add : FuncId := 28
abbrev F_ref01_Of : FuncId := 29
abbrev F_ref01_Int : FuncId := 30
abbrev F_ref02_Floor : FuncId := 31
abbrev F_period_Check : FuncId := 32
abbrev F_period_Months : FuncId := 33
abbrev F_civil_Days : FuncId := 34
abbrev F_civil_DateOf : FuncId := 35
abbrev F_ref01_sum : FuncId := 36
abbrev F_ref01_bits : FuncId := 37
abbrev F_ref01_wide : FuncId := 38
abbrev F_ref01_Below : FuncId := 39
abbrev F_ref01_Neg : FuncId := 40
abbrev F_ref01_Div : FuncId := 41
abbrev F_ref02_Amount : FuncId := 42
abbrev F_period_each_period_fields : FuncId := 43
abbrev F_period_apart : FuncId := 44
abbrev F_period_in : FuncId := 45
abbrev F_civil_number : FuncId := 46
abbrev F_civil_floor : FuncId := 47
abbrev F_ref01_Sub : FuncId := 48
abbrev F_ref01_turned : FuncId := 49
abbrev F_months_clamp_late : FuncId := 65
abbrev F_months_reject_late : FuncId := 66
def shapes : List (Nat × Shape) := [(7, (.tup [(.agg [(.int .i64), (.int .i64), (.int .i64)]), (.int .i64)])), (8, (.tup [(.agg [(.int .i64), (.int .i64), (.int .i64)]), (.int .i64)])), (9, .bool), (10, (.tup [(.agg [(.int .i64), (.int .i64), (.int .i64)]), (.int .i64)])), (11, (.int .i64)), (12, (.int .i64)), (14, (.int .i64)), (15, (.tup [(.int .i64), (.int .i64)])), (16, (.tup [(.int .i64), (.int .i64)])), (17, (.tup [(.int .i64), (.int .i64)])), (18, (.int .i64)), (19, (.tup [(.int .i64), (.int .i64)])), (20, (.tup [(.int .i64), (.int .i64)])), (21, (.tup [(.int .i64), (.int .i64)])), (22, (.tup [(.agg [(.int .i64), (.int .i64), (.int .i64)]), (.int .i64)])), (23, .bool), (24, .bool), (26, .bool), (27, (.agg [(.int .i64), (.int .i64), (.int .i64), (.int .i64), (.int .i64), (.int .i64), (.int .i64), (.int .i64), (.int .i64), (.int .i64), (.int .i64), (.int .i64), (.int .i64)])), (28, (.tup [(.agg [(.int .u64), (.int .u64)]), .bool])), (29, (.agg [(.int .u64), (.int .u64)])), (30, (.tup [(.int .i64), (.int .i64)])), (31, (.tup [(.agg [(.int .u64), (.int .u64)]), (.int .i64)])), (32, (.int .i64)), (33, (.int .i64)), (34, (.tup [(.int .i64), (.int .i64)])), (35, (.tup [(.agg [(.int .i64), (.int .i64), (.int .i64)]), (.int .i64)])), (36, (.tup [.arr, .bool])), (37, .arr), (38, (.agg [(.int .u64), (.int .u64)])), (39, .bool), (40, (.agg [(.int .u64), (.int .u64)])), (41, (.tup [(.agg [(.int .u64), (.int .u64)]), (.int .u64), (.int .i64)])), (42, (.int .u64)), (44, (.agg [(.int .i64), (.int .i64), (.int .i64)])), (45, (.tup [(.int .i64), (.int .i64)])), (46, (.int .i64)), (47, (.tup [(.int .i64), (.int .i64)])), (48, (.tup [(.agg [(.int .u64), (.int .u64)]), .bool])), (49, .arr), (65, (.tup [(.agg [(.int .i64), (.int .i64), (.int .i64)]), (.int .i64)])), (66, (.tup [(.agg [(.int .i64), (.int .i64), (.int .i64)]), (.int .i64)]))]
def cutsL : List (Nat × List (Nat × Nat × Nat × Option Nat)) := [(18, [(13, 1027, 0, none), (15, 2, 0, none)]), (7, [(493, 192, 1, none), (1013, 192, 1, none), (4095, 72, 0, none), (16373, 192, 1, none), (65517, 192, 1, none)]), (36, [(116, 860, 0, none), (467, 860, 0, none), (3731, 1884, 0, none), (7463, 1884, 0, none), (14927, 1880, 0, none)]), (37, [(116, 30, 0, none)]), (38, [(116, 30, 0, none)]), (49, [(52, 14, 0, none)]), (41, [(1012, 1938, 1, none)]), (31, [(15, 86, 0, none)]), (8, [(1021, 1152921504606857292, 0, none)]), (22, [(13, 32860, 0, none)])]
noncomputable def C : Cfg := { P := Try.prog, isP := fun f => memN f [3, 4, 5, 6, 7, 8, 9, 10, 11, 12, 14, 15, 16, 17, 18, 19, 20, 21, 22, 23, 24, 26, 27, 28, 29, 30, 31, 32, 33, 34, 35, 36, 37, 38, 39, 40, 41, 42, 44, 45, 46, 47, 48, 49, 65, 66], isF := fun f => memN f [3, 4, 5, 6, 7, 8, 9, 10, 11, 12, 13, 14, 15, 16, 17, 18, 19, 20, 21, 22, 23, 24, 25, 26, 27, 28, 29, 30, 31, 32, 33, 34, 35, 36, 37, 38, 39, 40, 41, 42, 43, 44, 45, 46, 47, 48, 49, 65, 66], ext := fun _ _ => none, shape := lookN .any shapes, cuts := lookN [] cutsL }
theorem okC : CfgOk C where
  ext := fun _ _ _ h => by cases h
  isF := cfg_isF (by kernel_rfl)
  mix := by kernel_rfl
end Go.Proofs.Ytbelgjebmeajcaa.Sim.S
