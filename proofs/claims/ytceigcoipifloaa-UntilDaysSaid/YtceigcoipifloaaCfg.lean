/- The program as the abstract run takes it. Condition: none beyond what each theorem says. -/

import Derived.Test.YtceigcoipifloaaSimCfg
import Derived.Test.YtceigcoipifloaaProg
open Go Go.Proofs.Ytceigcoipifloaa.Sim Go.Proofs
namespace Go.Proofs.Ytceigcoipifloaa.Sim.S
abbrev F_law12_UntilDates : FuncId := 3
abbrev F_law12_UntilAdds : FuncId := 4
abbrev F_law12_UntilGreedy : FuncId := 5
abbrev F_law12_UntilDays : FuncId := 6
abbrev F_until_Until : FuncId := 7
abbrev F_ref12_Until : FuncId := 8
abbrev F_until_Months : FuncId := 9
abbrev F_ref12_Months : FuncId := 10
abbrev F_law12_awake : FuncId := 11
abbrev F_ref11_Plus : FuncId := 12
abbrev F_ref06_Cmp : FuncId := 13
abbrev F_ref11_Add : FuncId := 14
abbrev F_ref06_Days : FuncId := 15
abbrev F_ref06_DateOf : FuncId := 16
abbrev F_months_Add : FuncId := 17
abbrev F_civil_Days : FuncId := 18
abbrev F_period_Balance : FuncId := 19
abbrev F_ref06_Number : FuncId := 20
abbrev F_civil_Check : FuncId := 21
abbrev F_civil_Cmp : FuncId := 22
abbrev F_ref06_Check : FuncId := 23
abbrev F_ref12_fits : FuncId := 24
abbrev F_ref10_Check : FuncId := 25
abbrev F_ref10_Months : FuncId := 26
abbrev F_ref02_Add : FuncId := 27
abbrev F_ref02_FloorDiv : FuncId := 28
abbrev F_ref02_FloorMod : FuncId := 29
abbrev F_ref06_MonthDays : FuncId := 30
abbrev F_ref06_YearDays : FuncId := 31
abbrev F_months_find : FuncId := 32
abbrev F_checked_Add : FuncId := 33
abbrev F_checked_FloorDiv : FuncId := 34
abbrev F_checked_FloorMod : FuncId := 35
abbrev F_civil_MonthDays : FuncId := 36
abbrev F_civil_number : FuncId := 37
abbrev F_period_Check : FuncId := 38
abbrev F_period_Months : FuncId := 39
abbrev F_period_whole : FuncId := 40
abbrev F_ref06_start : FuncId := 41
abbrev F_cmp_Or_int : FuncId := 42
abbrev F_cmp_Compare_int : FuncId := 43
abbrev F_ref06_May : FuncId := 44
abbrev F_ref10_in : FuncId := 45
abbrev F_ref01_Add : FuncId := 46
abbrev F_ref01_Of : FuncId := 47
abbrev F_ref01_Int : FuncId := 48
abbrev F_ref02_Floor : FuncId := 49
abbrev F_ref06_Leap : FuncId := 50
abbrev F_checked_signs : FuncId := 51
abbrev F_civil_Leap : FuncId := 52
abbrev F_civil_months : FuncId := 53
abbrev F_civil_floor : FuncId := 54
abbrev F_period_each_period_fields : FuncId := 55
abbrev F_period_apart : FuncId := 56
abbrev F_period_in : FuncId := 57
abbrev F_cmp_isNaN_int : FuncId := 58
abbrev F_ref01_sum : FuncId := 59
abbrev F_ref01_bits : FuncId := 60
abbrev F_ref01_wide : FuncId := 61
abbrev F_ref01_Below : FuncId := 62
abbrev F_ref01_Neg : FuncId := 63
abbrev F_ref01_Div : FuncId := 64
abbrev F_ref02_Amount : FuncId := 65
abbrev F_ref01_Sub : FuncId := 66
abbrev F_ref01_turned : FuncId := 67
abbrev F_months_clamp_late : FuncId := 83
abbrev F_months_reject_late : FuncId := 84
def shapes : List (Nat × Shape) := [(7, (.tup [(.agg [(.int .i64), (.int .i64), (.int .i64)]), (.int .i64)])), (8, (.tup [(.agg [(.int .i64), (.int .i64), (.int .i64)]), (.int .i64)])), (9, (.tup [(.int .i64), (.int .i64)])), (10, (.tup [(.int .i64), (.int .i64)])), (11, .bool), (12, (.tup [(.agg [(.int .i64), (.int .i64), (.int .i64)]), (.int .i64)])), (13, (.int .i64)), (14, (.tup [(.agg [(.int .i64), (.int .i64), (.int .i64)]), (.int .i64)])), (15, (.tup [(.int .i64), (.int .i64)])), (16, (.tup [(.agg [(.int .i64), (.int .i64), (.int .i64)]), (.int .i64)])), (17, (.tup [(.agg [(.int .i64), (.int .i64), (.int .i64)]), (.int .i64)])), (18, (.tup [(.int .i64), (.int .i64)])), (19, (.tup [(.agg [(.int .i64), (.int .i64), (.int .i64)]), (.int .i64)])), (20, (.int .i64)), (21, (.int .i64)), (22, (.int .i64)), (23, (.int .i64)), (24, .bool), (25, (.int .i64)), (26, (.int .i64)), (27, (.tup [(.int .i64), (.int .i64)])), (28, (.tup [(.int .i64), (.int .i64)])), (29, (.tup [(.int .i64), (.int .i64)])), (30, (.int .i64)), (31, (.int .i64)), (33, (.tup [(.int .i64), (.int .i64)])), (34, (.tup [(.int .i64), (.int .i64)])), (35, (.tup [(.int .i64), (.int .i64)])), (36, (.int .i64)), (37, (.int .i64)), (38, (.int .i64)), (39, (.int .i64)), (40, (.tup [(.agg [(.int .i64), (.int .i64), (.int .i64)]), (.int .i64)])), (41, (.int .i64)), (43, (.int .i64)), (44, .bool), (45, .bool), (46, (.tup [(.agg [(.int .u64), (.int .u64)]), .bool])), (47, (.agg [(.int .u64), (.int .u64)])), (48, (.tup [(.int .i64), (.int .i64)])), (49, (.tup [(.agg [(.int .u64), (.int .u64)]), (.int .i64)])), (50, .bool), (52, .bool), (53, (.agg [(.int .i64), (.int .i64), (.int .i64), (.int .i64), (.int .i64), (.int .i64), (.int .i64), (.int .i64), (.int .i64), (.int .i64), (.int .i64), (.int .i64), (.int .i64)])), (54, (.tup [(.int .i64), (.int .i64)])), (56, (.agg [(.int .i64), (.int .i64), (.int .i64)])), (57, (.tup [(.int .i64), (.int .i64)])), (58, .bool), (59, (.tup [.arr, .bool])), (60, .arr), (61, (.agg [(.int .u64), (.int .u64)])), (62, .bool), (63, (.agg [(.int .u64), (.int .u64)])), (64, (.tup [(.agg [(.int .u64), (.int .u64)]), (.int .u64), (.int .i64)])), (65, (.int .u64)), (66, (.tup [(.agg [(.int .u64), (.int .u64)]), .bool])), (67, .arr), (83, (.tup [(.agg [(.int .i64), (.int .i64), (.int .i64)]), (.int .i64)])), (84, (.tup [(.agg [(.int .i64), (.int .i64), (.int .i64)]), (.int .i64)]))]
def cutsL : List (Nat × List (Nat × Nat × Nat × Option Nat)) := [(36, [(13, 1027, 0, none), (15, 2, 0, none)]), (17, [(493, 192, 1, none), (1013, 192, 1, none), (4095, 72, 0, none), (16373, 192, 1, none), (65517, 192, 1, none)]), (9, [(888, 1548, 60, some 5)]), (59, [(116, 860, 0, none), (467, 860, 0, none), (3731, 1884, 0, none), (7463, 1884, 0, none), (14927, 1880, 0, none)]), (60, [(116, 30, 0, none)]), (61, [(116, 30, 0, none)]), (67, [(52, 14, 0, none)]), (64, [(1012, 1938, 1, none)]), (49, [(15, 86, 0, none)]), (14, [(1021, 1152921504606857292, 0, none)]), (10, [(4084, 780, 0, none)]), (41, [(120, 25, 0, none), (248, 25, 0, none), (504, 25, 0, none)]), (20, [(116, 26, 0, none)]), (16, [(248, 52, 0, none), (504, 52, 0, none), (1016, 52, 0, none), (4088, 116, 0, none)]), (12, [(7, 92, 0, none)]), (5, [(127, 940, 0, none), (509, 2417851639229258349412492, 4, none), (4095, 16, 15, none)])]
noncomputable def C : Cfg := { P := Try.prog, isP := fun f => memN f [3, 4, 5, 6, 7, 8, 9, 10, 11, 12, 13, 14, 15, 16, 17, 18, 19, 20, 21, 22, 23, 24, 25, 26, 27, 28, 29, 30, 31, 33, 34, 35, 36, 37, 38, 39, 40, 41, 43, 44, 45, 46, 47, 48, 49, 50, 52, 53, 54, 56, 57, 58, 59, 60, 61, 62, 63, 64, 65, 66, 67, 83, 84], isF := fun f => memN f [3, 4, 5, 6, 7, 8, 9, 10, 11, 12, 13, 14, 15, 16, 17, 18, 19, 20, 21, 22, 23, 24, 25, 26, 27, 28, 29, 30, 31, 32, 33, 34, 35, 36, 37, 38, 39, 40, 41, 42, 43, 44, 45, 46, 47, 48, 49, 50, 51, 52, 53, 54, 55, 56, 57, 58, 59, 60, 61, 62, 63, 64, 65, 66, 67, 83, 84], ext := fun _ _ => none, shape := lookN .any shapes, cuts := lookN [] cutsL }
theorem okC : CfgOk C where
  ext := fun _ _ _ h => by cases h
  isF := cfg_isF (by kernel_rfl)
  mix := by kernel_rfl
end Go.Proofs.Ytceigcoipifloaa.Sim.S
