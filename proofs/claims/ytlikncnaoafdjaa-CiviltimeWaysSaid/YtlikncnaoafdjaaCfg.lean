/- The program as the abstract run takes it. Condition: none beyond what each theorem says. -/

import Derived.Test.YtlikncnaoafdjaaSimCfg
import Derived.Test.YtlikncnaoafdjaaSimExt
import Derived.Test.YtlikncnaoafdjaaProg
open Go Go.Proofs.Ytlikncnaoafdjaa.Sim Go.Proofs
namespace Go.Proofs.Ytlikncnaoafdjaa.Sim.S
abbrev F_law09_CiviltimeBack : FuncId := 3
abbrev F_law09_CiviltimeSecs : FuncId := 4
abbrev F_law09_CiviltimeSums : FuncId := 5
abbrev F_law09_CiviltimeWays : FuncId := 6
abbrev F_civiltime_Secs : FuncId := 7
abbrev F_law09_awake : FuncId := 8
abbrev F_civiltime_Of : FuncId := 9
abbrev F_ref09_Secs : FuncId := 10
abbrev F_ref09_Of : FuncId := 11
abbrev F_civiltime_Check : FuncId := 12
abbrev F_ref09_Check : FuncId := 13
abbrev F_civiltime_Add : FuncId := 14
abbrev F_ref09_Add : FuncId := 15
abbrev F_civiltime_Sub : FuncId := 16
abbrev F_ref09_Sub : FuncId := 17
abbrev F_civiltime_Cmp : FuncId := 18
abbrev F_ref09_Cmp : FuncId := 19
abbrev F_civiltime_of : FuncId := 20
abbrev F_civiltime_day_seconds : FuncId := 21
abbrev F_civiltime_reading_civil : FuncId := 22
abbrev F_ref09_Number : FuncId := 23
abbrev F_ref06_DateOf : FuncId := 24
abbrev F_ref08_OfSecs : FuncId := 25
abbrev F_ref08_Check : FuncId := 26
abbrev F_ref06_Check : FuncId := 27
abbrev F_dur_Check : FuncId := 28
abbrev F_clock_Add : FuncId := 29
abbrev F_clock_Nanos : FuncId := 30
abbrev F_ref03_First : FuncId := 31
abbrev F_ref03_CheckDur : FuncId := 32
abbrev F_ref03_Add : FuncId := 33
abbrev F_ref09_instant : FuncId := 34
abbrev F_dur_New : FuncId := 35
abbrev F_ref03_Sub : FuncId := 36
abbrev F_cmp_Or_int : FuncId := 37
abbrev F_civil_Cmp : FuncId := 38
abbrev F_cmp_Compare_int : FuncId := 39
abbrev F_ref06_Cmp : FuncId := 40
abbrev F_ref03_Cmp : FuncId := 41
abbrev F_civil_Days : FuncId := 42
abbrev F_civiltime_day_date : FuncId := 43
abbrev F_clock_Of : FuncId := 44
abbrev F_ref06_Number : FuncId := 45
abbrev F_ref08_Secs : FuncId := 46
abbrev F_ref06_YearDays : FuncId := 47
abbrev F_ref06_MonthDays : FuncId := 48
abbrev F_ref06_May : FuncId := 49
abbrev F_clock_Check : FuncId := 50
abbrev F_ref03_Check : FuncId := 51
abbrev F_ref01_Add : FuncId := 52
abbrev F_ref03_Wide : FuncId := 53
abbrev F_ref03_instant : FuncId := 54
abbrev F_wide_Mul : FuncId := 55
abbrev F_wide_Neg : FuncId := 56
abbrev F_wide_Add : FuncId := 57
abbrev F_wide_Of : FuncId := 58
abbrev F_dur_OfNanos : FuncId := 59
abbrev F_ref01_Sub : FuncId := 60
abbrev F_ref03_Parts : FuncId := 61
abbrev F_cmp_isNaN_int : FuncId := 62
abbrev F_ref03_order : FuncId := 63
abbrev F_civil_Check : FuncId := 64
abbrev F_civil_number : FuncId := 65
abbrev F_civil_DateOf : FuncId := 66
abbrev F_ref06_start : FuncId := 67
abbrev F_ref06_Leap : FuncId := 68
abbrev F_clock_cut : FuncId := 69
abbrev F_ref01_sum : FuncId := 70
abbrev F_ref01_bits : FuncId := 71
abbrev F_ref01_wide : FuncId := 72
abbrev F_ref01_Mul : FuncId := 73
abbrev F_ref02_Amount : FuncId := 74
abbrev F_ref01_Neg : FuncId := 75
abbrev F_ref01_Of : FuncId := 76
abbrev F_math_bits_Mul64 : FuncId := 77
abbrev F_wide_Sub : FuncId := 78
abbrev F_dur_number_dur : FuncId := 80
abbrev F_ref01_turned : FuncId := 81
abbrev F_ref02_Floor : FuncId := 82
abbrev F_ref01_Int : FuncId := 83
abbrev F_civil_MonthDays : FuncId := 84
abbrev F_civil_floor : FuncId := 85
abbrev F_wide_Div : FuncId := 87
abbrev F_ref01_Below : FuncId := 88
abbrev F_ref01_Div : FuncId := 89
abbrev F_civil_Leap : FuncId := 90
abbrev F_civil_months : FuncId := 91
abbrev F_math_bits_Div64 : FuncId := 92
abbrev F_math_bits_LeadingZeros64 : FuncId := 93
abbrev F_math_bits_Len64 : FuncId := 94
def shapes : List (Nat × Shape) := [(7, (.tup [(.int .i64), (.int .i64)])), (8, .bool), (9, (.tup [(.agg [(.int .i64), (.int .i64), (.int .i64), (.int .i64), (.int .i64), (.int .i64), (.int .i64)]), (.int .i64)])), (10, (.tup [(.int .i64), (.int .i64)])), (11, (.tup [(.agg [(.int .i64), (.int .i64), (.int .i64), (.int .i64), (.int .i64), (.int .i64), (.int .i64)]), (.int .i64)])), (12, (.int .i64)), (13, (.int .i64)), (14, (.tup [(.agg [(.int .i64), (.int .i64), (.int .i64), (.int .i64), (.int .i64), (.int .i64), (.int .i64)]), (.int .i64)])), (15, (.tup [(.agg [(.int .i64), (.int .i64), (.int .i64), (.int .i64), (.int .i64), (.int .i64), (.int .i64)]), (.int .i64)])), (16, (.tup [(.agg [(.int .i64), (.int .i64)]), (.int .i64)])), (17, (.tup [(.agg [(.int .i64), (.int .i64)]), (.int .i64)])), (18, (.int .i64)), (19, (.int .i64)), (20, (.tup [(.agg [(.int .i64), (.int .i64)]), (.int .i64)])), (21, (.int .i64)), (22, (.tup [(.agg [(.int .i64), (.int .i64), (.int .i64), (.int .i64), (.int .i64), (.int .i64), (.int .i64)]), (.int .i64)])), (23, (.int .i64)), (24, (.tup [(.agg [(.int .i64), (.int .i64), (.int .i64)]), (.int .i64)])), (25, (.agg [(.int .i64), (.int .i64), (.int .i64), (.int .i64)])), (26, (.int .i64)), (27, (.int .i64)), (28, (.int .i64)), (29, (.tup [(.agg [(.int .i64), (.int .i64), (.int .i64), (.int .i64)]), (.int .i64), (.int .i64)])), (30, (.tup [(.int .i64), (.int .i64)])), (32, (.int .i64)), (33, (.tup [(.agg [(.int .i64), (.int .i64)]), (.int .i64)])), (34, (.agg [(.int .i64), (.int .i64)])), (35, (.tup [(.agg [(.int .i64), (.int .i64)]), (.int .i64)])), (36, (.tup [(.agg [(.int .i64), (.int .i64)]), (.int .i64)])), (38, (.int .i64)), (39, (.int .i64)), (40, (.int .i64)), (41, (.int .i64)), (42, (.tup [(.int .i64), (.int .i64)])), (43, (.tup [(.agg [(.int .i64), (.int .i64), (.int .i64)]), (.int .i64)])), (44, (.tup [(.agg [(.int .i64), (.int .i64), (.int .i64), (.int .i64)]), (.int .i64)])), (45, (.int .i64)), (46, (.int .i64)), (47, (.int .i64)), (48, (.int .i64)), (49, .bool), (50, (.int .i64)), (51, (.int .i64)), (52, (.tup [(.agg [(.int .u64), (.int .u64)]), .bool])), (53, (.agg [(.int .u64), (.int .u64)])), (54, (.tup [(.agg [(.int .i64), (.int .i64)]), (.int .i64)])), (55, (.agg [(.int .u64), (.int .u64)])), (56, (.agg [(.int .u64), (.int .u64)])), (57, (.tup [(.agg [(.int .u64), (.int .u64)]), .bool])), (58, (.agg [(.int .u64), (.int .u64)])), (59, (.tup [(.agg [(.int .i64), (.int .i64)]), (.int .i64)])), (60, (.tup [(.agg [(.int .u64), (.int .u64)]), .bool])), (61, (.tup [(.int .i64), (.int .i64), .bool])), (62, .bool), (63, (.int .i64)), (64, (.int .i64)), (65, (.int .i64)), (66, (.tup [(.agg [(.int .i64), (.int .i64), (.int .i64)]), (.int .i64)])), (67, (.int .i64)), (68, .bool), (69, (.agg [(.int .i64), (.int .i64), (.int .i64), (.int .i64)])), (70, (.tup [.arr, .bool])), (71, .arr), (72, (.agg [(.int .u64), (.int .u64)])), (73, (.agg [(.int .u64), (.int .u64)])), (74, (.int .u64)), (75, (.agg [(.int .u64), (.int .u64)])), (76, (.agg [(.int .u64), (.int .u64)])), (77, (.tup [(.int .u64), (.int .u64)])), (78, (.tup [(.agg [(.int .u64), (.int .u64)]), .bool])), (80, (.tup [(.agg [(.int .i64), (.int .i64)]), (.int .i64)])), (81, .arr), (82, (.tup [(.agg [(.int .u64), (.int .u64)]), (.int .i64)])), (83, (.tup [(.int .i64), (.int .i64)])), (84, (.int .i64)), (85, (.tup [(.int .i64), (.int .i64)])), (87, (.tup [(.agg [(.int .u64), (.int .u64)]), (.int .u64), (.int .i64)])), (88, .bool), (89, (.tup [(.agg [(.int .u64), (.int .u64)]), (.int .u64), (.int .i64)])), (90, .bool), (91, (.agg [(.int .i64), (.int .i64), (.int .i64), (.int .i64), (.int .i64), (.int .i64), (.int .i64), (.int .i64), (.int .i64), (.int .i64), (.int .i64), (.int .i64), (.int .i64)])), (92, (.tup [(.int .u64), (.int .u64)])), (93, (.int .i64)), (94, (.int .i64))]
def cutsL : List (Nat × List (Nat × Nat × Nat × Option Nat)) := [(84, [(13, 1027, 0, none), (15, 2, 0, none)]), (29, [(1016, 1168, 3, none), (2040, 1168, 3, none)]), (14, [(61, 2147484124, 0, none)]), (67, [(120, 25, 0, none), (248, 25, 0, none), (504, 25, 0, none)]), (45, [(116, 26, 0, none)]), (24, [(248, 52, 0, none), (504, 52, 0, none), (1016, 52, 0, none), (4088, 116, 0, none)]), (70, [(116, 860, 0, none), (467, 860, 0, none), (3731, 1884, 0, none), (7463, 1884, 0, none), (14927, 1880, 0, none)]), (71, [(116, 30, 0, none)]), (72, [(116, 30, 0, none)]), (73, [(116, 243, 0, none), (244, 370, 0, none), (62612, 882, 0, none)]), (81, [(52, 14, 0, none)]), (89, [(1012, 1938, 1, none)]), (82, [(15, 86, 0, none)]), (33, [(7, 28, 1016, none)]), (15, [(7, 28, 1016, none)]), (94, [(31, 5, 0, none)]), (92, [(262136, 126724, 0, none), (4194296, 509700, 0, none)]), (36, [(7, 28, 1016, none)]), (17, [(7, 28, 1016, none)]), (5, [(127, 64, 127, none)]), (6, [(127, 908, 4, none), (255, 16, 15, none)])]
noncomputable def C : Cfg := { P := Try.prog, isP := fun f => memN f [3, 4, 5, 6, 7, 8, 9, 10, 11, 12, 13, 14, 15, 16, 17, 18, 19, 20, 21, 22, 23, 24, 25, 26, 27, 28, 29, 30, 32, 33, 34, 35, 36, 38, 39, 40, 41, 42, 43, 44, 45, 46, 47, 48, 49, 50, 51, 52, 53, 54, 55, 56, 57, 58, 59, 60, 61, 62, 63, 64, 65, 66, 67, 68, 69, 70, 71, 72, 73, 74, 75, 76, 77, 78, 80, 81, 82, 83, 84, 85, 87, 88, 89, 90, 91, 92, 93, 94], isF := fun f => memN f [3, 4, 5, 6, 7, 8, 9, 10, 11, 12, 13, 14, 15, 16, 17, 18, 19, 20, 21, 22, 23, 24, 25, 26, 27, 28, 29, 30, 31, 32, 33, 34, 35, 36, 37, 38, 39, 40, 41, 42, 43, 44, 45, 46, 47, 48, 49, 50, 51, 52, 53, 54, 55, 56, 57, 58, 59, 60, 61, 62, 63, 64, 65, 66, 67, 68, 69, 70, 71, 72, 73, 74, 75, 76, 77, 78, 80, 81, 82, 83, 84, 85, 87, 88, 89, 90, 91, 92, 93, 94], ext := extBits 79 86, shape := lookN .any shapes, cuts := lookN [] cutsL }
theorem okC : CfgOk C where
  ext := extBits_ok Try.func79 (by kernel_rfl) (by kernel_rfl) (by kernel_rfl) (by kernel_rfl) Try.func86 (by kernel_rfl) (by kernel_rfl) (by kernel_rfl) (by kernel_rfl)
  isF := cfg_isF (by kernel_rfl)
  mix := by kernel_rfl
end Go.Proofs.Ytlikncnaoafdjaa.Sim.S
