/- The program as the abstract run takes it. Condition: none beyond what each theorem says. -/

import Derived.Test.YtomcohbkmlempaaSimCfg
import Derived.Test.YtomcohbkmlempaaSimExt
import Derived.Test.YtomcohbkmlempaaProg
open Go Go.Proofs.Ytomcohbkmlempaa.Sim Go.Proofs
namespace Go.Proofs.Ytomcohbkmlempaa.Sim.S
abbrev F_law04_DurMakes : FuncId := 3
abbrev F_law04_DurTimes : FuncId := 4
abbrev F_law04_DurBack : FuncId := 5
abbrev F_law04_DurNanos : FuncId := 6
abbrev F_law04_DurSums : FuncId := 7
abbrev F_dur_New : FuncId := 8
abbrev F_ref04_New : FuncId := 9
abbrev F_dur_Check : FuncId := 10
abbrev F_ref03_CheckDur : FuncId := 11
abbrev F_law04_awake : FuncId := 12
abbrev F_dur_Mul : FuncId := 13
abbrev F_ref04_Mul : FuncId := 14
abbrev F_dur_Div : FuncId := 15
abbrev F_ref04_Div : FuncId := 16
abbrev F_dur_Add : FuncId := 17
abbrev F_dur_Sub : FuncId := 18
abbrev F_dur_Neg : FuncId := 19
abbrev F_dur_Nanos : FuncId := 20
abbrev F_ref04_Nanos : FuncId := 21
abbrev F_dur_OfNanos : FuncId := 22
abbrev F_ref04_OfNanos : FuncId := 23
abbrev F_ref04_Add : FuncId := 24
abbrev F_ref04_Sub : FuncId := 25
abbrev F_ref04_Neg : FuncId := 26
abbrev F_dur_Cmp : FuncId := 27
abbrev F_ref03_Cmp : FuncId := 28
abbrev F_wide_Mul : FuncId := 29
abbrev F_wide_Neg : FuncId := 30
abbrev F_wide_Add : FuncId := 31
abbrev F_wide_Of : FuncId := 32
abbrev F_ref03_Wide : FuncId := 33
abbrev F_dur_of : FuncId := 34
abbrev F_dur_number_times : FuncId := 35
abbrev F_dur_reckon : FuncId := 36
abbrev F_ref04_wide : FuncId := 37
abbrev F_ref01_Below : FuncId := 38
abbrev F_ref01_Neg : FuncId := 39
abbrev F_ref01_Mul : FuncId := 40
abbrev F_ref02_Amount : FuncId := 41
abbrev F_ref01_Add : FuncId := 42
abbrev F_dur_number_by : FuncId := 43
abbrev F_ref02_Floor : FuncId := 44
abbrev F_dur_both : FuncId := 45
abbrev F_dur_number_wide : FuncId := 46
abbrev F_dur_number_dur : FuncId := 47
abbrev F_ref03_Parts : FuncId := 48
abbrev F_ref03_First : FuncId := 49
abbrev F_ref01_Sub : FuncId := 50
abbrev F_cmp_Or_int : FuncId := 51
abbrev F_cmp_Compare_int : FuncId := 52
abbrev F_ref03_order : FuncId := 53
abbrev F_math_bits_Mul64 : FuncId := 54
abbrev F_wide_Sub : FuncId := 55
abbrev F_ref01_Of : FuncId := 57
abbrev F_ref01_sum : FuncId := 58
abbrev F_ref01_wide : FuncId := 59
abbrev F_ref01_bits : FuncId := 60
abbrev F_wide_Div : FuncId := 61
abbrev F_ref01_Div : FuncId := 62
abbrev F_ref01_Int : FuncId := 63
abbrev F_ref01_turned : FuncId := 64
abbrev F_cmp_isNaN_int : FuncId := 65
abbrev F_math_bits_Div64 : FuncId := 67
abbrev F_math_bits_LeadingZeros64 : FuncId := 68
abbrev F_math_bits_Len64 : FuncId := 69
def shapes : List (Nat × Shape) := [(8, (.tup [(.agg [(.int .i64), (.int .i64)]), (.int .i64)])), (9, (.tup [(.agg [(.int .i64), (.int .i64)]), (.int .i64)])), (10, (.int .i64)), (11, (.int .i64)), (12, .bool), (13, (.tup [(.agg [(.int .i64), (.int .i64)]), (.int .i64)])), (14, (.tup [(.agg [(.int .i64), (.int .i64)]), (.int .i64)])), (15, (.tup [(.agg [(.int .i64), (.int .i64)]), (.int .i64)])), (16, (.tup [(.agg [(.int .i64), (.int .i64)]), (.int .i64)])), (17, (.tup [(.agg [(.int .i64), (.int .i64)]), (.int .i64)])), (18, (.tup [(.agg [(.int .i64), (.int .i64)]), (.int .i64)])), (19, (.tup [(.agg [(.int .i64), (.int .i64)]), (.int .i64)])), (20, (.tup [(.agg [(.int .u64), (.int .u64)]), (.int .i64)])), (21, (.tup [(.agg [(.int .u64), (.int .u64)]), (.int .i64)])), (22, (.tup [(.agg [(.int .i64), (.int .i64)]), (.int .i64)])), (23, (.tup [(.agg [(.int .i64), (.int .i64)]), (.int .i64)])), (24, (.tup [(.agg [(.int .i64), (.int .i64)]), (.int .i64)])), (25, (.tup [(.agg [(.int .i64), (.int .i64)]), (.int .i64)])), (26, (.tup [(.agg [(.int .i64), (.int .i64)]), (.int .i64)])), (27, (.int .i64)), (28, (.int .i64)), (29, (.agg [(.int .u64), (.int .u64)])), (30, (.agg [(.int .u64), (.int .u64)])), (31, (.tup [(.agg [(.int .u64), (.int .u64)]), .bool])), (32, (.agg [(.int .u64), (.int .u64)])), (33, (.agg [(.int .u64), (.int .u64)])), (34, (.agg [.bool, (.int .u64), (.int .u64)])), (35, (.tup [(.agg [.bool, (.int .u64), (.int .u64)]), .bool])), (37, (.agg [(.int .u64), (.int .u64)])), (38, .bool), (39, (.agg [(.int .u64), (.int .u64)])), (40, (.agg [(.int .u64), (.int .u64)])), (41, (.int .u64)), (42, (.tup [(.agg [(.int .u64), (.int .u64)]), .bool])), (43, (.tup [(.agg [.bool, (.int .u64), (.int .u64)]), .bool])), (44, (.tup [(.agg [(.int .u64), (.int .u64)]), (.int .i64)])), (45, (.int .i64)), (46, (.agg [(.int .u64), (.int .u64)])), (47, (.tup [(.agg [(.int .i64), (.int .i64)]), (.int .i64)])), (48, (.tup [(.int .i64), (.int .i64), .bool])), (50, (.tup [(.agg [(.int .u64), (.int .u64)]), .bool])), (52, (.int .i64)), (53, (.int .i64)), (54, (.tup [(.int .u64), (.int .u64)])), (55, (.tup [(.agg [(.int .u64), (.int .u64)]), .bool])), (57, (.agg [(.int .u64), (.int .u64)])), (58, (.tup [.arr, .bool])), (59, (.agg [(.int .u64), (.int .u64)])), (60, .arr), (61, (.tup [(.agg [(.int .u64), (.int .u64)]), (.int .u64), (.int .i64)])), (62, (.tup [(.agg [(.int .u64), (.int .u64)]), (.int .u64), (.int .i64)])), (63, (.tup [(.int .i64), (.int .i64)])), (64, .arr), (65, .bool), (67, (.tup [(.int .u64), (.int .u64)])), (68, (.int .i64)), (69, (.int .i64))]
def cutsL : List (Nat × List (Nat × Nat × Nat × Option Nat)) := [(69, [(31, 5, 0, none)]), (67, [(262136, 126724, 0, none), (4194296, 509700, 0, none)]), (58, [(116, 860, 0, none), (467, 860, 0, none), (3731, 1884, 0, none), (7463, 1884, 0, none), (14927, 1880, 0, none)]), (59, [(116, 30, 0, none)]), (60, [(116, 30, 0, none)]), (64, [(52, 14, 0, none)]), (62, [(1012, 1938, 1, none)]), (44, [(15, 86, 0, none)]), (40, [(116, 243, 0, none), (244, 370, 0, none), (62612, 882, 0, none)]), (14, [(63, 402, 1, none), (2045, 144115188075858192, 131069, none)]), (5, [(15, 8, 62, some 4), (31, 0, 63, some 5), (987, 9671406556917033397649408, 63, some 6)]), (24, [(7, 28, 1016, none)]), (25, [(7, 28, 1016, none)])]
noncomputable def C : Cfg := { P := Try.prog, isP := fun f => memN f [3, 4, 5, 6, 7, 8, 9, 10, 11, 12, 13, 14, 15, 16, 17, 18, 19, 20, 21, 22, 23, 24, 25, 26, 27, 28, 29, 30, 31, 32, 33, 34, 35, 37, 38, 39, 40, 41, 42, 43, 44, 45, 46, 47, 48, 50, 52, 53, 54, 55, 57, 58, 59, 60, 61, 62, 63, 64, 65, 67, 68, 69], isF := fun f => memN f [3, 4, 5, 6, 7, 8, 9, 10, 11, 12, 13, 14, 15, 16, 17, 18, 19, 20, 21, 22, 23, 24, 25, 26, 27, 28, 29, 30, 31, 32, 33, 34, 35, 36, 37, 38, 39, 40, 41, 42, 43, 44, 45, 46, 47, 48, 49, 50, 51, 52, 53, 54, 55, 57, 58, 59, 60, 61, 62, 63, 64, 65, 67, 68, 69], ext := extBits 56 66, shape := lookN .any shapes, cuts := lookN [] cutsL }
theorem okC : CfgOk C where
  ext := extBits_ok Try.func56 (by kernel_rfl) (by kernel_rfl) (by kernel_rfl) (by kernel_rfl) Try.func66 (by kernel_rfl) (by kernel_rfl) (by kernel_rfl) (by kernel_rfl)
  isF := cfg_isF (by kernel_rfl)
  mix := by kernel_rfl
end Go.Proofs.Ytomcohbkmlempaa.Sim.S
