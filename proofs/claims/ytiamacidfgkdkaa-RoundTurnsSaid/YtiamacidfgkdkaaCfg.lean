/- The program as the abstract run takes it. Condition: none beyond what each theorem says. -/

import Derived.Test.YtiamacidfgkdkaaSimCfg
import Derived.Test.YtiamacidfgkdkaaSimExt
import Derived.Test.YtiamacidfgkdkaaProg
open Go Go.Proofs.Ytiamacidfgkdkaa.Sim Go.Proofs
namespace Go.Proofs.Ytiamacidfgkdkaa.Sim.S
abbrev F_law05_RoundWides : FuncId := 3
abbrev F_law05_RoundInstants : FuncId := 4
abbrev F_law05_RoundDurs : FuncId := 5
abbrev F_law05_RoundAgain : FuncId := 6
abbrev F_law05_RoundTurns : FuncId := 7
abbrev F_round_Wide : FuncId := 8
abbrev F_ref05_Wide : FuncId := 9
abbrev F_law05_awake : FuncId := 10
abbrev F_round_Instant : FuncId := 11
abbrev F_ref05_Instant : FuncId := 12
abbrev F_round_Dur : FuncId := 13
abbrev F_ref05_Dur : FuncId := 14
abbrev F_ref01_Signed : FuncId := 15
abbrev F_ref01_Neg : FuncId := 16
abbrev F_round_find : FuncId := 17
abbrev F_round_amount : FuncId := 18
abbrev F_wide_Cmp : FuncId := 19
abbrev F_round_divide : FuncId := 20
abbrev F_wide_Sub : FuncId := 21
abbrev F_round_farther : FuncId := 22
abbrev F_wide_Add : FuncId := 23
abbrev F_wide_Neg : FuncId := 24
abbrev F_ref01_Cmp : FuncId := 25
abbrev F_ref05_out : FuncId := 26
abbrev F_ref05_Floor : FuncId := 27
abbrev F_ref05_more : FuncId := 28
abbrev F_ref01_Below : FuncId := 29
abbrev F_ref05_near : FuncId := 30
abbrev F_ref01_Of : FuncId := 31
abbrev F_round_check : FuncId := 32
abbrev F_instant_Check : FuncId := 33
abbrev F_instant_Nanos : FuncId := 34
abbrev F_dur_Nanos : FuncId := 35
abbrev F_instant_OfNanos : FuncId := 36
abbrev F_ref03_First : FuncId := 37
abbrev F_ref03_Check : FuncId := 38
abbrev F_ref05_args : FuncId := 39
abbrev F_ref03_Wide : FuncId := 40
abbrev F_ref03_OfNanos : FuncId := 41
abbrev F_dur_Check : FuncId := 42
abbrev F_dur_OfNanos : FuncId := 43
abbrev F_ref03_CheckDur : FuncId := 44
abbrev F_ref04_OfNanos : FuncId := 45
abbrev F_ref01_Sub : FuncId := 46
abbrev F_wide_Div : FuncId := 47
abbrev F_math_bits_LeadingZeros64 : FuncId := 48
abbrev F_ref05_less : FuncId := 51
abbrev F_dur_Cmp : FuncId := 52
abbrev F_wide_Mul : FuncId := 53
abbrev F_wide_Of : FuncId := 54
abbrev F_dur_of : FuncId := 55
abbrev F_dur_number_wide : FuncId := 56
abbrev F_instant_parts : FuncId := 57
abbrev F_wide_Int : FuncId := 58
abbrev F_instant_New : FuncId := 59
abbrev F_ref01_Mul : FuncId := 60
abbrev F_ref02_Amount : FuncId := 61
abbrev F_ref01_Add : FuncId := 62
abbrev F_ref03_instant : FuncId := 63
abbrev F_dur_number_dur : FuncId := 64
abbrev F_ref03_Parts : FuncId := 65
abbrev F_ref01_sum : FuncId := 66
abbrev F_ref01_bits : FuncId := 67
abbrev F_ref01_turned : FuncId := 68
abbrev F_ref01_wide : FuncId := 69
abbrev F_math_bits_Div64 : FuncId := 70
abbrev F_math_bits_Len64 : FuncId := 71
abbrev F_cmp_Or_int : FuncId := 72
abbrev F_cmp_Compare_int : FuncId := 73
abbrev F_math_bits_Mul64 : FuncId := 74
abbrev F_instant_parts_1 : FuncId := 75
abbrev F_ref02_Floor : FuncId := 76
abbrev F_ref01_Int : FuncId := 77
abbrev F_cmp_isNaN_int : FuncId := 78
abbrev F_ref01_Div : FuncId := 79
def shapes : List (Nat × Shape) := [(8, (.tup [(.agg [(.int .u64), (.int .u64)]), (.int .i64)])), (9, (.tup [(.agg [(.int .u64), (.int .u64)]), (.int .i64)])), (10, .bool), (11, (.tup [(.agg [(.int .i64), (.int .i64)]), (.int .i64)])), (12, (.tup [(.agg [(.int .i64), (.int .i64)]), (.int .i64)])), (13, (.tup [(.agg [(.int .i64), (.int .i64)]), (.int .i64)])), (14, (.tup [(.agg [(.int .i64), (.int .i64)]), (.int .i64)])), (15, (.int .i64)), (16, (.agg [(.int .u64), (.int .u64)])), (17, (.tup [(.agg [.bool, (.int .i64)]), .bool])), (18, (.tup [(.agg [(.int .u64), (.int .u64)]), .bool])), (19, (.int .i64)), (20, (.tup [(.agg [(.int .u64), (.int .u64)]), (.agg [(.int .u64), (.int .u64)])])), (21, (.tup [(.agg [(.int .u64), (.int .u64)]), .bool])), (22, .bool), (23, (.tup [(.agg [(.int .u64), (.int .u64)]), .bool])), (24, (.agg [(.int .u64), (.int .u64)])), (25, (.int .i64)), (26, .bool), (27, (.tup [(.agg [(.int .u64), (.int .u64)]), .bool])), (28, (.agg [(.int .u64), (.int .u64)])), (29, .bool), (30, (.int .i64)), (31, (.agg [(.int .u64), (.int .u64)])), (32, (.int .i64)), (33, (.int .i64)), (34, (.tup [(.agg [(.int .u64), (.int .u64)]), (.int .i64)])), (35, (.tup [(.agg [(.int .u64), (.int .u64)]), (.int .i64)])), (36, (.tup [(.agg [(.int .i64), (.int .i64)]), (.int .i64)])), (38, (.int .i64)), (39, (.int .i64)), (40, (.agg [(.int .u64), (.int .u64)])), (41, (.tup [(.agg [(.int .i64), (.int .i64)]), (.int .i64)])), (42, (.int .i64)), (43, (.tup [(.agg [(.int .i64), (.int .i64)]), (.int .i64)])), (44, (.int .i64)), (45, (.tup [(.agg [(.int .i64), (.int .i64)]), (.int .i64)])), (46, (.tup [(.agg [(.int .u64), (.int .u64)]), .bool])), (47, (.tup [(.agg [(.int .u64), (.int .u64)]), (.int .u64), (.int .i64)])), (48, (.int .i64)), (51, (.agg [(.int .u64), (.int .u64)])), (52, (.int .i64)), (53, (.agg [(.int .u64), (.int .u64)])), (54, (.agg [(.int .u64), (.int .u64)])), (55, (.agg [.bool, (.int .u64), (.int .u64)])), (56, (.agg [(.int .u64), (.int .u64)])), (58, (.tup [(.int .i64), (.int .i64)])), (59, (.tup [(.agg [(.int .i64), (.int .i64)]), (.int .i64)])), (60, (.agg [(.int .u64), (.int .u64)])), (61, (.int .u64)), (62, (.tup [(.agg [(.int .u64), (.int .u64)]), .bool])), (63, (.tup [(.agg [(.int .i64), (.int .i64)]), (.int .i64)])), (64, (.tup [(.agg [(.int .i64), (.int .i64)]), (.int .i64)])), (65, (.tup [(.int .i64), (.int .i64), .bool])), (66, (.tup [.arr, .bool])), (67, .arr), (68, .arr), (69, (.agg [(.int .u64), (.int .u64)])), (70, (.tup [(.int .u64), (.int .u64)])), (71, (.int .i64)), (73, (.int .i64)), (74, (.tup [(.int .u64), (.int .u64)])), (76, (.tup [(.agg [(.int .u64), (.int .u64)]), (.int .i64)])), (77, (.tup [(.int .i64), (.int .i64)])), (78, .bool), (79, (.tup [(.agg [(.int .u64), (.int .u64)]), (.int .u64), (.int .i64)]))]
def cutsL : List (Nat × List (Nat × Nat × Nat × Option Nat)) := [(71, [(31, 5, 0, none)]), (70, [(262136, 126724, 0, none), (4194296, 509700, 0, none)]), (20, [(504, 3636, 1572850, none)]), (8, [(61, 17592186047832, 0, none)]), (66, [(116, 860, 0, none), (467, 860, 0, none), (3731, 1884, 0, none), (7463, 1884, 0, none), (14927, 1880, 0, none)]), (67, [(116, 30, 0, none)]), (68, [(52, 14, 0, none)]), (69, [(116, 30, 0, none)]), (27, [(2036, 2008, 33, some 5), (1042740, 16344, 1, none)]), (9, [(1023, 5440, 3, none)]), (36, [(15, 100, 61, none)]), (10, [(116, 6, 2, some 1)]), (60, [(116, 243, 0, none), (244, 370, 0, none), (62612, 882, 0, none)]), (79, [(1012, 1938, 1, none)]), (76, [(15, 86, 0, none)]), (12, [(7, 92, 2040, none)]), (14, [(7, 92, 2040, none)]), (6, [(253, 147573952589676413104, 49, none)]), (7, [(244, 236, 2147483632, some 4)])]
noncomputable def C : Cfg := { P := Try.prog, isP := fun f => memN f [3, 4, 5, 6, 7, 8, 9, 10, 11, 12, 13, 14, 15, 16, 17, 18, 19, 20, 21, 22, 23, 24, 25, 26, 27, 28, 29, 30, 31, 32, 33, 34, 35, 36, 38, 39, 40, 41, 42, 43, 44, 45, 46, 47, 48, 51, 52, 53, 54, 55, 56, 58, 59, 60, 61, 62, 63, 64, 65, 66, 67, 68, 69, 70, 71, 73, 74, 76, 77, 78, 79], isF := fun f => memN f [3, 4, 5, 6, 7, 8, 9, 10, 11, 12, 13, 14, 15, 16, 17, 18, 19, 20, 21, 22, 23, 24, 25, 26, 27, 28, 29, 30, 31, 32, 33, 34, 35, 36, 37, 38, 39, 40, 41, 42, 43, 44, 45, 46, 47, 48, 51, 52, 53, 54, 55, 56, 57, 58, 59, 60, 61, 62, 63, 64, 65, 66, 67, 68, 69, 70, 71, 72, 73, 74, 75, 76, 77, 78, 79], ext := extBits 50 49, shape := lookN .any shapes, cuts := lookN [] cutsL }
theorem okC : CfgOk C where
  ext := extBits_ok Try.func50 (by kernel_rfl) (by kernel_rfl) (by kernel_rfl) (by kernel_rfl) Try.func49 (by kernel_rfl) (by kernel_rfl) (by kernel_rfl) (by kernel_rfl)
  isF := cfg_isF (by kernel_rfl)
  mix := by kernel_rfl
end Go.Proofs.Ytiamacidfgkdkaa.Sim.S
