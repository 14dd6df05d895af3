/- The program as the abstract run takes it. Condition: none beyond what each theorem says. -/

import Derived.Test.YtnebfgphcoladaaSimCfg
import Derived.Test.YtnebfgphcoladaaSimExt
import Derived.Test.YtnebfgphcoladaaProg
open Go Go.Proofs.Ytnebfgphcoladaa.Sim Go.Proofs
namespace Go.Proofs.Ytnebfgphcoladaa.Sim.S
abbrev F_law03_InstantMakes : FuncId := 3
abbrev F_law03_InstantSums : FuncId := 4
abbrev F_law03_InstantBetween : FuncId := 5
abbrev F_law03_InstantOrder : FuncId := 6
abbrev F_law03_InstantNanos : FuncId := 7
abbrev F_instant_New : FuncId := 8
abbrev F_ref03_New : FuncId := 9
abbrev F_instant_Check : FuncId := 10
abbrev F_ref03_Check : FuncId := 11
abbrev F_law03_awake : FuncId := 12
abbrev F_instant_Add : FuncId := 13
abbrev F_ref03_Add : FuncId := 14
abbrev F_instant_Sub : FuncId := 15
abbrev F_ref03_Sub : FuncId := 16
abbrev F_instant_Cmp : FuncId := 17
abbrev F_ref03_Cmp : FuncId := 18
abbrev F_law03_pair : FuncId := 19
abbrev F_instant_Nanos : FuncId := 20
abbrev F_ref03_Nanos : FuncId := 21
abbrev F_instant_OfNanos : FuncId := 22
abbrev F_ref03_OfNanos : FuncId := 23
abbrev F_ref03_instant : FuncId := 24
abbrev F_ref03_Wide : FuncId := 25
abbrev F_instant_least : FuncId := 26
abbrev F_instant_checkDur : FuncId := 27
abbrev F_ref03_First : FuncId := 28
abbrev F_ref03_CheckDur : FuncId := 29
abbrev F_ref01_Add : FuncId := 30
abbrev F_ref01_Sub : FuncId := 31
abbrev F_ref03_Parts : FuncId := 32
abbrev F_cmp_Or_int : FuncId := 33
abbrev F_cmp_Compare_int : FuncId := 34
abbrev F_ref03_order : FuncId := 35
abbrev F_wide_Add : FuncId := 36
abbrev F_wide_Mul : FuncId := 37
abbrev F_wide_Of : FuncId := 38
abbrev F_wide_Sub : FuncId := 39
abbrev F_instant_parts : FuncId := 40
abbrev F_wide_Int : FuncId := 41
abbrev F_ref01_Mul : FuncId := 42
abbrev F_ref02_Amount : FuncId := 43
abbrev F_ref01_Neg : FuncId := 44
abbrev F_ref01_Of : FuncId := 45
abbrev F_ref01_sum : FuncId := 46
abbrev F_ref01_bits : FuncId := 47
abbrev F_ref01_wide : FuncId := 48
abbrev F_ref01_turned : FuncId := 49
abbrev F_ref02_Floor : FuncId := 50
abbrev F_ref01_Int : FuncId := 51
abbrev F_cmp_isNaN_int : FuncId := 52
abbrev F_math_bits_Mul64 : FuncId := 54
abbrev F_instant_parts_1 : FuncId := 56
abbrev F_wide_Div : FuncId := 57
abbrev F_wide_Neg : FuncId := 58
abbrev F_ref01_Below : FuncId := 59
abbrev F_ref01_Div : FuncId := 60
abbrev F_math_bits_Div64 : FuncId := 61
abbrev F_math_bits_LeadingZeros64 : FuncId := 62
abbrev F_math_bits_Len64 : FuncId := 63
def shapes : List (Nat × Shape) := [(8, (.tup [(.agg [(.int .i64), (.int .i64)]), (.int .i64)])), (9, (.tup [(.agg [(.int .i64), (.int .i64)]), (.int .i64)])), (10, (.int .i64)), (11, (.int .i64)), (12, .bool), (13, (.tup [(.agg [(.int .i64), (.int .i64)]), (.int .i64)])), (14, (.tup [(.agg [(.int .i64), (.int .i64)]), (.int .i64)])), (15, (.tup [(.agg [(.int .i64), (.int .i64)]), (.int .i64)])), (16, (.tup [(.agg [(.int .i64), (.int .i64)]), (.int .i64)])), (17, (.int .i64)), (18, (.int .i64)), (19, (.agg [(.int .i64), (.int .i64)])), (20, (.tup [(.agg [(.int .u64), (.int .u64)]), (.int .i64)])), (21, (.tup [(.agg [(.int .u64), (.int .u64)]), (.int .i64)])), (22, (.tup [(.agg [(.int .i64), (.int .i64)]), (.int .i64)])), (23, (.tup [(.agg [(.int .i64), (.int .i64)]), (.int .i64)])), (24, (.tup [(.agg [(.int .i64), (.int .i64)]), (.int .i64)])), (25, (.agg [(.int .u64), (.int .u64)])), (26, (.int .i64)), (27, (.int .i64)), (29, (.int .i64)), (30, (.tup [(.agg [(.int .u64), (.int .u64)]), .bool])), (31, (.tup [(.agg [(.int .u64), (.int .u64)]), .bool])), (32, (.tup [(.int .i64), (.int .i64), .bool])), (34, (.int .i64)), (35, (.int .i64)), (36, (.tup [(.agg [(.int .u64), (.int .u64)]), .bool])), (37, (.agg [(.int .u64), (.int .u64)])), (38, (.agg [(.int .u64), (.int .u64)])), (39, (.tup [(.agg [(.int .u64), (.int .u64)]), .bool])), (41, (.tup [(.int .i64), (.int .i64)])), (42, (.agg [(.int .u64), (.int .u64)])), (43, (.int .u64)), (44, (.agg [(.int .u64), (.int .u64)])), (45, (.agg [(.int .u64), (.int .u64)])), (46, (.tup [.arr, .bool])), (47, .arr), (48, (.agg [(.int .u64), (.int .u64)])), (49, .arr), (50, (.tup [(.agg [(.int .u64), (.int .u64)]), (.int .i64)])), (51, (.tup [(.int .i64), (.int .i64)])), (52, .bool), (54, (.tup [(.int .u64), (.int .u64)])), (57, (.tup [(.agg [(.int .u64), (.int .u64)]), (.int .u64), (.int .i64)])), (58, (.agg [(.int .u64), (.int .u64)])), (59, .bool), (60, (.tup [(.agg [(.int .u64), (.int .u64)]), (.int .u64), (.int .i64)])), (61, (.tup [(.int .u64), (.int .u64)])), (62, (.int .i64)), (63, (.int .i64))]
def cutsL : List (Nat × List (Nat × Nat × Nat × Option Nat)) := [(46, [(116, 860, 0, none), (467, 860, 0, none), (3731, 1884, 0, none), (7463, 1884, 0, none), (14927, 1880, 0, none)]), (47, [(116, 30, 0, none)]), (48, [(116, 30, 0, none)]), (49, [(52, 14, 0, none)]), (60, [(1012, 1938, 1, none)]), (50, [(15, 86, 0, none)]), (42, [(116, 243, 0, none), (244, 370, 0, none), (62612, 882, 0, none)]), (14, [(7, 28, 1016, none)]), (16, [(7, 28, 1016, none)]), (63, [(31, 5, 0, none)]), (61, [(262136, 126724, 0, none), (4194296, 509700, 0, none)]), (22, [(15, 100, 61, none)])]
noncomputable def C : Cfg := { P := Try.prog, isP := fun f => memN f [3, 4, 5, 6, 7, 8, 9, 10, 11, 12, 13, 14, 15, 16, 17, 18, 19, 20, 21, 22, 23, 24, 25, 26, 27, 29, 30, 31, 32, 34, 35, 36, 37, 38, 39, 41, 42, 43, 44, 45, 46, 47, 48, 49, 50, 51, 52, 54, 57, 58, 59, 60, 61, 62, 63], isF := fun f => memN f [3, 4, 5, 6, 7, 8, 9, 10, 11, 12, 13, 14, 15, 16, 17, 18, 19, 20, 21, 22, 23, 24, 25, 26, 27, 28, 29, 30, 31, 32, 33, 34, 35, 36, 37, 38, 39, 40, 41, 42, 43, 44, 45, 46, 47, 48, 49, 50, 51, 52, 54, 56, 57, 58, 59, 60, 61, 62, 63], ext := extBits 53 55, shape := lookN .any shapes, cuts := lookN [] cutsL }
theorem okC : CfgOk C where
  ext := extBits_ok Try.func53 (by kernel_rfl) (by kernel_rfl) (by kernel_rfl) (by kernel_rfl) Try.func55 (by kernel_rfl) (by kernel_rfl) (by kernel_rfl) (by kernel_rfl)
  isF := cfg_isF (by kernel_rfl)
  mix := by kernel_rfl
end Go.Proofs.Ytnebfgphcoladaa.Sim.S
