/- The program as the abstract run takes it. Condition: none beyond what each theorem says. -/

import Derived.Test.YtacnmhgniaagiaaSimCfg
import Derived.Test.YtacnmhgniaagiaaSimExt
import Derived.Test.YtacnmhgniaagiaaProg
open Go Go.Proofs.Ytacnmhgniaagiaa.Sim Go.Proofs
namespace Go.Proofs.Ytacnmhgniaagiaa.Sim.S
abbrev F_law02_CheckedFloors : FuncId := 3
abbrev F_law02_CheckedMulDivs : FuncId := 4
abbrev F_law02_CheckedRests : FuncId := 5
abbrev F_law02_CheckedSums : FuncId := 6
abbrev F_law02_CheckedProducts : FuncId := 7
abbrev F_checked_FloorDiv : FuncId := 8
abbrev F_ref02_FloorDiv : FuncId := 9
abbrev F_checked_FloorMod : FuncId := 10
abbrev F_ref02_FloorMod : FuncId := 11
abbrev F_law02_awake : FuncId := 12
abbrev F_checked_MulDiv : FuncId := 13
abbrev F_ref02_MulDiv : FuncId := 14
abbrev F_checked_Add : FuncId := 15
abbrev F_ref02_Add : FuncId := 16
abbrev F_checked_Sub : FuncId := 17
abbrev F_ref02_Sub : FuncId := 18
abbrev F_checked_Mul : FuncId := 19
abbrev F_ref02_Mul : FuncId := 20
abbrev F_checked_Neg : FuncId := 21
abbrev F_checked_Abs : FuncId := 22
abbrev F_ref02_Abs : FuncId := 23
abbrev F_checked_signs : FuncId := 24
abbrev F_ref02_Floor : FuncId := 25
abbrev F_ref01_Of : FuncId := 26
abbrev F_ref01_Int : FuncId := 27
abbrev F_wide_Div : FuncId := 28
abbrev F_wide_Mul : FuncId := 29
abbrev F_checked_amount : FuncId := 30
abbrev F_wide_Add : FuncId := 31
abbrev F_wide_Neg : FuncId := 32
abbrev F_wide_Int : FuncId := 33
abbrev F_ref02_times : FuncId := 34
abbrev F_ref01_Add : FuncId := 35
abbrev F_ref01_Sub : FuncId := 36
abbrev F_ref01_Below : FuncId := 37
abbrev F_ref01_Neg : FuncId := 38
abbrev F_ref01_Div : FuncId := 39
abbrev F_ref02_Amount : FuncId := 40
abbrev F_math_bits_Div64 : FuncId := 41
abbrev F_math_bits_Mul64 : FuncId := 42
abbrev F_wide_Sub : FuncId := 44
abbrev F_wide_Of : FuncId := 45
abbrev F_ref01_Mul : FuncId := 46
abbrev F_ref01_sum : FuncId := 47
abbrev F_ref01_bits : FuncId := 48
abbrev F_ref01_wide : FuncId := 49
abbrev F_ref01_turned : FuncId := 50
abbrev F_math_bits_LeadingZeros64 : FuncId := 51
abbrev F_math_bits_Len64 : FuncId := 53
def shapes : List (Nat × Shape) := [(8, (.tup [(.int .i64), (.int .i64)])), (9, (.tup [(.int .i64), (.int .i64)])), (10, (.tup [(.int .i64), (.int .i64)])), (11, (.tup [(.int .i64), (.int .i64)])), (12, .bool), (13, (.tup [(.int .i64), (.int .i64), (.int .i64)])), (14, (.tup [(.int .i64), (.int .i64), (.int .i64)])), (15, (.tup [(.int .i64), (.int .i64)])), (16, (.tup [(.int .i64), (.int .i64)])), (17, (.tup [(.int .i64), (.int .i64)])), (18, (.tup [(.int .i64), (.int .i64)])), (19, (.tup [(.int .i64), (.int .i64)])), (20, (.tup [(.int .i64), (.int .i64)])), (21, (.tup [(.int .i64), (.int .i64)])), (22, (.tup [(.int .i64), (.int .i64)])), (23, (.tup [(.int .i64), (.int .i64)])), (25, (.tup [(.agg [(.int .u64), (.int .u64)]), (.int .i64)])), (26, (.agg [(.int .u64), (.int .u64)])), (27, (.tup [(.int .i64), (.int .i64)])), (28, (.tup [(.agg [(.int .u64), (.int .u64)]), (.int .u64), (.int .i64)])), (29, (.agg [(.int .u64), (.int .u64)])), (30, (.int .u64)), (31, (.tup [(.agg [(.int .u64), (.int .u64)]), .bool])), (32, (.agg [(.int .u64), (.int .u64)])), (33, (.tup [(.int .i64), (.int .i64)])), (34, (.agg [(.int .u64), (.int .u64)])), (35, (.tup [(.agg [(.int .u64), (.int .u64)]), .bool])), (36, (.tup [(.agg [(.int .u64), (.int .u64)]), .bool])), (37, .bool), (38, (.agg [(.int .u64), (.int .u64)])), (39, (.tup [(.agg [(.int .u64), (.int .u64)]), (.int .u64), (.int .i64)])), (40, (.int .u64)), (41, (.tup [(.int .u64), (.int .u64)])), (42, (.tup [(.int .u64), (.int .u64)])), (44, (.tup [(.agg [(.int .u64), (.int .u64)]), .bool])), (45, (.agg [(.int .u64), (.int .u64)])), (46, (.agg [(.int .u64), (.int .u64)])), (47, (.tup [.arr, .bool])), (48, .arr), (49, (.agg [(.int .u64), (.int .u64)])), (50, .arr), (51, (.int .i64)), (53, (.int .i64))]
def cutsL : List (Nat × List (Nat × Nat × Nat × Option Nat)) := [(47, [(116, 860, 0, none), (467, 860, 0, none), (3731, 1884, 0, none), (7463, 1884, 0, none), (14927, 1880, 0, none)]), (48, [(116, 30, 0, none)]), (49, [(116, 30, 0, none)]), (50, [(52, 14, 0, none)]), (39, [(1012, 1938, 1, none)]), (25, [(15, 86, 0, none)]), (53, [(31, 5, 0, none)]), (41, [(262136, 126724, 0, none), (4194296, 509700, 0, none)]), (13, [(63, 4612, 6, none), (125, 17179874823, 2, none), (501, 4615, 2, none), (1003, 4612, 6, none), (2005, 2361183241434822611460, 6, none), (16015, 576460752303428103, 2, none)]), (46, [(116, 243, 0, none), (244, 370, 0, none), (62612, 882, 0, none)]), (5, [(127, 995, 0, none), (255, 16, 0, none)])]
noncomputable def C : Cfg := { P := Try.prog, isP := fun f => memN f [3, 4, 5, 6, 7, 8, 9, 10, 11, 12, 13, 14, 15, 16, 17, 18, 19, 20, 21, 22, 23, 25, 26, 27, 28, 29, 30, 31, 32, 33, 34, 35, 36, 37, 38, 39, 40, 41, 42, 44, 45, 46, 47, 48, 49, 50, 51, 53], isF := fun f => memN f [3, 4, 5, 6, 7, 8, 9, 10, 11, 12, 13, 14, 15, 16, 17, 18, 19, 20, 21, 22, 23, 24, 25, 26, 27, 28, 29, 30, 31, 32, 33, 34, 35, 36, 37, 38, 39, 40, 41, 42, 44, 45, 46, 47, 48, 49, 50, 51, 53], ext := extBits 43 52, shape := lookN .any shapes, cuts := lookN [] cutsL }
theorem okC : CfgOk C where
  ext := extBits_ok Try.func43 (by kernel_rfl) (by kernel_rfl) (by kernel_rfl) (by kernel_rfl) Try.func52 (by kernel_rfl) (by kernel_rfl) (by kernel_rfl) (by kernel_rfl)
  isF := cfg_isF (by kernel_rfl)
  mix := by kernel_rfl
end Go.Proofs.Ytacnmhgniaagiaa.Sim.S
