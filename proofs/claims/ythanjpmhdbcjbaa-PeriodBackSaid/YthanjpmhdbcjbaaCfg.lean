/- The program as the abstract run takes it. Condition: none beyond what each theorem says. -/

import Derived.Test.YthanjpmhdbcjbaaSimCfg
import Derived.Test.YthanjpmhdbcjbaaSimExt
import Derived.Test.YthanjpmhdbcjbaaProg
open Go Go.Proofs.Ythanjpmhdbcjbaa.Sim Go.Proofs
namespace Go.Proofs.Ythanjpmhdbcjbaa.Sim.S
abbrev F_law10_PeriodTimes : FuncId := 3
abbrev F_law10_PeriodBalanced : FuncId := 4
abbrev F_law10_PeriodUnits : FuncId := 5
abbrev F_law10_PeriodSums : FuncId := 6
abbrev F_law10_PeriodBack : FuncId := 7
abbrev F_period_Mul : FuncId := 8
abbrev F_ref10_Mul : FuncId := 9
abbrev F_period_Balance : FuncId := 10
abbrev F_ref10_Balance : FuncId := 11
abbrev F_period_Months : FuncId := 12
abbrev F_ref10_Months : FuncId := 13
abbrev F_law10_awake : FuncId := 14
abbrev F_period_Add : FuncId := 15
abbrev F_ref10_Add : FuncId := 16
abbrev F_period_Neg : FuncId := 17
abbrev F_period_Check : FuncId := 18
abbrev F_ref10_Check : FuncId := 19
abbrev F_period_whole : FuncId := 20
abbrev F_period_each_period_fields : FuncId := 21
abbrev F_period_apart : FuncId := 22
abbrev F_period_Mul_1 : FuncId := 23
abbrev F_checked_Mul : FuncId := 24
abbrev F_ref02_Mul : FuncId := 25
abbrev F_ref10_may : FuncId := 26
abbrev F_period_Add_1 : FuncId := 27
abbrev F_period_in : FuncId := 28
abbrev F_ref10_in : FuncId := 29
abbrev F_wide_Mul : FuncId := 30
abbrev F_checked_amount : FuncId := 31
abbrev F_checked_signs : FuncId := 32
abbrev F_wide_Neg : FuncId := 33
abbrev F_wide_Int : FuncId := 34
abbrev F_ref01_Int : FuncId := 35
abbrev F_ref02_times : FuncId := 36
abbrev F_math_bits_Mul64 : FuncId := 37
abbrev F_wide_Sub : FuncId := 38
abbrev F_wide_Of : FuncId := 39
abbrev F_ref01_Of : FuncId := 40
abbrev F_ref01_Mul : FuncId := 41
abbrev F_ref02_Amount : FuncId := 42
abbrev F_ref01_Neg : FuncId := 43
abbrev F_ref01_sum : FuncId := 45
abbrev F_ref01_wide : FuncId := 46
abbrev F_ref01_Sub : FuncId := 47
abbrev F_ref01_bits : FuncId := 48
abbrev F_ref01_turned : FuncId := 49
def shapes : List (Nat × Shape) := [(8, (.tup [(.agg [(.int .i64), (.int .i64), (.int .i64)]), (.int .i64)])), (9, (.tup [(.agg [(.int .i64), (.int .i64), (.int .i64)]), (.int .i64)])), (10, (.tup [(.agg [(.int .i64), (.int .i64), (.int .i64)]), (.int .i64)])), (11, (.tup [(.agg [(.int .i64), (.int .i64), (.int .i64)]), (.int .i64)])), (12, (.int .i64)), (13, (.int .i64)), (14, .bool), (15, (.tup [(.agg [(.int .i64), (.int .i64), (.int .i64)]), (.int .i64)])), (16, (.tup [(.agg [(.int .i64), (.int .i64), (.int .i64)]), (.int .i64)])), (17, (.tup [(.agg [(.int .i64), (.int .i64), (.int .i64)]), (.int .i64)])), (18, (.int .i64)), (19, (.int .i64)), (20, (.tup [(.agg [(.int .i64), (.int .i64), (.int .i64)]), (.int .i64)])), (22, (.agg [(.int .i64), (.int .i64), (.int .i64)])), (24, (.tup [(.int .i64), (.int .i64)])), (25, (.tup [(.int .i64), (.int .i64)])), (26, (.tup [(.agg [(.int .i64), (.int .i64), (.int .i64)]), (.int .i64)])), (28, (.tup [(.int .i64), (.int .i64)])), (29, .bool), (30, (.agg [(.int .u64), (.int .u64)])), (31, (.int .u64)), (33, (.agg [(.int .u64), (.int .u64)])), (34, (.tup [(.int .i64), (.int .i64)])), (35, (.tup [(.int .i64), (.int .i64)])), (36, (.agg [(.int .u64), (.int .u64)])), (37, (.tup [(.int .u64), (.int .u64)])), (38, (.tup [(.agg [(.int .u64), (.int .u64)]), .bool])), (39, (.agg [(.int .u64), (.int .u64)])), (40, (.agg [(.int .u64), (.int .u64)])), (41, (.agg [(.int .u64), (.int .u64)])), (42, (.int .u64)), (43, (.agg [(.int .u64), (.int .u64)])), (45, (.tup [.arr, .bool])), (46, (.agg [(.int .u64), (.int .u64)])), (47, (.tup [(.agg [(.int .u64), (.int .u64)]), .bool])), (48, .arr), (49, .arr)]
def cutsL : List (Nat × List (Nat × Nat × Nat × Option Nat)) := [(8, [(15, 48, 59, none)]), (45, [(116, 860, 0, none), (467, 860, 0, none), (3731, 1884, 0, none), (7463, 1884, 0, none), (14927, 1880, 0, none)]), (46, [(116, 30, 0, none)]), (41, [(116, 243, 0, none), (244, 370, 0, none), (62612, 882, 0, none)]), (48, [(116, 30, 0, none)]), (49, [(52, 14, 0, none)]), (4, [(63, 234, 0, none), (127, 4, 7, none)])]
noncomputable def C : Cfg := { P := Try.prog, isP := fun f => memN f [3, 4, 5, 6, 7, 8, 9, 10, 11, 12, 13, 14, 15, 16, 17, 18, 19, 20, 22, 24, 25, 26, 28, 29, 30, 31, 33, 34, 35, 36, 37, 38, 39, 40, 41, 42, 43, 45, 46, 47, 48, 49], isF := fun f => memN f [3, 4, 5, 6, 7, 8, 9, 10, 11, 12, 13, 14, 15, 16, 17, 18, 19, 20, 21, 22, 23, 24, 25, 26, 27, 28, 29, 30, 31, 32, 33, 34, 35, 36, 37, 38, 39, 40, 41, 42, 43, 45, 46, 47, 48, 49], ext := extSub 44, shape := lookN .any shapes, cuts := lookN [] cutsL }
theorem okC : CfgOk C where
  ext := extSub_ok Try.func44 (by kernel_rfl) (by kernel_rfl) (by kernel_rfl) (by kernel_rfl)
  isF := cfg_isF (by kernel_rfl)
  mix := by kernel_rfl
end Go.Proofs.Ythanjpmhdbcjbaa.Sim.S
