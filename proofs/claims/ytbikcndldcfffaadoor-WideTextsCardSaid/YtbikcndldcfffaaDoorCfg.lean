/- The program as the abstract run takes it. Condition: none beyond what each theorem says. -/

import Derived.Test.YtbikcndldcfffaaDoorSimCfg
import Derived.Test.YtbikcndldcfffaaDoorSimExt
import Derived.Test.YtbikcndldcfffaaDoorProg
import Derived.Test.YtbikcndldcfffaaDoorSimTrim
import Derived.Test.YtbikcndldcfffaaDoorShelf
open Go Go.Proofs.YtbikcndldcfffaaDoor.Sim Go.Proofs
namespace Go.Proofs.YtbikcndldcfffaaDoor.Sim.S
abbrev F_law01_WideMuls : FuncId := 3
abbrev F_law01_WideTexts : FuncId := 4
abbrev F_law01_WideBack : FuncId := 5
abbrev F_law01_WideSums : FuncId := 6
abbrev F_law01_WideInts : FuncId := 7
abbrev F_wide_Div : FuncId := 8
abbrev F_ref01_Div : FuncId := 9
abbrev F_wide_Mul : FuncId := 10
abbrev F_ref01_Mul : FuncId := 11
abbrev F_law01_awake : FuncId := 12
abbrev F_wide_Text : FuncId := 13
abbrev F_wide_Parse : FuncId := 14
abbrev F_ref01_Parse : FuncId := 15
abbrev F_ref01_Text : FuncId := 16
abbrev F_wide_Add : FuncId := 17
abbrev F_wide_Sub : FuncId := 18
abbrev F_ref01_Add : FuncId := 19
abbrev F_ref01_Sub : FuncId := 20
abbrev F_wide_Neg : FuncId := 21
abbrev F_ref01_Neg : FuncId := 22
abbrev F_wide_Cmp : FuncId := 23
abbrev F_ref01_Cmp : FuncId := 24
abbrev F_wide_Signed : FuncId := 25
abbrev F_ref01_Signed : FuncId := 26
abbrev F_wide_Int : FuncId := 27
abbrev F_wide_Of : FuncId := 28
abbrev F_ref01_Int : FuncId := 29
abbrev F_ref01_Of : FuncId := 30
abbrev F_math_bits_Div64 : FuncId := 31
abbrev F_ref01_bits : FuncId := 32
abbrev F_ref01_wide : FuncId := 33
abbrev F_math_bits_Mul64 : FuncId := 34
abbrev F_ref01_sum : FuncId := 35
abbrev F_strings_CutPrefix : FuncId := 36
abbrev F_strings_Trim : FuncId := 37
abbrev F_ref01_Below : FuncId := 38
abbrev F_ref01_digits : FuncId := 39
abbrev F_math_bits_Add64 : FuncId := 40
abbrev F_math_bits_Sub64 : FuncId := 41
abbrev F_ref01_turned : FuncId := 42
abbrev F_math_bits_LeadingZeros64 : FuncId := 43
abbrev F_internal_stringslite_CutPrefix : FuncId := 44
abbrev F_strings_trimLeftByte : FuncId := 45
abbrev F_strings_trimRightByte : FuncId := 46
abbrev F_strings_makeASCIISet : FuncId := 47
abbrev F_strings_trimLeftASCII : FuncId := 48
abbrev F_strings_trimRightASCII : FuncId := 49
abbrev F_strings_trimLeftUnicode : FuncId := 50
abbrev F_strings_trimRightUnicode : FuncId := 51
abbrev F_math_bits_Len64 : FuncId := 52
abbrev F_internal_stringslite_HasPrefix : FuncId := 53
abbrev F_strings_asciiSet_contains : FuncId := 54
abbrev F_unicode_utf8_DecodeRuneInString : FuncId := 55
abbrev F_strings_ContainsRune : FuncId := 56
abbrev F_unicode_utf8_DecodeLastRuneInString : FuncId := 57
abbrev F_unicode_utf8_decodeRuneInStringSlow : FuncId := 58
abbrev F_strings_IndexRune : FuncId := 59
abbrev F_unicode_utf8_RuneStart : FuncId := 60
abbrev F_strings_IndexByte : FuncId := 61
abbrev F_unicode_utf8_ValidRune : FuncId := 62
abbrev F_internal_bytealg_Cutover : FuncId := 63
abbrev F_internal_bytealg_IndexString : FuncId := 64
abbrev F_internal_stringslite_IndexByte : FuncId := 65
abbrev F_internal_bytealg_IndexByteString : FuncId := 66
def shapes : List (Nat × Shape) := [(8, (.tup [(.agg [(.int .u64), (.int .u64)]), (.int .u64), (.int .i64)])), (9, (.tup [(.agg [(.int .u64), (.int .u64)]), (.int .u64), (.int .i64)])), (10, (.agg [(.int .u64), (.int .u64)])), (11, (.agg [(.int .u64), (.int .u64)])), (12, .bool), (13, .str), (14, (.tup [(.agg [(.int .u64), (.int .u64)]), (.int .i64)])), (15, (.tup [(.agg [(.int .u64), (.int .u64)]), (.int .i64)])), (16, .str), (17, (.tup [(.agg [(.int .u64), (.int .u64)]), .bool])), (18, (.tup [(.agg [(.int .u64), (.int .u64)]), .bool])), (19, (.tup [(.agg [(.int .u64), (.int .u64)]), .bool])), (20, (.tup [(.agg [(.int .u64), (.int .u64)]), .bool])), (21, (.agg [(.int .u64), (.int .u64)])), (22, (.agg [(.int .u64), (.int .u64)])), (23, (.int .i64)), (24, (.int .i64)), (25, (.int .i64)), (26, (.int .i64)), (27, (.tup [(.int .i64), (.int .i64)])), (28, (.agg [(.int .u64), (.int .u64)])), (29, (.tup [(.int .i64), (.int .i64)])), (30, (.agg [(.int .u64), (.int .u64)])), (31, (.tup [(.int .u64), (.int .u64)])), (32, .arr), (33, (.agg [(.int .u64), (.int .u64)])), (34, (.tup [(.int .u64), (.int .u64)])), (35, (.tup [.arr, .bool])), (36, (.tup [.str, .bool])), (37, .str), (38, .bool), (39, .str), (42, .arr), (43, (.int .i64)), (44, (.tup [.str, .bool])), (52, (.int .i64)), (53, .bool)]
def cutsL : List (Nat × List (Nat × Nat × Nat × Option Nat)) := [(32, [(116, 30, 0, none)]), (33, [(116, 30, 0, none)]), (35, [(116, 860, 0, none), (467, 860, 0, none), (3731, 1884, 0, none), (7463, 1884, 0, none), (14927, 1880, 0, none)]), (42, [(52, 14, 0, none)]), (6, [(127, 16, 63, none)]), (52, [(31, 5, 0, none)]), (31, [(262136, 126724, 0, none), (4194296, 509700, 0, none)]), (9, [(1012, 1938, 1, none)]), (11, [(116, 243, 0, none), (244, 370, 0, none), (62612, 882, 0, none)]), (5, [(2047, 64, 511, none)]), (13, [(252, 58, 0, none)]), (14, [(4084, 422212465066228, 8184, some 3)]), (15, [(2036, 116, 0, none), (32756, 948, 524284, some 2)]), (39, [(28, 10, 6, some 1)])]
noncomputable def C : Cfg := { P := Tryd.prog, isP := fun f => memN f [3, 4, 5, 6, 7, 8, 9, 10, 11, 12, 13, 14, 15, 16, 17, 18, 19, 20, 21, 22, 23, 24, 25, 26, 27, 28, 29, 30, 31, 32, 33, 34, 35, 36, 37, 38, 39, 42, 43, 44, 45, 46, 47, 50, 51, 52, 53, 55, 56, 57, 58, 59, 60, 61, 62, 63, 65], isF := fun f => memN f [3, 4, 5, 6, 7, 8, 9, 10, 11, 12, 13, 14, 15, 16, 17, 18, 19, 20, 21, 22, 23, 24, 25, 26, 27, 28, 29, 30, 31, 32, 33, 34, 35, 36, 37, 38, 39, 42, 43, 44, 45, 46, 47, 48, 49, 50, 51, 52, 53, 54, 55, 56, 57, 58, 59, 60, 61, 62, 63, 65], ext := extBits 40 41, known := fun f a => cond (Nat.beq f 37) (trimK a) (none), shape := lookN .any shapes, cuts := lookN [] cutsL }
theorem okC : CfgOk C where
  ext := extBits_ok Tryd.func40 (by kernel_rfl) (by kernel_rfl) (by kernel_rfl) (by kernel_rfl) Tryd.func41 (by kernel_rfl) (by kernel_rfl) (by kernel_rfl) (by kernel_rfl)
  isF := cfg_isF (by kernel_rfl)
  mix := by kernel_rfl
  known := by
    intro f a v h
    replace h : cond (Nat.beq f 37) (trimK a) (none) = some v := h
    rcases known_of h with ⟨rfl, h⟩ | h
    · exact trim_ok Tryd.lays160 (by kernel_rfl) a v h
    cases h
end Go.Proofs.YtbikcndldcfffaaDoor.Sim.S
