/- What each function of the program answers, as a plain function, printed by a program of ours. Condition: none beyond what each theorem says. -/

import Derived.Test.YtbikcndldcfffaaDoorCfg
set_option maxRecDepth 100000
set_option linter.unusedVariables false
open Go Go.Proofs.YtbikcndldcfffaaDoor.Sim Go.Proofs
namespace Go.Proofs.YtbikcndldcfffaaDoor.Sim.S
-- math_bits_Len64
def S_math_bits_Len64_31 (x0 : Int) (x1 : Int) : St := ⟨[.int .u64 x0, .junk, .int .i64 x1, .junk, .junk, .junk, .junk, .junk, .junk, .junk, .junk, .junk, .junk, .junk, .junk, .junk, .junk, .junk, .junk, .junk, .junk, .junk, .junk, .junk, .junk], []⟩
def T_math_bits_Len64_31 (cp : FuncId → List AV → Option AV) (x0 : Int) (x1 : Int) : Option AV :=
 (cond (decide (0 ≤ (IntKind.u8.wrap x0)))
 (match (ByteArray.mk #[0, 1, 2, 2, 3, 3, 3, 3, 4, 4, 4, 4, 4, 4, 4, 4, 5, 5, 5, 5, 5, 5, 5, 5, 5, 5, 5, 5, 5, 5, 5, 5, 6, 6, 6, 6, 6, 6, 6, 6, 6, 6, 6, 6, 6, 6, 6, 6, 6, 6, 6, 6, 6, 6, 6, 6, 6, 6, 6, 6, 6, 6, 6, 6, 7, 7, 7, 7, 7, 7, 7, 7, 7, 7, 7, 7, 7, 7, 7, 7, 7, 7, 7, 7, 7, 7, 7, 7, 7, 7, 7, 7, 7, 7, 7, 7, 7, 7, 7, 7, 7, 7, 7, 7, 7, 7, 7, 7, 7, 7, 7, 7, 7, 7, 7, 7, 7, 7, 7, 7, 7, 7, 7, 7, 7, 7, 7, 7, 8, 8, 8, 8, 8, 8, 8, 8, 8, 8, 8, 8, 8, 8, 8, 8, 8, 8, 8, 8, 8, 8, 8, 8, 8, 8, 8, 8, 8, 8, 8, 8, 8, 8, 8, 8, 8, 8, 8, 8, 8, 8, 8, 8, 8, 8, 8, 8, 8, 8, 8, 8, 8, 8, 8, 8, 8, 8, 8, 8, 8, 8, 8, 8, 8, 8, 8, 8, 8, 8, 8, 8, 8, 8, 8, 8, 8, 8, 8, 8, 8, 8, 8, 8, 8, 8, 8, 8, 8, 8, 8, 8, 8, 8, 8, 8, 8, 8, 8, 8, 8, 8, 8, 8, 8, 8, 8, 8, 8, 8, 8, 8, 8, 8, 8, 8, 8, 8, 8, 8, 8, 8, 8, 8, 8, 8, 8, 8])[(Int.toNat (IntKind.u8.wrap x0))]? with
 | some c1 => (bnd (IntKind.i64.wrap (x1 + (IntKind.i64.wrap ((c1.toNat : Nat) : Int)))) fun y2 =>
 (some (.int .i64 y2)))
 | none => none)
 none)
theorem K_math_bits_Len64_31 (j : Jump) (n : Nat) (x0 : Int) (x1 : Int) : enter (topEnv C (CP C n) n F_math_bits_Len64) (some j) (bodyOf C.P F_math_bits_Len64) (endOf C.P F_math_bits_Len64) [true, true, true, true] [] (S_math_bits_Len64_31 x0 x1) = T_math_bits_Len64_31 (CP C n) x0 x1 := by kernel_rfl
def J_math_bits_Len64_31 (cp : FuncId → List AV → Option AV) (n : Nat) (x0 : Int) (x1 : Int) : Option AV := T_math_bits_Len64_31 cp x0 x1
theorem JE_math_bits_Len64_31 (n : Nat) (x0 : Int) (x1 : Int) : jT (topEnv C (CP C n) n F_math_bits_Len64) (bodyOf C.P F_math_bits_Len64) (endOf C.P F_math_bits_Len64) [true, true, true, true] [] (S_math_bits_Len64_31 x0 x1) = J_math_bits_Len64_31 (CP C n) n x0 x1 :=
  (jT_eq _ _ _ _ _ _).trans ((K_math_bits_Len64_31 _ n x0 x1).trans (rfl))
def T_math_bits_Len64_1 (cp : FuncId → List AV → Option AV) (a0 : Int) (j31 : Int → Int → Option AV) : Option AV :=
 (cond (decide (a0 ≥ 4294967296))
 (cond (decide ((Int.fdiv a0 4294967296) ≥ 65536))
 (cond (decide ((Int.fdiv (Int.fdiv a0 4294967296) 65536) ≥ 256))
 (j31 (Int.fdiv (Int.fdiv (Int.fdiv a0 4294967296) 65536) 256) 56)
 (j31 (Int.fdiv (Int.fdiv a0 4294967296) 65536) 48))
 (cond (decide ((Int.fdiv a0 4294967296) ≥ 256))
 (j31 (Int.fdiv (Int.fdiv a0 4294967296) 256) 40)
 (j31 (Int.fdiv a0 4294967296) 32)))
 (cond (decide (a0 ≥ 65536))
 (cond (decide ((Int.fdiv a0 65536) ≥ 256))
 (j31 (Int.fdiv (Int.fdiv a0 65536) 256) 24)
 (j31 (Int.fdiv a0 65536) 16))
 (cond (decide (a0 ≥ 256))
 (j31 (Int.fdiv a0 256) 8)
 (j31 a0 0))))
theorem K_math_bits_Len64_1 (j : Jump) (n : Nat) (a0 : Int) : ex (topEnv C (CP C n) n F_math_bits_Len64) (some j) (bodyOf C.P F_math_bits_Len64) 1 [] [] (endOf C.P F_math_bits_Len64) (startOf C.P F_math_bits_Len64 [.int .u64 a0]) = T_math_bits_Len64_1 (CP C n) a0 (fun x0 x1 => j [true, true, true, true] [] (S_math_bits_Len64_31 x0 x1)) := by kernel_rfl
def R_math_bits_Len64 (cp : FuncId → List AV → Option AV) (n : Nat) (a0 : Int) : Option AV := T_math_bits_Len64_1 cp a0 (J_math_bits_Len64_31 cp n)
theorem eq_math_bits_Len64 (n : Nat) (a0 : Int) : CP C (n + 1) F_math_bits_Len64 [.int .u64 a0] = R_math_bits_Len64 (CP C n) n a0 :=
  (CP_pure C n F_math_bits_Len64 _ (by kernel_rfl) (by kernel_rfl)).trans ((K_math_bits_Len64_1 _ n a0).trans (congrArg (T_math_bits_Len64_1 (CP C n) a0) (funext fun x0 => (funext fun x1 => (JE_math_bits_Len64_31 n) x0 x1))))
-- math_bits_LeadingZeros64
def R_math_bits_LeadingZeros64 (cp : FuncId → List AV → Option AV) (_n : Nat) (a0 : Int) : Option AV :=
 ((cp F_math_bits_Len64 [.int .u64 a0]).bind fun r1 =>
 (AV.intK .i64 r1 fun i2 =>
 (some (.int .i64 (IntKind.i64.wrap (64 - i2))))))
theorem eq_math_bits_LeadingZeros64 (n : Nat) (a0 : Int) : CP C (n + 1) F_math_bits_LeadingZeros64 [.int .u64 a0] = R_math_bits_LeadingZeros64 (CP C n) n a0 := by kernel_rfl
-- math_bits_Div64
def S_math_bits_Div64_262136 (x0 : Int) (x1 : Int) (x2 : Int) (x3 : Int) (x4 : Int) (x5 : Int) (x6 : Int) (x7 : Int) (x8 : Int) : St := ⟨[.junk, .junk, .int .u64 x0, .junk, .junk, .junk, .junk, .junk, .int .u64 x1, .int .u64 x2, .int .u64 x3, .int .u64 x4, .junk, .int .u64 x5, .int .u64 x6, .int .u64 x7, .int .u64 x8, .junk, .junk, .junk, .junk, .junk, .junk, .junk, .junk, .junk, .junk, .junk, .junk, .junk, .junk, .junk, .junk, .junk, .junk, .junk, .junk, .junk, .junk, .junk, .junk, .junk, .junk, .junk, .junk, .junk, .junk, .junk, .junk, .junk, .junk, .junk, .junk, .junk, .junk, .junk, .junk, .junk, .junk, .junk, .junk, .junk, .junk, .junk, .junk, .junk, .junk, .junk, .junk, .junk, .junk, .junk, .junk, .junk, .junk, .junk, .junk, .junk, .junk, .junk, .junk, .junk, .junk, .junk, .junk, .junk, .junk, .junk, .junk, .junk, .junk, .junk, .junk, .junk, .junk, .junk, .junk, .junk, .junk, .junk, .junk, .junk, .junk, .junk, .junk, .junk, .junk, .junk, .junk, .junk, .junk, .junk, .junk, .junk, .junk, .junk, .junk, .junk, .junk, .junk, .junk, .junk, .junk, .junk, .junk, .junk, .junk, .junk, .junk, .junk, .junk, .junk, .junk, .junk, .junk], []⟩
def S_math_bits_Div64_4194296 (x0 : Int) (x1 : Int) (x2 : Int) (x3 : Int) (x4 : Int) (x5 : Int) (x6 : Int) (x7 : Int) (x8 : Int) : St := ⟨[.junk, .junk, .int .u64 x0, .junk, .junk, .junk, .junk, .junk, .int .u64 x1, .int .u64 x2, .int .u64 x3, .junk, .junk, .junk, .int .u64 x4, .int .u64 x5, .int .u64 x6, .int .u64 x7, .int .u64 x8, .junk, .junk, .junk, .junk, .junk, .junk, .junk, .junk, .junk, .junk, .junk, .junk, .junk, .junk, .junk, .junk, .junk, .junk, .junk, .junk, .junk, .junk, .junk, .junk, .junk, .junk, .junk, .junk, .junk, .junk, .junk, .junk, .junk, .junk, .junk, .junk, .junk, .junk, .junk, .junk, .junk, .junk, .junk, .junk, .junk, .junk, .junk, .junk, .junk, .junk, .junk, .junk, .junk, .junk, .junk, .junk, .junk, .junk, .junk, .junk, .junk, .junk, .junk, .junk, .junk, .junk, .junk, .junk, .junk, .junk, .junk, .junk, .junk, .junk, .junk, .junk, .junk, .junk, .junk, .junk, .junk, .junk, .junk, .junk, .junk, .junk, .junk, .junk, .junk, .junk, .junk, .junk, .junk, .junk, .junk, .junk, .junk, .junk, .junk, .junk, .junk, .junk, .junk, .junk, .junk, .junk, .junk, .junk, .junk, .junk, .junk, .junk, .junk, .junk, .junk, .junk], []⟩
def T_math_bits_Div64_4194296 (cp : FuncId → List AV → Option AV) (x0 : Int) (x1 : Int) (x2 : Int) (x3 : Int) (x4 : Int) (x5 : Int) (x6 : Int) (x7 : Int) (x8 : Int) (r4194296 : Int → Int → Int → Int → Int → Int → Int → Int → Int → Option AV) : Option AV :=
 (cond (decide (x8 ≥ 4294967296))
 (cond (decide ((IntKind.u64.wrap (x6 + x2)) ≥ 4294967296))
 (bnd (IntKind.u64.wrap ((IntKind.u64.wrap (x5 * 4294967296)) + (IntKind.u64.wrap (x8 - 1)))) fun y1 =>
 (bnd (IntKind.u64.wrap ((IntKind.u64.wrap (x7 * 4294967296)) + x4)) fun y2 =>
 (bnd (IntKind.u64.wrap (y2 - (IntKind.u64.wrap ((IntKind.u64.wrap (x8 - 1)) * x0)))) fun y3 =>
 (cond (decide (x1 < 0))
 none
 (some (.tup [.int .u64 y1, .int .u64 (Int.fdiv y3 (2 ^ (min (Int.toNat x1) 64)))]))))))
 (r4194296 x0 x1 x2 x3 x4 x5 (IntKind.u64.wrap (x6 + x2)) x7 (IntKind.u64.wrap (x8 - 1))))
 (bnd (IntKind.u64.wrap ((IntKind.u64.wrap (4294967296 * x6)) + x4)) fun y4 =>
 (cond (decide ((IntKind.u64.wrap (x8 * x3)) > y4))
 (cond (decide ((IntKind.u64.wrap (x6 + x2)) ≥ 4294967296))
 (bnd (IntKind.u64.wrap ((IntKind.u64.wrap (x5 * 4294967296)) + (IntKind.u64.wrap (x8 - 1)))) fun y5 =>
 (bnd (IntKind.u64.wrap ((IntKind.u64.wrap (x7 * 4294967296)) + x4)) fun y6 =>
 (bnd (IntKind.u64.wrap (y6 - (IntKind.u64.wrap ((IntKind.u64.wrap (x8 - 1)) * x0)))) fun y7 =>
 (cond (decide (x1 < 0))
 none
 (some (.tup [.int .u64 y5, .int .u64 (Int.fdiv y7 (2 ^ (min (Int.toNat x1) 64)))]))))))
 (r4194296 x0 x1 x2 x3 x4 x5 (IntKind.u64.wrap (x6 + x2)) x7 (IntKind.u64.wrap (x8 - 1))))
 (bnd (IntKind.u64.wrap ((IntKind.u64.wrap (x5 * 4294967296)) + x8)) fun y8 =>
 (bnd (IntKind.u64.wrap ((IntKind.u64.wrap (x7 * 4294967296)) + x4)) fun y9 =>
 (cond (decide (x1 < 0))
 none
 (bnd (Int.fdiv (IntKind.u64.wrap (y9 - (IntKind.u64.wrap (x8 * x0)))) (2 ^ (min (Int.toNat x1) 64))) fun y10 =>
 (some (.tup [.int .u64 y8, .int .u64 y10])))))))))
theorem K_math_bits_Div64_4194296 (j : Jump) (n : Nat) (m4194296 : Nat) (x0 : Int) (x1 : Int) (x2 : Int) (x3 : Int) (x4 : Int) (x5 : Int) (x6 : Int) (x7 : Int) (x8 : Int) : enter (topEnv C (CP C n) n F_math_bits_Div64) (some j) (bodyOf C.P F_math_bits_Div64) (endOf C.P F_math_bits_Div64) [false, false, false, true, true, true, true, true, true, true, true, true, true, true, true, true, true, true, true, true, true] [(m4194296 + 1)] (S_math_bits_Div64_4194296 x0 x1 x2 x3 x4 x5 x6 x7 x8) = T_math_bits_Div64_4194296 (CP C n) x0 x1 x2 x3 x4 x5 x6 x7 x8 (fun x0 x1 x2 x3 x4 x5 x6 x7 x8 => j [false, false, false, true, true, true, true, true, true, true, true, true, true, true, true, true, true, true, true, true, true] [m4194296] (S_math_bits_Div64_4194296 x0 x1 x2 x3 x4 x5 x6 x7 x8)) := by kernel_rfl
def J_math_bits_Div64_4194296 (cp : FuncId → List AV → Option AV) (n : Nat) : Nat → Int → Int → Int → Int → Int → Int → Int → Int → Int → Option AV
  | 0 => (fun x0 x1 x2 x3 x4 x5 x6 x7 x8 => none)
  | m + 1 => (fun x0 x1 x2 x3 x4 x5 x6 x7 x8 => T_math_bits_Div64_4194296 cp x0 x1 x2 x3 x4 x5 x6 x7 x8 (J_math_bits_Div64_4194296 cp n m))
theorem Js_math_bits_Div64_4194296 (cp : FuncId → List AV → Option AV) (n : Nat) (m : Nat) (x0 : Int) (x1 : Int) (x2 : Int) (x3 : Int) (x4 : Int) (x5 : Int) (x6 : Int) (x7 : Int) (x8 : Int) : J_math_bits_Div64_4194296 cp n (m + 1) x0 x1 x2 x3 x4 x5 x6 x7 x8 = T_math_bits_Div64_4194296 cp x0 x1 x2 x3 x4 x5 x6 x7 x8 (J_math_bits_Div64_4194296 cp n m) := of_eq_true (eq_self _)
theorem JE_math_bits_Div64_4194296 (n : Nat) : ∀ (m : Nat) (x0 : Int) (x1 : Int) (x2 : Int) (x3 : Int) (x4 : Int) (x5 : Int) (x6 : Int) (x7 : Int) (x8 : Int), jT (topEnv C (CP C n) n F_math_bits_Div64) (bodyOf C.P F_math_bits_Div64) (endOf C.P F_math_bits_Div64) [false, false, false, true, true, true, true, true, true, true, true, true, true, true, true, true, true, true, true, true, true] [m] (S_math_bits_Div64_4194296 x0 x1 x2 x3 x4 x5 x6 x7 x8) = J_math_bits_Div64_4194296 (CP C n) n m x0 x1 x2 x3 x4 x5 x6 x7 x8
  | 0, x0, x1, x2, x3, x4, x5, x6, x7, x8 => (jT_eq _ _ _ _ _ _).trans (by kernel_rfl)
  | m + 1, x0, x1, x2, x3, x4, x5, x6, x7, x8 => (jT_eq _ _ _ _ _ _).trans ((K_math_bits_Div64_4194296 _ n m x0 x1 x2 x3 x4 x5 x6 x7 x8).trans (congrArg (T_math_bits_Div64_4194296 (CP C n) x0 x1 x2 x3 x4 x5 x6 x7 x8) (funext fun x0 => (funext fun x1 => (funext fun x2 => (funext fun x3 => (funext fun x4 => (funext fun x5 => (funext fun x6 => (funext fun x7 => (funext fun x8 => (JE_math_bits_Div64_4194296 n m) x0 x1 x2 x3 x4 x5 x6 x7 x8)))))))))))
def T_math_bits_Div64_262136 (cp : FuncId → List AV → Option AV) (x0 : Int) (x1 : Int) (x2 : Int) (x3 : Int) (x4 : Int) (x5 : Int) (x6 : Int) (x7 : Int) (x8 : Int) (j4194296 : Int → Int → Int → Int → Int → Int → Int → Int → Int → Option AV) (r262136 : Int → Int → Int → Int → Int → Int → Int → Int → Int → Option AV) : Option AV :=
 (cond (decide (x7 ≥ 4294967296))
 (cond (decide ((IntKind.u64.wrap (x8 + x2)) ≥ 4294967296))
 (bnd (IntKind.u64.wrap ((IntKind.u64.wrap (x4 * 4294967296)) + x5)) fun y1 =>
 (bnd (IntKind.u64.wrap (y1 - (IntKind.u64.wrap ((IntKind.u64.wrap (x7 - 1)) * x0)))) fun y2 =>
 (cond (decide (x2 = 0))
 none
 (bnd (IntKind.u64.wrap ((IntKind.u64.wrap (Int.tdiv y2 x2)) * x2)) fun y3 =>
 (j4194296 x0 x1 x2 x3 x6 (IntKind.u64.wrap (x7 - 1)) (IntKind.u64.wrap (y2 - y3)) y2 (IntKind.u64.wrap (Int.tdiv y2 x2)))))))
 (r262136 x0 x1 x2 x3 x4 x5 x6 (IntKind.u64.wrap (x7 - 1)) (IntKind.u64.wrap (x8 + x2))))
 (bnd (IntKind.u64.wrap ((IntKind.u64.wrap (4294967296 * x8)) + x5)) fun y4 =>
 (cond (decide ((IntKind.u64.wrap (x7 * x3)) > y4))
 (cond (decide ((IntKind.u64.wrap (x8 + x2)) ≥ 4294967296))
 (bnd (IntKind.u64.wrap ((IntKind.u64.wrap (x4 * 4294967296)) + x5)) fun y5 =>
 (bnd (IntKind.u64.wrap (y5 - (IntKind.u64.wrap ((IntKind.u64.wrap (x7 - 1)) * x0)))) fun y6 =>
 (cond (decide (x2 = 0))
 none
 (bnd (IntKind.u64.wrap ((IntKind.u64.wrap (Int.tdiv y6 x2)) * x2)) fun y7 =>
 (j4194296 x0 x1 x2 x3 x6 (IntKind.u64.wrap (x7 - 1)) (IntKind.u64.wrap (y6 - y7)) y6 (IntKind.u64.wrap (Int.tdiv y6 x2)))))))
 (r262136 x0 x1 x2 x3 x4 x5 x6 (IntKind.u64.wrap (x7 - 1)) (IntKind.u64.wrap (x8 + x2))))
 (bnd (IntKind.u64.wrap ((IntKind.u64.wrap (x4 * 4294967296)) + x5)) fun y8 =>
 (cond (decide (x2 = 0))
 none
 (bnd (IntKind.u64.wrap (Int.tdiv (IntKind.u64.wrap (y8 - (IntKind.u64.wrap (x7 * x0)))) x2)) fun y9 =>
 (bnd (IntKind.u64.wrap ((IntKind.u64.wrap (y8 - (IntKind.u64.wrap (x7 * x0)))) - (IntKind.u64.wrap (y9 * x2)))) fun y10 =>
 (j4194296 x0 x1 x2 x3 x6 x7 y10 (IntKind.u64.wrap (y8 - (IntKind.u64.wrap (x7 * x0)))) y9))))))))
theorem K_math_bits_Div64_262136 (j : Jump) (n : Nat) (m262136 : Nat) (x0 : Int) (x1 : Int) (x2 : Int) (x3 : Int) (x4 : Int) (x5 : Int) (x6 : Int) (x7 : Int) (x8 : Int) : enter (topEnv C (CP C n) n F_math_bits_Div64) (some j) (bodyOf C.P F_math_bits_Div64) (endOf C.P F_math_bits_Div64) [false, false, false, true, true, true, true, true, true, true, true, true, true, true, true, true, true] [(m262136 + 1)] (S_math_bits_Div64_262136 x0 x1 x2 x3 x4 x5 x6 x7 x8) = T_math_bits_Div64_262136 (CP C n) x0 x1 x2 x3 x4 x5 x6 x7 x8 (fun x0 x1 x2 x3 x4 x5 x6 x7 x8 => j [false, false, false, true, true, true, true, true, true, true, true, true, true, true, true, true, true, true, true, true, true] [(n + 300)] (S_math_bits_Div64_4194296 x0 x1 x2 x3 x4 x5 x6 x7 x8)) (fun x0 x1 x2 x3 x4 x5 x6 x7 x8 => j [false, false, false, true, true, true, true, true, true, true, true, true, true, true, true, true, true] [m262136] (S_math_bits_Div64_262136 x0 x1 x2 x3 x4 x5 x6 x7 x8)) := by kernel_rfl
def J_math_bits_Div64_262136 (cp : FuncId → List AV → Option AV) (n : Nat) : Nat → Int → Int → Int → Int → Int → Int → Int → Int → Int → Option AV
  | 0 => (fun x0 x1 x2 x3 x4 x5 x6 x7 x8 => none)
  | m + 1 => (fun x0 x1 x2 x3 x4 x5 x6 x7 x8 => T_math_bits_Div64_262136 cp x0 x1 x2 x3 x4 x5 x6 x7 x8 (J_math_bits_Div64_4194296 cp n (n + 300)) (J_math_bits_Div64_262136 cp n m))
theorem Js_math_bits_Div64_262136 (cp : FuncId → List AV → Option AV) (n : Nat) (m : Nat) (x0 : Int) (x1 : Int) (x2 : Int) (x3 : Int) (x4 : Int) (x5 : Int) (x6 : Int) (x7 : Int) (x8 : Int) : J_math_bits_Div64_262136 cp n (m + 1) x0 x1 x2 x3 x4 x5 x6 x7 x8 = T_math_bits_Div64_262136 cp x0 x1 x2 x3 x4 x5 x6 x7 x8 (J_math_bits_Div64_4194296 cp n (n + 300)) (J_math_bits_Div64_262136 cp n m) := of_eq_true (eq_self _)
theorem JE_math_bits_Div64_262136 (n : Nat) : ∀ (m : Nat) (x0 : Int) (x1 : Int) (x2 : Int) (x3 : Int) (x4 : Int) (x5 : Int) (x6 : Int) (x7 : Int) (x8 : Int), jT (topEnv C (CP C n) n F_math_bits_Div64) (bodyOf C.P F_math_bits_Div64) (endOf C.P F_math_bits_Div64) [false, false, false, true, true, true, true, true, true, true, true, true, true, true, true, true, true] [m] (S_math_bits_Div64_262136 x0 x1 x2 x3 x4 x5 x6 x7 x8) = J_math_bits_Div64_262136 (CP C n) n m x0 x1 x2 x3 x4 x5 x6 x7 x8
  | 0, x0, x1, x2, x3, x4, x5, x6, x7, x8 => (jT_eq _ _ _ _ _ _).trans (by kernel_rfl)
  | m + 1, x0, x1, x2, x3, x4, x5, x6, x7, x8 => (jT_eq _ _ _ _ _ _).trans ((K_math_bits_Div64_262136 _ n m x0 x1 x2 x3 x4 x5 x6 x7 x8).trans (congr (congrArg (T_math_bits_Div64_262136 (CP C n) x0 x1 x2 x3 x4 x5 x6 x7 x8) (funext fun x0 => (funext fun x1 => (funext fun x2 => (funext fun x3 => (funext fun x4 => (funext fun x5 => (funext fun x6 => (funext fun x7 => (funext fun x8 => (JE_math_bits_Div64_4194296 n (n + 300)) x0 x1 x2 x3 x4 x5 x6 x7 x8)))))))))) (funext fun x0 => (funext fun x1 => (funext fun x2 => (funext fun x3 => (funext fun x4 => (funext fun x5 => (funext fun x6 => (funext fun x7 => (funext fun x8 => (JE_math_bits_Div64_262136 n m) x0 x1 x2 x3 x4 x5 x6 x7 x8)))))))))))
def T_math_bits_Div64_1 (cp : FuncId → List AV → Option AV) (a0 : Int) (a1 : Int) (a2 : Int) (j262136 : Int → Int → Int → Int → Int → Int → Int → Int → Int → Option AV) : Option AV :=
 (cond (a2 == 0)
 none
 (cond (decide (a2 ≤ a0))
 none
 (cond (a0 == 0)
 (cond (decide (a2 = 0))
 none
 (cond (decide (a2 = 0))
 none
 (some (.tup [.int .u64 (IntKind.u64.wrap (Int.tdiv a1 a2)), .int .u64 (Int.tmod a1 a2)]))))
 ((cp F_math_bits_LeadingZeros64 [.int .u64 a2]).bind fun r1 =>
 (AV.intK .i64 r1 fun i2 =>
 (cond (decide ((IntKind.u64.wrap i2) < 0))
 none
 (bnd (IntKind.u64.wrap (a2 * (2 ^ (min (Int.toNat (IntKind.u64.wrap i2)) 64)))) fun y3 =>
 (bnd (IntKind.u64.wrap ((BitVec.ofInt 64 y3 &&& BitVec.ofInt 64 4294967295).toNat : Int)) fun y4 =>
 (cond (decide ((IntKind.u64.wrap i2) < 0))
 none
 (bnd (IntKind.u64.wrap (a0 * (2 ^ (min (Int.toNat (IntKind.u64.wrap i2)) 64)))) fun y5 =>
 (cond (decide ((IntKind.u64.wrap (64 - (IntKind.u64.wrap i2))) < 0))
 none
 (bnd (Int.fdiv a1 (2 ^ (min (Int.toNat (IntKind.u64.wrap (64 - (IntKind.u64.wrap i2)))) 64))) fun y6 =>
 (bnd (IntKind.u64.wrap ((BitVec.ofInt 64 y5 ||| BitVec.ofInt 64 y6).toNat : Int)) fun y7 =>
 (cond (decide ((IntKind.u64.wrap i2) < 0))
 none
 (bnd (IntKind.u64.wrap (a1 * (2 ^ (min (Int.toNat (IntKind.u64.wrap i2)) 64)))) fun y8 =>
 (bnd (IntKind.u64.wrap ((BitVec.ofInt 64 y8 &&& BitVec.ofInt 64 4294967295).toNat : Int)) fun y9 =>
 (cond (decide ((Int.fdiv y3 4294967296) = 0))
 none
 (bnd (IntKind.u64.wrap ((IntKind.u64.wrap (Int.tdiv y7 (Int.fdiv y3 4294967296))) * (Int.fdiv y3 4294967296))) fun y10 =>
 (j262136 y3 (IntKind.u64.wrap i2) (Int.fdiv y3 4294967296) y4 y7 (Int.fdiv y8 4294967296) y9 (IntKind.u64.wrap (Int.tdiv y7 (Int.fdiv y3 4294967296))) (IntKind.u64.wrap (y7 - y10)))))))))))))))))))))
theorem K_math_bits_Div64_1 (j : Jump) (n : Nat) (a0 : Int) (a1 : Int) (a2 : Int) : ex (topEnv C (CP C n) n F_math_bits_Div64) (some j) (bodyOf C.P F_math_bits_Div64) 1 [] [] (endOf C.P F_math_bits_Div64) (startOf C.P F_math_bits_Div64 [.int .u64 a0, .int .u64 a1, .int .u64 a2]) = T_math_bits_Div64_1 (CP C n) a0 a1 a2 (fun x0 x1 x2 x3 x4 x5 x6 x7 x8 => j [false, false, false, true, true, true, true, true, true, true, true, true, true, true, true, true, true] [(n + 300)] (S_math_bits_Div64_262136 x0 x1 x2 x3 x4 x5 x6 x7 x8)) := by kernel_rfl
def R_math_bits_Div64 (cp : FuncId → List AV → Option AV) (n : Nat) (a0 : Int) (a1 : Int) (a2 : Int) : Option AV := T_math_bits_Div64_1 cp a0 a1 a2 (J_math_bits_Div64_262136 cp n (n + 300))
theorem eq_math_bits_Div64 (n : Nat) (a0 : Int) (a1 : Int) (a2 : Int) : CP C (n + 1) F_math_bits_Div64 [.int .u64 a0, .int .u64 a1, .int .u64 a2] = R_math_bits_Div64 (CP C n) n a0 a1 a2 :=
  (CP_pure C n F_math_bits_Div64 _ (by kernel_rfl) (by kernel_rfl)).trans ((K_math_bits_Div64_1 _ n a0 a1 a2).trans (congrArg (T_math_bits_Div64_1 (CP C n) a0 a1 a2) (funext fun x0 => (funext fun x1 => (funext fun x2 => (funext fun x3 => (funext fun x4 => (funext fun x5 => (funext fun x6 => (funext fun x7 => (funext fun x8 => (JE_math_bits_Div64_262136 n (n + 300)) x0 x1 x2 x3 x4 x5 x6 x7 x8)))))))))))
-- wide_Div
def R_wide_Div (cp : FuncId → List AV → Option AV) (_n : Nat) (a0_0 : Int) (a0_1 : Int) (a1 : Int) : Option AV :=
 (cond (a1 == 0)
 (some (.tup [.agg [.int .u64 0, .int .u64 0], .int .u64 0, .int .i64 5]))
 (cond (decide (a1 = 0))
 none
 ((cp F_math_bits_Div64 [.int .u64 (Int.tmod a0_0 a1), .int .u64 a0_1, .int .u64 a1]).bind fun r1 =>
 (AV.tupK r1 fun l2 =>
 (consK l2 fun v3 l4 =>
 (AV.intK .u64 v3 fun i5 =>
 (consK l4 fun v6 l7 =>
 (AV.intK .u64 v6 fun i8 =>
 (nilK l7
 (cond (decide (a1 = 0))
 none
 (some (.tup [.agg [.int .u64 (IntKind.u64.wrap (Int.tdiv a0_0 a1)), .int .u64 i5], .int .u64 i8, .int .i64 0]))))))))))))
theorem eq_wide_Div (n : Nat) (a0_0 : Int) (a0_1 : Int) (a1 : Int) : CP C (n + 1) F_wide_Div [.agg [.int .u64 a0_0, .int .u64 a0_1], .int .u64 a1] = R_wide_Div (CP C n) n a0_0 a0_1 a1 := by kernel_rfl
-- ref01_bits
def S_ref01_bits_116 (x0 : Int) (x1 : Int) (x2 : Int) (l3 : List AV) : St := ⟨[.junk, .ptr (some (0, 0)), .ptr (some (1, 0)), .ptr (some (2, 0)), .int .i64 x0, .junk, .junk, .junk, .junk, .junk, .junk, .junk, .junk, .junk, .junk, .junk, .junk, .junk, .junk, .junk, .junk, .junk, .junk, .junk, .junk, .junk, .junk, .junk, .junk], [.cells 24 [.int .u64 x1, .int .u64 x2], .cells 54 [.bool false, .bool false, .bool false, .bool false, .bool false, .bool false, .bool false, .bool false, .bool false, .bool false, .bool false, .bool false, .bool false, .bool false, .bool false, .bool false, .bool false, .bool false, .bool false, .bool false, .bool false, .bool false, .bool false, .bool false, .bool false, .bool false, .bool false, .bool false, .bool false, .bool false, .bool false, .bool false, .bool false, .bool false, .bool false, .bool false, .bool false, .bool false, .bool false, .bool false, .bool false, .bool false, .bool false, .bool false, .bool false, .bool false, .bool false, .bool false, .bool false, .bool false, .bool false, .bool false, .bool false, .bool false, .bool false, .bool false, .bool false, .bool false, .bool false, .bool false, .bool false, .bool false, .bool false, .bool false, .bool false, .bool false, .bool false, .bool false, .bool false, .bool false, .bool false, .bool false, .bool false, .bool false, .bool false, .bool false, .bool false, .bool false, .bool false, .bool false, .bool false, .bool false, .bool false, .bool false, .bool false, .bool false, .bool false, .bool false, .bool false, .bool false, .bool false, .bool false, .bool false, .bool false, .bool false, .bool false, .bool false, .bool false, .bool false, .bool false, .bool false, .bool false, .bool false, .bool false, .bool false, .bool false, .bool false, .bool false, .bool false, .bool false, .bool false, .bool false, .bool false, .bool false, .bool false, .bool false, .bool false, .bool false, .bool false, .bool false, .bool false, .bool false, .bool false, .bool false, .bool false, .bool false, .bool false, .bool false], .cells 54 l3]⟩
def T_ref01_bits_116 (cp : FuncId → List AV → Option AV) (x0 : Int) (x1 : Int) (x2 : Int) (l3 : List AV) (r116 : Int → Int → Int → List AV → Option AV) : Option AV :=
 (cond (decide (x0 < 64))
 (cond (decide ((IntKind.u64.wrap x0) < 0))
 none
 (bnd (Int.fdiv x2 (2 ^ (min (Int.toNat (IntKind.u64.wrap x0)) 64))) fun y1 =>
 (bnd (IntKind.u64.wrap ((BitVec.ofInt 64 y1 &&& BitVec.ofInt 64 1).toNat : Int)) fun y2 =>
 (cond ((decide (0 ≤ x0)) && (decide (x0 < 128)))
 (cond (fits (0 + ((Int.toNat x0) * 1)) 1 l3)
 (cond (decide ((IntKind.u64.wrap x0) < 0))
 none
 (bnd (Int.fdiv x1 (2 ^ (min (Int.toNat (IntKind.u64.wrap x0)) 64))) fun y3 =>
 (bnd (IntKind.u64.wrap ((BitVec.ofInt 64 y3 &&& BitVec.ofInt 64 1).toNat : Int)) fun y4 =>
 (cond ((decide (0 ≤ (IntKind.i64.wrap (64 + x0)))) && (decide ((IntKind.i64.wrap (64 + x0)) < 128)))
 (cond (fits (0 + ((Int.toNat (IntKind.i64.wrap (64 + x0))) * 1)) 1 (splice l3 (0 + ((Int.toNat x0) * 1)) [.bool (y2 == 1)]))
 (r116 (IntKind.i64.wrap (x0 + 1)) x1 x2 (splice (splice l3 (0 + ((Int.toNat x0) * 1)) [.bool (y2 == 1)]) (0 + ((Int.toNat (IntKind.i64.wrap (64 + x0))) * 1)) [.bool (y4 == 1)]))
 none)
 none))))
 none)
 none))))
 (cond (fits 0 128 l3)
 (cond (lenIs (List.take 128 (List.drop 0 l3)) 128)
 (cond (cellsOk (List.take 128 (List.drop 0 l3)))
 (cond (fits 0 128 (splice [.bool false, .bool false, .bool false, .bool false, .bool false, .bool false, .bool false, .bool false, .bool false, .bool false, .bool false, .bool false, .bool false, .bool false, .bool false, .bool false, .bool false, .bool false, .bool false, .bool false, .bool false, .bool false, .bool false, .bool false, .bool false, .bool false, .bool false, .bool false, .bool false, .bool false, .bool false, .bool false, .bool false, .bool false, .bool false, .bool false, .bool false, .bool false, .bool false, .bool false, .bool false, .bool false, .bool false, .bool false, .bool false, .bool false, .bool false, .bool false, .bool false, .bool false, .bool false, .bool false, .bool false, .bool false, .bool false, .bool false, .bool false, .bool false, .bool false, .bool false, .bool false, .bool false, .bool false, .bool false, .bool false, .bool false, .bool false, .bool false, .bool false, .bool false, .bool false, .bool false, .bool false, .bool false, .bool false, .bool false, .bool false, .bool false, .bool false, .bool false, .bool false, .bool false, .bool false, .bool false, .bool false, .bool false, .bool false, .bool false, .bool false, .bool false, .bool false, .bool false, .bool false, .bool false, .bool false, .bool false, .bool false, .bool false, .bool false, .bool false, .bool false, .bool false, .bool false, .bool false, .bool false, .bool false, .bool false, .bool false, .bool false, .bool false, .bool false, .bool false, .bool false, .bool false, .bool false, .bool false, .bool false, .bool false, .bool false, .bool false, .bool false, .bool false, .bool false, .bool false, .bool false, .bool false, .bool false, .bool false] 0 (List.take 128 (List.drop 0 l3))))
 (cond (AV.pureL (List.take 128 (List.drop 0 (splice [.bool false, .bool false, .bool false, .bool false, .bool false, .bool false, .bool false, .bool false, .bool false, .bool false, .bool false, .bool false, .bool false, .bool false, .bool false, .bool false, .bool false, .bool false, .bool false, .bool false, .bool false, .bool false, .bool false, .bool false, .bool false, .bool false, .bool false, .bool false, .bool false, .bool false, .bool false, .bool false, .bool false, .bool false, .bool false, .bool false, .bool false, .bool false, .bool false, .bool false, .bool false, .bool false, .bool false, .bool false, .bool false, .bool false, .bool false, .bool false, .bool false, .bool false, .bool false, .bool false, .bool false, .bool false, .bool false, .bool false, .bool false, .bool false, .bool false, .bool false, .bool false, .bool false, .bool false, .bool false, .bool false, .bool false, .bool false, .bool false, .bool false, .bool false, .bool false, .bool false, .bool false, .bool false, .bool false, .bool false, .bool false, .bool false, .bool false, .bool false, .bool false, .bool false, .bool false, .bool false, .bool false, .bool false, .bool false, .bool false, .bool false, .bool false, .bool false, .bool false, .bool false, .bool false, .bool false, .bool false, .bool false, .bool false, .bool false, .bool false, .bool false, .bool false, .bool false, .bool false, .bool false, .bool false, .bool false, .bool false, .bool false, .bool false, .bool false, .bool false, .bool false, .bool false, .bool false, .bool false, .bool false, .bool false, .bool false, .bool false, .bool false, .bool false, .bool false, .bool false, .bool false, .bool false, .bool false, .bool false] 0 (List.take 128 (List.drop 0 l3))))))
 (some (.agg (List.take 128 (List.drop 0 (splice [.bool false, .bool false, .bool false, .bool false, .bool false, .bool false, .bool false, .bool false, .bool false, .bool false, .bool false, .bool false, .bool false, .bool false, .bool false, .bool false, .bool false, .bool false, .bool false, .bool false, .bool false, .bool false, .bool false, .bool false, .bool false, .bool false, .bool false, .bool false, .bool false, .bool false, .bool false, .bool false, .bool false, .bool false, .bool false, .bool false, .bool false, .bool false, .bool false, .bool false, .bool false, .bool false, .bool false, .bool false, .bool false, .bool false, .bool false, .bool false, .bool false, .bool false, .bool false, .bool false, .bool false, .bool false, .bool false, .bool false, .bool false, .bool false, .bool false, .bool false, .bool false, .bool false, .bool false, .bool false, .bool false, .bool false, .bool false, .bool false, .bool false, .bool false, .bool false, .bool false, .bool false, .bool false, .bool false, .bool false, .bool false, .bool false, .bool false, .bool false, .bool false, .bool false, .bool false, .bool false, .bool false, .bool false, .bool false, .bool false, .bool false, .bool false, .bool false, .bool false, .bool false, .bool false, .bool false, .bool false, .bool false, .bool false, .bool false, .bool false, .bool false, .bool false, .bool false, .bool false, .bool false, .bool false, .bool false, .bool false, .bool false, .bool false, .bool false, .bool false, .bool false, .bool false, .bool false, .bool false, .bool false, .bool false, .bool false, .bool false, .bool false, .bool false, .bool false, .bool false, .bool false, .bool false, .bool false, .bool false] 0 (List.take 128 (List.drop 0 l3)))))))
 none)
 none)
 none)
 none)
 none))
theorem K_ref01_bits_116 (j : Jump) (n : Nat) (m116 : Nat) (x0 : Int) (x1 : Int) (x2 : Int) (l3 : List AV) : enter (topEnv C (CP C n) n F_ref01_bits) (some j) (bodyOf C.P F_ref01_bits) (endOf C.P F_ref01_bits) [false, false, true, false, true, true] [(m116 + 1)] (S_ref01_bits_116 x0 x1 x2 l3) = T_ref01_bits_116 (CP C n) x0 x1 x2 l3 (fun x0 x1 x2 l3 => j [false, false, true, false, true, true] [m116] (S_ref01_bits_116 x0 x1 x2 l3)) := by kernel_rfl
def J_ref01_bits_116 (cp : FuncId → List AV → Option AV) (n : Nat) : Nat → Int → Int → Int → List AV → Option AV
  | 0 => (fun x0 x1 x2 l3 => none)
  | m + 1 => (fun x0 x1 x2 l3 => T_ref01_bits_116 cp x0 x1 x2 l3 (J_ref01_bits_116 cp n m))
theorem Js_ref01_bits_116 (cp : FuncId → List AV → Option AV) (n : Nat) (m : Nat) (x0 : Int) (x1 : Int) (x2 : Int) (l3 : List AV) : J_ref01_bits_116 cp n (m + 1) x0 x1 x2 l3 = T_ref01_bits_116 cp x0 x1 x2 l3 (J_ref01_bits_116 cp n m) := of_eq_true (eq_self _)
theorem JE_ref01_bits_116 (n : Nat) : ∀ (m : Nat) (x0 : Int) (x1 : Int) (x2 : Int) (l3 : List AV), jT (topEnv C (CP C n) n F_ref01_bits) (bodyOf C.P F_ref01_bits) (endOf C.P F_ref01_bits) [false, false, true, false, true, true] [m] (S_ref01_bits_116 x0 x1 x2 l3) = J_ref01_bits_116 (CP C n) n m x0 x1 x2 l3
  | 0, x0, x1, x2, l3 => (jT_eq _ _ _ _ _ _).trans (by kernel_rfl)
  | m + 1, x0, x1, x2, l3 => (jT_eq _ _ _ _ _ _).trans ((K_ref01_bits_116 _ n m x0 x1 x2 l3).trans (congrArg (T_ref01_bits_116 (CP C n) x0 x1 x2 l3) (funext fun x0 => (funext fun x1 => (funext fun x2 => (funext fun l3 => (JE_ref01_bits_116 n m) x0 x1 x2 l3))))))
def T_ref01_bits_1 (cp : FuncId → List AV → Option AV) (a0_0 : Int) (a0_1 : Int) (j116 : Int → Int → Int → List AV → Option AV) : Option AV :=
 (j116 0 a0_0 a0_1 [.bool false, .bool false, .bool false, .bool false, .bool false, .bool false, .bool false, .bool false, .bool false, .bool false, .bool false, .bool false, .bool false, .bool false, .bool false, .bool false, .bool false, .bool false, .bool false, .bool false, .bool false, .bool false, .bool false, .bool false, .bool false, .bool false, .bool false, .bool false, .bool false, .bool false, .bool false, .bool false, .bool false, .bool false, .bool false, .bool false, .bool false, .bool false, .bool false, .bool false, .bool false, .bool false, .bool false, .bool false, .bool false, .bool false, .bool false, .bool false, .bool false, .bool false, .bool false, .bool false, .bool false, .bool false, .bool false, .bool false, .bool false, .bool false, .bool false, .bool false, .bool false, .bool false, .bool false, .bool false, .bool false, .bool false, .bool false, .bool false, .bool false, .bool false, .bool false, .bool false, .bool false, .bool false, .bool false, .bool false, .bool false, .bool false, .bool false, .bool false, .bool false, .bool false, .bool false, .bool false, .bool false, .bool false, .bool false, .bool false, .bool false, .bool false, .bool false, .bool false, .bool false, .bool false, .bool false, .bool false, .bool false, .bool false, .bool false, .bool false, .bool false, .bool false, .bool false, .bool false, .bool false, .bool false, .bool false, .bool false, .bool false, .bool false, .bool false, .bool false, .bool false, .bool false, .bool false, .bool false, .bool false, .bool false, .bool false, .bool false, .bool false, .bool false, .bool false, .bool false, .bool false, .bool false, .bool false, .bool false])
theorem K_ref01_bits_1 (j : Jump) (n : Nat) (a0_0 : Int) (a0_1 : Int) : ex (topEnv C (CP C n) n F_ref01_bits) (some j) (bodyOf C.P F_ref01_bits) 1 [] [] (endOf C.P F_ref01_bits) (startOf C.P F_ref01_bits [.agg [.int .u64 a0_0, .int .u64 a0_1]]) = T_ref01_bits_1 (CP C n) a0_0 a0_1 (fun x0 x1 x2 l3 => j [false, false, true, false, true, true] [(n + 300)] (S_ref01_bits_116 x0 x1 x2 l3)) := by kernel_rfl
def R_ref01_bits (cp : FuncId → List AV → Option AV) (n : Nat) (a0_0 : Int) (a0_1 : Int) : Option AV := T_ref01_bits_1 cp a0_0 a0_1 (J_ref01_bits_116 cp n (n + 300))
theorem eq_ref01_bits (n : Nat) (a0_0 : Int) (a0_1 : Int) : CP C (n + 1) F_ref01_bits [.agg [.int .u64 a0_0, .int .u64 a0_1]] = R_ref01_bits (CP C n) n a0_0 a0_1 :=
  (CP_pure C n F_ref01_bits _ (by kernel_rfl) (by kernel_rfl)).trans ((K_ref01_bits_1 _ n a0_0 a0_1).trans (congrArg (T_ref01_bits_1 (CP C n) a0_0 a0_1) (funext fun x0 => (funext fun x1 => (funext fun x2 => (funext fun l3 => (JE_ref01_bits_116 n (n + 300)) x0 x1 x2 l3))))))
-- ref01_wide
def S_ref01_wide_116 (x0 : Int) (l1 : List AV) (x2 : Int) (x3 : Int) : St := ⟨[.junk, .ptr (some (0, 0)), .ptr (some (1, 0)), .ptr (some (2, 0)), .int .i64 x0, .junk, .junk, .junk, .junk, .junk, .junk, .junk, .junk, .junk, .junk, .junk, .junk, .junk, .junk, .junk, .junk, .junk, .junk, .junk, .junk, .junk, .junk, .junk, .junk, .junk, .junk], [.cells 54 l1, .cells 24 [.int .u64 0, .int .u64 0], .cells 24 [.int .u64 x2, .int .u64 x3]]⟩
def T_ref01_wide_116 (cp : FuncId → List AV → Option AV) (x0 : Int) (l1 : List AV) (x2 : Int) (x3 : Int) (r116 : Int → List AV → Int → Int → Option AV) : Option AV :=
 (cond (decide (x0 < 64))
 (cond ((decide (0 ≤ x0)) && (decide (x0 < 128)))
 (cond (fits (0 + ((Int.toNat x0) * 1)) 1 l1)
 (AV.boolK (nth l1 (0 + ((Int.toNat x0) * 1))) fun b1 =>
 (cond b1
 (cond (decide ((IntKind.u64.wrap x0) < 0))
 none
 (bnd (IntKind.u64.wrap (1 * (2 ^ (min (Int.toNat (IntKind.u64.wrap x0)) 64)))) fun y2 =>
 (bnd (IntKind.u64.wrap ((BitVec.ofInt 64 x3 ||| BitVec.ofInt 64 y2).toNat : Int)) fun y3 =>
 (cond ((decide (0 ≤ (IntKind.i64.wrap (64 + x0)))) && (decide ((IntKind.i64.wrap (64 + x0)) < 128)))
 (cond (fits (0 + ((Int.toNat (IntKind.i64.wrap (64 + x0))) * 1)) 1 l1)
 (AV.boolK (nth l1 (0 + ((Int.toNat (IntKind.i64.wrap (64 + x0))) * 1))) fun b4 =>
 (cond b4
 (cond (decide ((IntKind.u64.wrap x0) < 0))
 none
 (bnd (IntKind.u64.wrap (1 * (2 ^ (min (Int.toNat (IntKind.u64.wrap x0)) 64)))) fun y5 =>
 (bnd (IntKind.u64.wrap ((BitVec.ofInt 64 x2 ||| BitVec.ofInt 64 y5).toNat : Int)) fun y6 =>
 (r116 (IntKind.i64.wrap (x0 + 1)) l1 y6 y3))))
 (r116 (IntKind.i64.wrap (x0 + 1)) l1 x2 y3)))
 none)
 none))))
 (cond ((decide (0 ≤ (IntKind.i64.wrap (64 + x0)))) && (decide ((IntKind.i64.wrap (64 + x0)) < 128)))
 (cond (fits (0 + ((Int.toNat (IntKind.i64.wrap (64 + x0))) * 1)) 1 l1)
 (AV.boolK (nth l1 (0 + ((Int.toNat (IntKind.i64.wrap (64 + x0))) * 1))) fun b7 =>
 (cond b7
 (cond (decide ((IntKind.u64.wrap x0) < 0))
 none
 (bnd (IntKind.u64.wrap (1 * (2 ^ (min (Int.toNat (IntKind.u64.wrap x0)) 64)))) fun y8 =>
 (bnd (IntKind.u64.wrap ((BitVec.ofInt 64 x2 ||| BitVec.ofInt 64 y8).toNat : Int)) fun y9 =>
 (r116 (IntKind.i64.wrap (x0 + 1)) l1 y9 x3))))
 (r116 (IntKind.i64.wrap (x0 + 1)) l1 x2 x3)))
 none)
 none)))
 none)
 none)
 (some (.agg [.int .u64 x2, .int .u64 x3])))
theorem K_ref01_wide_116 (j : Jump) (n : Nat) (m116 : Nat) (x0 : Int) (l1 : List AV) (x2 : Int) (x3 : Int) : enter (topEnv C (CP C n) n F_ref01_wide) (some j) (bodyOf C.P F_ref01_wide) (endOf C.P F_ref01_wide) [false, false, true, false, true, true] [(m116 + 1)] (S_ref01_wide_116 x0 l1 x2 x3) = T_ref01_wide_116 (CP C n) x0 l1 x2 x3 (fun x0 l1 x2 x3 => j [false, false, true, false, true, true] [m116] (S_ref01_wide_116 x0 l1 x2 x3)) := by kernel_rfl
def J_ref01_wide_116 (cp : FuncId → List AV → Option AV) (n : Nat) : Nat → Int → List AV → Int → Int → Option AV
  | 0 => (fun x0 l1 x2 x3 => none)
  | m + 1 => (fun x0 l1 x2 x3 => T_ref01_wide_116 cp x0 l1 x2 x3 (J_ref01_wide_116 cp n m))
theorem Js_ref01_wide_116 (cp : FuncId → List AV → Option AV) (n : Nat) (m : Nat) (x0 : Int) (l1 : List AV) (x2 : Int) (x3 : Int) : J_ref01_wide_116 cp n (m + 1) x0 l1 x2 x3 = T_ref01_wide_116 cp x0 l1 x2 x3 (J_ref01_wide_116 cp n m) := of_eq_true (eq_self _)
theorem JE_ref01_wide_116 (n : Nat) : ∀ (m : Nat) (x0 : Int) (l1 : List AV) (x2 : Int) (x3 : Int), jT (topEnv C (CP C n) n F_ref01_wide) (bodyOf C.P F_ref01_wide) (endOf C.P F_ref01_wide) [false, false, true, false, true, true] [m] (S_ref01_wide_116 x0 l1 x2 x3) = J_ref01_wide_116 (CP C n) n m x0 l1 x2 x3
  | 0, x0, l1, x2, x3 => (jT_eq _ _ _ _ _ _).trans (by kernel_rfl)
  | m + 1, x0, l1, x2, x3 => (jT_eq _ _ _ _ _ _).trans ((K_ref01_wide_116 _ n m x0 l1 x2 x3).trans (congrArg (T_ref01_wide_116 (CP C n) x0 l1 x2 x3) (funext fun x0 => (funext fun l1 => (funext fun x2 => (funext fun x3 => (JE_ref01_wide_116 n m) x0 l1 x2 x3))))))
def T_ref01_wide_1 (cp : FuncId → List AV → Option AV) (a0 : List AV) (j116 : Int → List AV → Int → Int → Option AV) : Option AV :=
 (j116 0 a0 0 0)
theorem K_ref01_wide_1 (j : Jump) (n : Nat) (a0 : List AV) : ex (topEnv C (CP C n) n F_ref01_wide) (some j) (bodyOf C.P F_ref01_wide) 1 [] [] (endOf C.P F_ref01_wide) (startOf C.P F_ref01_wide [.agg a0]) = T_ref01_wide_1 (CP C n) a0 (fun x0 l1 x2 x3 => j [false, false, true, false, true, true] [(n + 300)] (S_ref01_wide_116 x0 l1 x2 x3)) := by kernel_rfl
def R_ref01_wide (cp : FuncId → List AV → Option AV) (n : Nat) (a0 : List AV) : Option AV := T_ref01_wide_1 cp a0 (J_ref01_wide_116 cp n (n + 300))
theorem eq_ref01_wide (n : Nat) (a0 : List AV) : CP C (n + 1) F_ref01_wide [.agg a0] = cond (AV.pureL [.agg a0]) (R_ref01_wide (CP C n) n a0) none :=
  (CP_run C n F_ref01_wide _ (by kernel_rfl)).trans (congrArg (fun x => cond (AV.pureL [.agg a0]) x none) ((K_ref01_wide_1 _ n a0).trans (congrArg (T_ref01_wide_1 (CP C n) a0) (funext fun x0 => (funext fun l1 => (funext fun x2 => (funext fun x3 => (JE_ref01_wide_116 n (n + 300)) x0 l1 x2 x3)))))))
-- ref01_Div
def S_ref01_Div_1012 (x0 : Int) (x1 : Int) (x2 : Int) (l3 : List AV) (l4 : List AV) : St := ⟨[.junk, .int .u64 x0, .junk, .junk, .ptr (some (1, 0)), .junk, .junk, .ptr (some (2, 0)), .ptr (some (3, 0)), .int .u64 x1, .int .i64 x2, .junk, .junk, .junk, .junk, .junk, .junk, .junk, .junk, .junk, .junk, .junk, .junk, .junk, .junk, .junk, .junk, .junk, .junk, .junk, .junk, .junk, .junk, .junk, .junk, .junk, .junk, .junk, .junk, .junk, .junk, .junk, .junk, .junk], [.dead, .cells 24 [.int .u64 0, .int .u64 0], .cells 54 l3, .cells 54 l4]⟩
def T_ref01_Div_1012 (cp : FuncId → List AV → Option AV) (x0 : Int) (x1 : Int) (x2 : Int) (l3 : List AV) (l4 : List AV) (r1012 : Int → Int → Int → List AV → List AV → Option AV) : Option AV :=
 (cond (decide (x2 ≥ 0))
 (cond ((decide (0 ≤ x2)) && (decide (x2 < 128)))
 (cond (fits (0 + ((Int.toNat x2) * 1)) 1 l3)
 (AV.boolK (nth l3 (0 + ((Int.toNat x2) * 1))) fun b1 =>
 (cond b1
 (bnd (IntKind.u64.wrap ((BitVec.ofInt 64 (IntKind.u64.wrap (x1 * 2)) ||| BitVec.ofInt 64 1).toNat : Int)) fun y2 =>
 (cond (decide (x1 ≥ 9223372036854775808))
 (cond ((decide (0 ≤ x2)) && (decide (x2 < 128)))
 (cond (fits (0 + ((Int.toNat x2) * 1)) 1 l4)
 (r1012 x0 (IntKind.u64.wrap (y2 - x0)) (IntKind.i64.wrap (x2 - 1)) l3 (splice l4 (0 + ((Int.toNat x2) * 1)) [.bool true]))
 none)
 none)
 (cond (decide (y2 ≥ x0))
 (cond ((decide (0 ≤ x2)) && (decide (x2 < 128)))
 (cond (fits (0 + ((Int.toNat x2) * 1)) 1 l4)
 (r1012 x0 (IntKind.u64.wrap (y2 - x0)) (IntKind.i64.wrap (x2 - 1)) l3 (splice l4 (0 + ((Int.toNat x2) * 1)) [.bool true]))
 none)
 none)
 (r1012 x0 y2 (IntKind.i64.wrap (x2 - 1)) l3 l4))))
 (cond (decide (x1 ≥ 9223372036854775808))
 (cond ((decide (0 ≤ x2)) && (decide (x2 < 128)))
 (cond (fits (0 + ((Int.toNat x2) * 1)) 1 l4)
 (r1012 x0 (IntKind.u64.wrap ((IntKind.u64.wrap (x1 * 2)) - x0)) (IntKind.i64.wrap (x2 - 1)) l3 (splice l4 (0 + ((Int.toNat x2) * 1)) [.bool true]))
 none)
 none)
 (cond (decide ((IntKind.u64.wrap (x1 * 2)) ≥ x0))
 (cond ((decide (0 ≤ x2)) && (decide (x2 < 128)))
 (cond (fits (0 + ((Int.toNat x2) * 1)) 1 l4)
 (r1012 x0 (IntKind.u64.wrap ((IntKind.u64.wrap (x1 * 2)) - x0)) (IntKind.i64.wrap (x2 - 1)) l3 (splice l4 (0 + ((Int.toNat x2) * 1)) [.bool true]))
 none)
 none)
 (r1012 x0 (IntKind.u64.wrap (x1 * 2)) (IntKind.i64.wrap (x2 - 1)) l3 l4)))))
 none)
 none)
 (cond (fits 0 128 l4)
 (cond ((AV.pureL (List.take 128 (List.drop 0 l4))) && true)
 ((cp F_ref01_wide [.agg (List.take 128 (List.drop 0 l4))]).bind fun r3 =>
 (AV.aggK r3 fun l4 =>
 (consK l4 fun v5 l6 =>
 (AV.intK .u64 v5 fun i7 =>
 (consK l6 fun v8 l9 =>
 (AV.intK .u64 v8 fun i10 =>
 (nilK l9
 (some (.tup [.agg [.int .u64 i7, .int .u64 i10], .int .u64 x1, .int .i64 0])))))))))
 none)
 none))
theorem K_ref01_Div_1012 (j : Jump) (n : Nat) (m1012 : Nat) (x0 : Int) (x1 : Int) (x2 : Int) (l3 : List AV) (l4 : List AV) : enter (topEnv C (CP C n) n F_ref01_Div) (some j) (bodyOf C.P F_ref01_Div) (endOf C.P F_ref01_Div) [false, false, true, false, true, true, true, true, true] [(m1012 + 1)] (S_ref01_Div_1012 x0 x1 x2 l3 l4) = T_ref01_Div_1012 (CP C n) x0 x1 x2 l3 l4 (fun x0 x1 x2 l3 l4 => j [false, false, true, false, true, true, true, true, true] [m1012] (S_ref01_Div_1012 x0 x1 x2 l3 l4)) := by kernel_rfl
def J_ref01_Div_1012 (cp : FuncId → List AV → Option AV) (n : Nat) : Nat → Int → Int → Int → List AV → List AV → Option AV
  | 0 => (fun x0 x1 x2 l3 l4 => none)
  | m + 1 => (fun x0 x1 x2 l3 l4 => T_ref01_Div_1012 cp x0 x1 x2 l3 l4 (J_ref01_Div_1012 cp n m))
theorem Js_ref01_Div_1012 (cp : FuncId → List AV → Option AV) (n : Nat) (m : Nat) (x0 : Int) (x1 : Int) (x2 : Int) (l3 : List AV) (l4 : List AV) : J_ref01_Div_1012 cp n (m + 1) x0 x1 x2 l3 l4 = T_ref01_Div_1012 cp x0 x1 x2 l3 l4 (J_ref01_Div_1012 cp n m) := of_eq_true (eq_self _)
theorem JE_ref01_Div_1012 (n : Nat) : ∀ (m : Nat) (x0 : Int) (x1 : Int) (x2 : Int) (l3 : List AV) (l4 : List AV), jT (topEnv C (CP C n) n F_ref01_Div) (bodyOf C.P F_ref01_Div) (endOf C.P F_ref01_Div) [false, false, true, false, true, true, true, true, true] [m] (S_ref01_Div_1012 x0 x1 x2 l3 l4) = J_ref01_Div_1012 (CP C n) n m x0 x1 x2 l3 l4
  | 0, x0, x1, x2, l3, l4 => (jT_eq _ _ _ _ _ _).trans (by kernel_rfl)
  | m + 1, x0, x1, x2, l3, l4 => (jT_eq _ _ _ _ _ _).trans ((K_ref01_Div_1012 _ n m x0 x1 x2 l3 l4).trans (congrArg (T_ref01_Div_1012 (CP C n) x0 x1 x2 l3 l4) (funext fun x0 => (funext fun x1 => (funext fun x2 => (funext fun l3 => (funext fun l4 => (JE_ref01_Div_1012 n m) x0 x1 x2 l3 l4)))))))
def T_ref01_Div_1 (cp : FuncId → List AV → Option AV) (a0_0 : Int) (a0_1 : Int) (a1 : Int) (j1012 : Int → Int → Int → List AV → List AV → Option AV) : Option AV :=
 (cond (a1 == 0)
 (some (.tup [.agg [.int .u64 0, .int .u64 0], .int .u64 0, .int .i64 5]))
 ((cp F_ref01_bits [.agg [.int .u64 a0_0, .int .u64 a0_1]]).bind fun r1 =>
 (AV.aggK r1 fun l2 =>
 (cond (lenIs l2 128)
 (cond (cellsOk l2)
 (j1012 a1 0 127 (splice [.bool false, .bool false, .bool false, .bool false, .bool false, .bool false, .bool false, .bool false, .bool false, .bool false, .bool false, .bool false, .bool false, .bool false, .bool false, .bool false, .bool false, .bool false, .bool false, .bool false, .bool false, .bool false, .bool false, .bool false, .bool false, .bool false, .bool false, .bool false, .bool false, .bool false, .bool false, .bool false, .bool false, .bool false, .bool false, .bool false, .bool false, .bool false, .bool false, .bool false, .bool false, .bool false, .bool false, .bool false, .bool false, .bool false, .bool false, .bool false, .bool false, .bool false, .bool false, .bool false, .bool false, .bool false, .bool false, .bool false, .bool false, .bool false, .bool false, .bool false, .bool false, .bool false, .bool false, .bool false, .bool false, .bool false, .bool false, .bool false, .bool false, .bool false, .bool false, .bool false, .bool false, .bool false, .bool false, .bool false, .bool false, .bool false, .bool false, .bool false, .bool false, .bool false, .bool false, .bool false, .bool false, .bool false, .bool false, .bool false, .bool false, .bool false, .bool false, .bool false, .bool false, .bool false, .bool false, .bool false, .bool false, .bool false, .bool false, .bool false, .bool false, .bool false, .bool false, .bool false, .bool false, .bool false, .bool false, .bool false, .bool false, .bool false, .bool false, .bool false, .bool false, .bool false, .bool false, .bool false, .bool false, .bool false, .bool false, .bool false, .bool false, .bool false, .bool false, .bool false, .bool false, .bool false, .bool false, .bool false] 0 l2) [.bool false, .bool false, .bool false, .bool false, .bool false, .bool false, .bool false, .bool false, .bool false, .bool false, .bool false, .bool false, .bool false, .bool false, .bool false, .bool false, .bool false, .bool false, .bool false, .bool false, .bool false, .bool false, .bool false, .bool false, .bool false, .bool false, .bool false, .bool false, .bool false, .bool false, .bool false, .bool false, .bool false, .bool false, .bool false, .bool false, .bool false, .bool false, .bool false, .bool false, .bool false, .bool false, .bool false, .bool false, .bool false, .bool false, .bool false, .bool false, .bool false, .bool false, .bool false, .bool false, .bool false, .bool false, .bool false, .bool false, .bool false, .bool false, .bool false, .bool false, .bool false, .bool false, .bool false, .bool false, .bool false, .bool false, .bool false, .bool false, .bool false, .bool false, .bool false, .bool false, .bool false, .bool false, .bool false, .bool false, .bool false, .bool false, .bool false, .bool false, .bool false, .bool false, .bool false, .bool false, .bool false, .bool false, .bool false, .bool false, .bool false, .bool false, .bool false, .bool false, .bool false, .bool false, .bool false, .bool false, .bool false, .bool false, .bool false, .bool false, .bool false, .bool false, .bool false, .bool false, .bool false, .bool false, .bool false, .bool false, .bool false, .bool false, .bool false, .bool false, .bool false, .bool false, .bool false, .bool false, .bool false, .bool false, .bool false, .bool false, .bool false, .bool false, .bool false, .bool false, .bool false, .bool false, .bool false, .bool false])
 none)
 none))))
theorem K_ref01_Div_1 (j : Jump) (n : Nat) (a0_0 : Int) (a0_1 : Int) (a1 : Int) : ex (topEnv C (CP C n) n F_ref01_Div) (some j) (bodyOf C.P F_ref01_Div) 1 [] [] (endOf C.P F_ref01_Div) (startOf C.P F_ref01_Div [.agg [.int .u64 a0_0, .int .u64 a0_1], .int .u64 a1]) = T_ref01_Div_1 (CP C n) a0_0 a0_1 a1 (fun x0 x1 x2 l3 l4 => j [false, false, true, false, true, true, true, true, true] [(n + 300)] (S_ref01_Div_1012 x0 x1 x2 l3 l4)) := by kernel_rfl
def R_ref01_Div (cp : FuncId → List AV → Option AV) (n : Nat) (a0_0 : Int) (a0_1 : Int) (a1 : Int) : Option AV := T_ref01_Div_1 cp a0_0 a0_1 a1 (J_ref01_Div_1012 cp n (n + 300))
theorem eq_ref01_Div (n : Nat) (a0_0 : Int) (a0_1 : Int) (a1 : Int) : CP C (n + 1) F_ref01_Div [.agg [.int .u64 a0_0, .int .u64 a0_1], .int .u64 a1] = R_ref01_Div (CP C n) n a0_0 a0_1 a1 :=
  (CP_pure C n F_ref01_Div _ (by kernel_rfl) (by kernel_rfl)).trans ((K_ref01_Div_1 _ n a0_0 a0_1 a1).trans (congrArg (T_ref01_Div_1 (CP C n) a0_0 a0_1 a1) (funext fun x0 => (funext fun x1 => (funext fun x2 => (funext fun l3 => (funext fun l4 => (JE_ref01_Div_1012 n (n + 300)) x0 x1 x2 l3 l4)))))))
-- math_bits_Mul64
def R_math_bits_Mul64 (cp : FuncId → List AV → Option AV) (_n : Nat) (a0 : Int) (a1 : Int) : Option AV :=
 (bnd (IntKind.u64.wrap ((BitVec.ofInt 64 a0 &&& BitVec.ofInt 64 4294967295).toNat : Int)) fun y1 =>
 (bnd (IntKind.u64.wrap ((BitVec.ofInt 64 a1 &&& BitVec.ofInt 64 4294967295).toNat : Int)) fun y2 =>
 (bnd (IntKind.u64.wrap ((IntKind.u64.wrap ((Int.fdiv a0 4294967296) * y2)) + (Int.fdiv (IntKind.u64.wrap (y1 * y2)) 4294967296))) fun y3 =>
 (bnd (IntKind.u64.wrap ((BitVec.ofInt 64 y3 &&& BitVec.ofInt 64 4294967295).toNat : Int)) fun y4 =>
 (bnd (IntKind.u64.wrap (y4 + (IntKind.u64.wrap (y1 * (Int.fdiv a1 4294967296))))) fun y5 =>
 (bnd (IntKind.u64.wrap ((Int.fdiv a0 4294967296) * (Int.fdiv a1 4294967296))) fun y6 =>
 (bnd (IntKind.u64.wrap ((IntKind.u64.wrap (y6 + (Int.fdiv y3 4294967296))) + (Int.fdiv y5 4294967296))) fun y7 =>
 (some (.tup [.int .u64 y7, .int .u64 (IntKind.u64.wrap (a0 * a1))])))))))))
theorem eq_math_bits_Mul64 (n : Nat) (a0 : Int) (a1 : Int) : CP C (n + 1) F_math_bits_Mul64 [.int .u64 a0, .int .u64 a1] = R_math_bits_Mul64 (CP C n) n a0 a1 := by kernel_rfl
-- wide_Mul
def R_wide_Mul (cp : FuncId → List AV → Option AV) (_n : Nat) (a0 : Int) (a1 : Int) : Option AV :=
 ((cp F_math_bits_Mul64 [.int .u64 a0, .int .u64 a1]).bind fun r1 =>
 (AV.tupK r1 fun l2 =>
 (consK l2 fun v3 l4 =>
 (AV.intK .u64 v3 fun i5 =>
 (consK l4 fun v6 l7 =>
 (AV.intK .u64 v6 fun i8 =>
 (nilK l7
 (some (.agg [.int .u64 i5, .int .u64 i8])))))))))
theorem eq_wide_Mul (n : Nat) (a0 : Int) (a1 : Int) : CP C (n + 1) F_wide_Mul [.int .u64 a0, .int .u64 a1] = R_wide_Mul (CP C n) n a0 a1 := by kernel_rfl
-- ref01_sum
def S_ref01_sum_116 (b0 : Bool) (x1 : Int) (l2 : List AV) (l3 : List AV) (l4 : List AV) : St := ⟨[.junk, .junk, .bool b0, .ptr (some (0, 0)), .ptr (some (1, 0)), .junk, .ptr (some (2, 0)), .junk, .ptr (some (3, 0)), .int .i64 x1, .junk, .junk, .junk, .junk, .junk, .junk, .junk, .junk, .junk, .junk, .junk, .junk, .junk, .junk, .junk, .junk, .junk, .junk, .junk, .junk, .junk, .junk, .junk, .junk, .junk, .junk, .junk], [.cells 54 l2, .cells 54 l3, .cells 54 [.bool false, .bool false, .bool false, .bool false, .bool false, .bool false, .bool false, .bool false, .bool false, .bool false, .bool false, .bool false, .bool false, .bool false, .bool false, .bool false, .bool false, .bool false, .bool false, .bool false, .bool false, .bool false, .bool false, .bool false, .bool false, .bool false, .bool false, .bool false, .bool false, .bool false, .bool false, .bool false, .bool false, .bool false, .bool false, .bool false, .bool false, .bool false, .bool false, .bool false, .bool false, .bool false, .bool false, .bool false, .bool false, .bool false, .bool false, .bool false, .bool false, .bool false, .bool false, .bool false, .bool false, .bool false, .bool false, .bool false, .bool false, .bool false, .bool false, .bool false, .bool false, .bool false, .bool false, .bool false, .bool false, .bool false, .bool false, .bool false, .bool false, .bool false, .bool false, .bool false, .bool false, .bool false, .bool false, .bool false, .bool false, .bool false, .bool false, .bool false, .bool false, .bool false, .bool false, .bool false, .bool false, .bool false, .bool false, .bool false, .bool false, .bool false, .bool false, .bool false, .bool false, .bool false, .bool false, .bool false, .bool false, .bool false, .bool false, .bool false, .bool false, .bool false, .bool false, .bool false, .bool false, .bool false, .bool false, .bool false, .bool false, .bool false, .bool false, .bool false, .bool false, .bool false, .bool false, .bool false, .bool false, .bool false, .bool false, .bool false, .bool false, .bool false, .bool false, .bool false, .bool false, .bool false, .bool false, .bool false], .cells 54 l4]⟩
def S_ref01_sum_3731 (b0 : Bool) (x1 : Int) (x2 : Int) (l3 : List AV) (l4 : List AV) (l5 : List AV) : St := ⟨[.junk, .junk, .bool b0, .ptr (some (0, 0)), .ptr (some (1, 0)), .junk, .ptr (some (2, 0)), .junk, .ptr (some (3, 0)), .int .i64 x1, .int .i64 x2, .junk, .junk, .junk, .junk, .junk, .junk, .junk, .junk, .junk, .junk, .junk, .junk, .junk, .junk, .junk, .junk, .junk, .junk, .junk, .junk, .junk, .junk, .junk, .junk, .junk, .junk], [.cells 54 l3, .cells 54 l4, .cells 54 [.bool false, .bool false, .bool false, .bool false, .bool false, .bool false, .bool false, .bool false, .bool false, .bool false, .bool false, .bool false, .bool false, .bool false, .bool false, .bool false, .bool false, .bool false, .bool false, .bool false, .bool false, .bool false, .bool false, .bool false, .bool false, .bool false, .bool false, .bool false, .bool false, .bool false, .bool false, .bool false, .bool false, .bool false, .bool false, .bool false, .bool false, .bool false, .bool false, .bool false, .bool false, .bool false, .bool false, .bool false, .bool false, .bool false, .bool false, .bool false, .bool false, .bool false, .bool false, .bool false, .bool false, .bool false, .bool false, .bool false, .bool false, .bool false, .bool false, .bool false, .bool false, .bool false, .bool false, .bool false, .bool false, .bool false, .bool false, .bool false, .bool false, .bool false, .bool false, .bool false, .bool false, .bool false, .bool false, .bool false, .bool false, .bool false, .bool false, .bool false, .bool false, .bool false, .bool false, .bool false, .bool false, .bool false, .bool false, .bool false, .bool false, .bool false, .bool false, .bool false, .bool false, .bool false, .bool false, .bool false, .bool false, .bool false, .bool false, .bool false, .bool false, .bool false, .bool false, .bool false, .bool false, .bool false, .bool false, .bool false, .bool false, .bool false, .bool false, .bool false, .bool false, .bool false, .bool false, .bool false, .bool false, .bool false, .bool false, .bool false, .bool false, .bool false, .bool false, .bool false, .bool false, .bool false, .bool false, .bool false], .cells 54 l5]⟩
def S_ref01_sum_7463 (b0 : Bool) (x1 : Int) (x2 : Int) (l3 : List AV) (l4 : List AV) (l5 : List AV) : St := ⟨[.junk, .junk, .bool b0, .ptr (some (0, 0)), .ptr (some (1, 0)), .junk, .ptr (some (2, 0)), .junk, .ptr (some (3, 0)), .int .i64 x1, .int .i64 x2, .junk, .junk, .junk, .junk, .junk, .junk, .junk, .junk, .junk, .junk, .junk, .junk, .junk, .junk, .junk, .junk, .junk, .junk, .junk, .junk, .junk, .junk, .junk, .junk, .junk, .junk], [.cells 54 l3, .cells 54 l4, .cells 54 [.bool false, .bool false, .bool false, .bool false, .bool false, .bool false, .bool false, .bool false, .bool false, .bool false, .bool false, .bool false, .bool false, .bool false, .bool false, .bool false, .bool false, .bool false, .bool false, .bool false, .bool false, .bool false, .bool false, .bool false, .bool false, .bool false, .bool false, .bool false, .bool false, .bool false, .bool false, .bool false, .bool false, .bool false, .bool false, .bool false, .bool false, .bool false, .bool false, .bool false, .bool false, .bool false, .bool false, .bool false, .bool false, .bool false, .bool false, .bool false, .bool false, .bool false, .bool false, .bool false, .bool false, .bool false, .bool false, .bool false, .bool false, .bool false, .bool false, .bool false, .bool false, .bool false, .bool false, .bool false, .bool false, .bool false, .bool false, .bool false, .bool false, .bool false, .bool false, .bool false, .bool false, .bool false, .bool false, .bool false, .bool false, .bool false, .bool false, .bool false, .bool false, .bool false, .bool false, .bool false, .bool false, .bool false, .bool false, .bool false, .bool false, .bool false, .bool false, .bool false, .bool false, .bool false, .bool false, .bool false, .bool false, .bool false, .bool false, .bool false, .bool false, .bool false, .bool false, .bool false, .bool false, .bool false, .bool false, .bool false, .bool false, .bool false, .bool false, .bool false, .bool false, .bool false, .bool false, .bool false, .bool false, .bool false, .bool false, .bool false, .bool false, .bool false, .bool false, .bool false, .bool false, .bool false, .bool false, .bool false], .cells 54 l5]⟩
def S_ref01_sum_14927 (x0 : Int) (x1 : Int) (l2 : List AV) (l3 : List AV) (l4 : List AV) : St := ⟨[.junk, .junk, .junk, .ptr (some (0, 0)), .ptr (some (1, 0)), .junk, .ptr (some (2, 0)), .junk, .ptr (some (3, 0)), .int .i64 x0, .int .i64 x1, .junk, .junk, .junk, .junk, .junk, .junk, .junk, .junk, .junk, .junk, .junk, .junk, .junk, .junk, .junk, .junk, .junk, .junk, .junk, .junk, .junk, .junk, .junk, .junk, .junk, .junk], [.cells 54 l2, .cells 54 l3, .cells 54 [.bool false, .bool false, .bool false, .bool false, .bool false, .bool false, .bool false, .bool false, .bool false, .bool false, .bool false, .bool false, .bool false, .bool false, .bool false, .bool false, .bool false, .bool false, .bool false, .bool false, .bool false, .bool false, .bool false, .bool false, .bool false, .bool false, .bool false, .bool false, .bool false, .bool false, .bool false, .bool false, .bool false, .bool false, .bool false, .bool false, .bool false, .bool false, .bool false, .bool false, .bool false, .bool false, .bool false, .bool false, .bool false, .bool false, .bool false, .bool false, .bool false, .bool false, .bool false, .bool false, .bool false, .bool false, .bool false, .bool false, .bool false, .bool false, .bool false, .bool false, .bool false, .bool false, .bool false, .bool false, .bool false, .bool false, .bool false, .bool false, .bool false, .bool false, .bool false, .bool false, .bool false, .bool false, .bool false, .bool false, .bool false, .bool false, .bool false, .bool false, .bool false, .bool false, .bool false, .bool false, .bool false, .bool false, .bool false, .bool false, .bool false, .bool false, .bool false, .bool false, .bool false, .bool false, .bool false, .bool false, .bool false, .bool false, .bool false, .bool false, .bool false, .bool false, .bool false, .bool false, .bool false, .bool false, .bool false, .bool false, .bool false, .bool false, .bool false, .bool false, .bool false, .bool false, .bool false, .bool false, .bool false, .bool false, .bool false, .bool false, .bool false, .bool false, .bool false, .bool false, .bool false, .bool false, .bool false, .bool false], .cells 54 l4]⟩
def S_ref01_sum_467 (b0 : Bool) (x1 : Int) (l2 : List AV) (l3 : List AV) (l4 : List AV) : St := ⟨[.junk, .junk, .bool b0, .ptr (some (0, 0)), .ptr (some (1, 0)), .junk, .ptr (some (2, 0)), .junk, .ptr (some (3, 0)), .int .i64 x1, .junk, .junk, .junk, .junk, .junk, .junk, .junk, .junk, .junk, .junk, .junk, .junk, .junk, .junk, .junk, .junk, .junk, .junk, .junk, .junk, .junk, .junk, .junk, .junk, .junk, .junk, .junk], [.cells 54 l2, .cells 54 l3, .cells 54 [.bool false, .bool false, .bool false, .bool false, .bool false, .bool false, .bool false, .bool false, .bool false, .bool false, .bool false, .bool false, .bool false, .bool false, .bool false, .bool false, .bool false, .bool false, .bool false, .bool false, .bool false, .bool false, .bool false, .bool false, .bool false, .bool false, .bool false, .bool false, .bool false, .bool false, .bool false, .bool false, .bool false, .bool false, .bool false, .bool false, .bool false, .bool false, .bool false, .bool false, .bool false, .bool false, .bool false, .bool false, .bool false, .bool false, .bool false, .bool false, .bool false, .bool false, .bool false, .bool false, .bool false, .bool false, .bool false, .bool false, .bool false, .bool false, .bool false, .bool false, .bool false, .bool false, .bool false, .bool false, .bool false, .bool false, .bool false, .bool false, .bool false, .bool false, .bool false, .bool false, .bool false, .bool false, .bool false, .bool false, .bool false, .bool false, .bool false, .bool false, .bool false, .bool false, .bool false, .bool false, .bool false, .bool false, .bool false, .bool false, .bool false, .bool false, .bool false, .bool false, .bool false, .bool false, .bool false, .bool false, .bool false, .bool false, .bool false, .bool false, .bool false, .bool false, .bool false, .bool false, .bool false, .bool false, .bool false, .bool false, .bool false, .bool false, .bool false, .bool false, .bool false, .bool false, .bool false, .bool false, .bool false, .bool false, .bool false, .bool false, .bool false, .bool false, .bool false, .bool false, .bool false, .bool false, .bool false, .bool false], .cells 54 l4]⟩
def T_ref01_sum_467 (cp : FuncId → List AV → Option AV) (b0 : Bool) (x1 : Int) (l2 : List AV) (l3 : List AV) (l4 : List AV) (r116 : Bool → Int → List AV → List AV → List AV → Option AV) : Option AV :=
 (r116 b0 (IntKind.i64.wrap (x1 + 1)) l2 l3 l4)
theorem K_ref01_sum_467 (j : Jump) (n : Nat) (m116 : Nat) (b0 : Bool) (x1 : Int) (l2 : List AV) (l3 : List AV) (l4 : List AV) : enter (topEnv C (CP C n) n F_ref01_sum) (some j) (bodyOf C.P F_ref01_sum) (endOf C.P F_ref01_sum) [true, true, false, false, true, false, true, true] [m116] (S_ref01_sum_467 b0 x1 l2 l3 l4) = T_ref01_sum_467 (CP C n) b0 x1 l2 l3 l4 (fun b0 x1 l2 l3 l4 => j [false, false, true, false, true, true] [m116] (S_ref01_sum_116 b0 x1 l2 l3 l4)) := by kernel_rfl
def J_ref01_sum_467 (cp : FuncId → List AV → Option AV) (n : Nat) (r116 : Bool → Int → List AV → List AV → List AV → Option AV) (b0 : Bool) (x1 : Int) (l2 : List AV) (l3 : List AV) (l4 : List AV) : Option AV := T_ref01_sum_467 cp b0 x1 l2 l3 l4 r116
theorem JE_ref01_sum_467 (n : Nat) (m116 : Nat) (r116 : Bool → Int → List AV → List AV → List AV → Option AV) (h116 : ∀ (b0 : Bool) (x1 : Int) (l2 : List AV) (l3 : List AV) (l4 : List AV), jT (topEnv C (CP C n) n F_ref01_sum) (bodyOf C.P F_ref01_sum) (endOf C.P F_ref01_sum) [false, false, true, false, true, true] [m116] (S_ref01_sum_116 b0 x1 l2 l3 l4) = r116 b0 x1 l2 l3 l4) (b0 : Bool) (x1 : Int) (l2 : List AV) (l3 : List AV) (l4 : List AV) : jT (topEnv C (CP C n) n F_ref01_sum) (bodyOf C.P F_ref01_sum) (endOf C.P F_ref01_sum) [true, true, false, false, true, false, true, true] [m116] (S_ref01_sum_467 b0 x1 l2 l3 l4) = J_ref01_sum_467 (CP C n) n r116 b0 x1 l2 l3 l4 :=
  (jT_eq _ _ _ _ _ _).trans ((K_ref01_sum_467 _ n m116 b0 x1 l2 l3 l4).trans (congrArg (T_ref01_sum_467 (CP C n) b0 x1 l2 l3 l4) (funext fun b0 => (funext fun x1 => (funext fun l2 => (funext fun l3 => (funext fun l4 => h116 b0 x1 l2 l3 l4)))))))
def T_ref01_sum_14927 (cp : FuncId → List AV → Option AV) (x0 : Int) (x1 : Int) (l2 : List AV) (l3 : List AV) (l4 : List AV) (j467 : Bool → Int → List AV → List AV → List AV → Option AV) : Option AV :=
 (bnd (IntKind.i64.wrap ((BitVec.ofInt 64 x1 &&& BitVec.ofInt 64 1).toNat : Int)) fun y1 =>
 (cond ((decide (0 ≤ x0)) && (decide (x0 < 128)))
 (cond (fits (0 + ((Int.toNat x0) * 1)) 1 l4)
 (j467 (decide (x1 ≥ 2)) x0 l2 l3 (splice l4 (0 + ((Int.toNat x0) * 1)) [.bool (y1 == 1)]))
 none)
 none))
theorem K_ref01_sum_14927 (j : Jump) (n : Nat) (m116 : Nat) (x0 : Int) (x1 : Int) (l2 : List AV) (l3 : List AV) (l4 : List AV) : enter (topEnv C (CP C n) n F_ref01_sum) (some j) (bodyOf C.P F_ref01_sum) (endOf C.P F_ref01_sum) [true, true, true, true, false, false, true, false, false, true, false, true, true] [m116] (S_ref01_sum_14927 x0 x1 l2 l3 l4) = T_ref01_sum_14927 (CP C n) x0 x1 l2 l3 l4 (fun b0 x1 l2 l3 l4 => j [true, true, false, false, true, false, true, true] [m116] (S_ref01_sum_467 b0 x1 l2 l3 l4)) := by kernel_rfl
def J_ref01_sum_14927 (cp : FuncId → List AV → Option AV) (n : Nat) (r116 : Bool → Int → List AV → List AV → List AV → Option AV) (x0 : Int) (x1 : Int) (l2 : List AV) (l3 : List AV) (l4 : List AV) : Option AV := T_ref01_sum_14927 cp x0 x1 l2 l3 l4 (J_ref01_sum_467 cp n r116)
theorem JE_ref01_sum_14927 (n : Nat) (m116 : Nat) (r116 : Bool → Int → List AV → List AV → List AV → Option AV) (h116 : ∀ (b0 : Bool) (x1 : Int) (l2 : List AV) (l3 : List AV) (l4 : List AV), jT (topEnv C (CP C n) n F_ref01_sum) (bodyOf C.P F_ref01_sum) (endOf C.P F_ref01_sum) [false, false, true, false, true, true] [m116] (S_ref01_sum_116 b0 x1 l2 l3 l4) = r116 b0 x1 l2 l3 l4) (x0 : Int) (x1 : Int) (l2 : List AV) (l3 : List AV) (l4 : List AV) : jT (topEnv C (CP C n) n F_ref01_sum) (bodyOf C.P F_ref01_sum) (endOf C.P F_ref01_sum) [true, true, true, true, false, false, true, false, false, true, false, true, true] [m116] (S_ref01_sum_14927 x0 x1 l2 l3 l4) = J_ref01_sum_14927 (CP C n) n r116 x0 x1 l2 l3 l4 :=
  (jT_eq _ _ _ _ _ _).trans ((K_ref01_sum_14927 _ n m116 x0 x1 l2 l3 l4).trans (congrArg (T_ref01_sum_14927 (CP C n) x0 x1 l2 l3 l4) (funext fun b0 => (funext fun x1 => (funext fun l2 => (funext fun l3 => (funext fun l4 => (JE_ref01_sum_467 n m116 r116 h116) b0 x1 l2 l3 l4)))))))
def T_ref01_sum_7463 (cp : FuncId → List AV → Option AV) (b0 : Bool) (x1 : Int) (x2 : Int) (l3 : List AV) (l4 : List AV) (l5 : List AV) (j14927 : Int → Int → List AV → List AV → List AV → Option AV) : Option AV :=
 (cond b0
 (j14927 x1 (IntKind.i64.wrap (x2 + 1)) l3 l4 l5)
 (j14927 x1 x2 l3 l4 l5))
theorem K_ref01_sum_7463 (j : Jump) (n : Nat) (m116 : Nat) (b0 : Bool) (x1 : Int) (x2 : Int) (l3 : List AV) (l4 : List AV) (l5 : List AV) : enter (topEnv C (CP C n) n F_ref01_sum) (some j) (bodyOf C.P F_ref01_sum) (endOf C.P F_ref01_sum) [true, true, true, false, false, true, false, false, true, false, true, true] [m116] (S_ref01_sum_7463 b0 x1 x2 l3 l4 l5) = T_ref01_sum_7463 (CP C n) b0 x1 x2 l3 l4 l5 (fun x0 x1 l2 l3 l4 => j [true, true, true, true, false, false, true, false, false, true, false, true, true] [m116] (S_ref01_sum_14927 x0 x1 l2 l3 l4)) := by kernel_rfl
def J_ref01_sum_7463 (cp : FuncId → List AV → Option AV) (n : Nat) (r116 : Bool → Int → List AV → List AV → List AV → Option AV) (b0 : Bool) (x1 : Int) (x2 : Int) (l3 : List AV) (l4 : List AV) (l5 : List AV) : Option AV := T_ref01_sum_7463 cp b0 x1 x2 l3 l4 l5 (J_ref01_sum_14927 cp n r116)
theorem JE_ref01_sum_7463 (n : Nat) (m116 : Nat) (r116 : Bool → Int → List AV → List AV → List AV → Option AV) (h116 : ∀ (b0 : Bool) (x1 : Int) (l2 : List AV) (l3 : List AV) (l4 : List AV), jT (topEnv C (CP C n) n F_ref01_sum) (bodyOf C.P F_ref01_sum) (endOf C.P F_ref01_sum) [false, false, true, false, true, true] [m116] (S_ref01_sum_116 b0 x1 l2 l3 l4) = r116 b0 x1 l2 l3 l4) (b0 : Bool) (x1 : Int) (x2 : Int) (l3 : List AV) (l4 : List AV) (l5 : List AV) : jT (topEnv C (CP C n) n F_ref01_sum) (bodyOf C.P F_ref01_sum) (endOf C.P F_ref01_sum) [true, true, true, false, false, true, false, false, true, false, true, true] [m116] (S_ref01_sum_7463 b0 x1 x2 l3 l4 l5) = J_ref01_sum_7463 (CP C n) n r116 b0 x1 x2 l3 l4 l5 :=
  (jT_eq _ _ _ _ _ _).trans ((K_ref01_sum_7463 _ n m116 b0 x1 x2 l3 l4 l5).trans (congrArg (T_ref01_sum_7463 (CP C n) b0 x1 x2 l3 l4 l5) (funext fun x0 => (funext fun x1 => (funext fun l2 => (funext fun l3 => (funext fun l4 => (JE_ref01_sum_14927 n m116 r116 h116) x0 x1 l2 l3 l4)))))))
def T_ref01_sum_3731 (cp : FuncId → List AV → Option AV) (b0 : Bool) (x1 : Int) (x2 : Int) (l3 : List AV) (l4 : List AV) (l5 : List AV) (j7463 : Bool → Int → Int → List AV → List AV → List AV → Option AV) : Option AV :=
 (cond ((decide (0 ≤ x1)) && (decide (x1 < 128)))
 (cond (fits (0 + ((Int.toNat x1) * 1)) 1 l4)
 (AV.boolK (nth l4 (0 + ((Int.toNat x1) * 1))) fun b1 =>
 (cond b1
 (j7463 b0 x1 (IntKind.i64.wrap (x2 + 1)) l3 l4 l5)
 (j7463 b0 x1 x2 l3 l4 l5)))
 none)
 none)
theorem K_ref01_sum_3731 (j : Jump) (n : Nat) (m116 : Nat) (b0 : Bool) (x1 : Int) (x2 : Int) (l3 : List AV) (l4 : List AV) (l5 : List AV) : enter (topEnv C (CP C n) n F_ref01_sum) (some j) (bodyOf C.P F_ref01_sum) (endOf C.P F_ref01_sum) [true, true, false, false, true, false, false, true, false, true, true] [m116] (S_ref01_sum_3731 b0 x1 x2 l3 l4 l5) = T_ref01_sum_3731 (CP C n) b0 x1 x2 l3 l4 l5 (fun b0 x1 x2 l3 l4 l5 => j [true, true, true, false, false, true, false, false, true, false, true, true] [m116] (S_ref01_sum_7463 b0 x1 x2 l3 l4 l5)) := by kernel_rfl
def J_ref01_sum_3731 (cp : FuncId → List AV → Option AV) (n : Nat) (r116 : Bool → Int → List AV → List AV → List AV → Option AV) (b0 : Bool) (x1 : Int) (x2 : Int) (l3 : List AV) (l4 : List AV) (l5 : List AV) : Option AV := T_ref01_sum_3731 cp b0 x1 x2 l3 l4 l5 (J_ref01_sum_7463 cp n r116)
theorem JE_ref01_sum_3731 (n : Nat) (m116 : Nat) (r116 : Bool → Int → List AV → List AV → List AV → Option AV) (h116 : ∀ (b0 : Bool) (x1 : Int) (l2 : List AV) (l3 : List AV) (l4 : List AV), jT (topEnv C (CP C n) n F_ref01_sum) (bodyOf C.P F_ref01_sum) (endOf C.P F_ref01_sum) [false, false, true, false, true, true] [m116] (S_ref01_sum_116 b0 x1 l2 l3 l4) = r116 b0 x1 l2 l3 l4) (b0 : Bool) (x1 : Int) (x2 : Int) (l3 : List AV) (l4 : List AV) (l5 : List AV) : jT (topEnv C (CP C n) n F_ref01_sum) (bodyOf C.P F_ref01_sum) (endOf C.P F_ref01_sum) [true, true, false, false, true, false, false, true, false, true, true] [m116] (S_ref01_sum_3731 b0 x1 x2 l3 l4 l5) = J_ref01_sum_3731 (CP C n) n r116 b0 x1 x2 l3 l4 l5 :=
  (jT_eq _ _ _ _ _ _).trans ((K_ref01_sum_3731 _ n m116 b0 x1 x2 l3 l4 l5).trans (congrArg (T_ref01_sum_3731 (CP C n) b0 x1 x2 l3 l4 l5) (funext fun b0 => (funext fun x1 => (funext fun x2 => (funext fun l3 => (funext fun l4 => (funext fun l5 => (JE_ref01_sum_7463 n m116 r116 h116) b0 x1 x2 l3 l4 l5))))))))
def T_ref01_sum_116 (cp : FuncId → List AV → Option AV) (b0 : Bool) (x1 : Int) (l2 : List AV) (l3 : List AV) (l4 : List AV) (j3731 : Bool → Int → Int → List AV → List AV → List AV → Option AV) : Option AV :=
 (cond (decide (x1 < 128))
 (cond ((decide (0 ≤ x1)) && (decide (x1 < 128)))
 (cond (fits (0 + ((Int.toNat x1) * 1)) 1 l2)
 (AV.boolK (nth l2 (0 + ((Int.toNat x1) * 1))) fun b1 =>
 (cond b1
 (j3731 b0 x1 1 l2 l3 l4)
 (j3731 b0 x1 0 l2 l3 l4)))
 none)
 none)
 (cond (fits 0 128 l4)
 (cond (lenIs (List.take 128 (List.drop 0 l4)) 128)
 (cond (cellsOk (List.take 128 (List.drop 0 l4)))
 (cond (fits 0 128 (splice [.bool false, .bool false, .bool false, .bool false, .bool false, .bool false, .bool false, .bool false, .bool false, .bool false, .bool false, .bool false, .bool false, .bool false, .bool false, .bool false, .bool false, .bool false, .bool false, .bool false, .bool false, .bool false, .bool false, .bool false, .bool false, .bool false, .bool false, .bool false, .bool false, .bool false, .bool false, .bool false, .bool false, .bool false, .bool false, .bool false, .bool false, .bool false, .bool false, .bool false, .bool false, .bool false, .bool false, .bool false, .bool false, .bool false, .bool false, .bool false, .bool false, .bool false, .bool false, .bool false, .bool false, .bool false, .bool false, .bool false, .bool false, .bool false, .bool false, .bool false, .bool false, .bool false, .bool false, .bool false, .bool false, .bool false, .bool false, .bool false, .bool false, .bool false, .bool false, .bool false, .bool false, .bool false, .bool false, .bool false, .bool false, .bool false, .bool false, .bool false, .bool false, .bool false, .bool false, .bool false, .bool false, .bool false, .bool false, .bool false, .bool false, .bool false, .bool false, .bool false, .bool false, .bool false, .bool false, .bool false, .bool false, .bool false, .bool false, .bool false, .bool false, .bool false, .bool false, .bool false, .bool false, .bool false, .bool false, .bool false, .bool false, .bool false, .bool false, .bool false, .bool false, .bool false, .bool false, .bool false, .bool false, .bool false, .bool false, .bool false, .bool false, .bool false, .bool false, .bool false, .bool false, .bool false, .bool false, .bool false] 0 (List.take 128 (List.drop 0 l4))))
 (cond ((AV.pureL (List.take 128 (List.drop 0 (splice [.bool false, .bool false, .bool false, .bool false, .bool false, .bool false, .bool false, .bool false, .bool false, .bool false, .bool false, .bool false, .bool false, .bool false, .bool false, .bool false, .bool false, .bool false, .bool false, .bool false, .bool false, .bool false, .bool false, .bool false, .bool false, .bool false, .bool false, .bool false, .bool false, .bool false, .bool false, .bool false, .bool false, .bool false, .bool false, .bool false, .bool false, .bool false, .bool false, .bool false, .bool false, .bool false, .bool false, .bool false, .bool false, .bool false, .bool false, .bool false, .bool false, .bool false, .bool false, .bool false, .bool false, .bool false, .bool false, .bool false, .bool false, .bool false, .bool false, .bool false, .bool false, .bool false, .bool false, .bool false, .bool false, .bool false, .bool false, .bool false, .bool false, .bool false, .bool false, .bool false, .bool false, .bool false, .bool false, .bool false, .bool false, .bool false, .bool false, .bool false, .bool false, .bool false, .bool false, .bool false, .bool false, .bool false, .bool false, .bool false, .bool false, .bool false, .bool false, .bool false, .bool false, .bool false, .bool false, .bool false, .bool false, .bool false, .bool false, .bool false, .bool false, .bool false, .bool false, .bool false, .bool false, .bool false, .bool false, .bool false, .bool false, .bool false, .bool false, .bool false, .bool false, .bool false, .bool false, .bool false, .bool false, .bool false, .bool false, .bool false, .bool false, .bool false, .bool false, .bool false, .bool false, .bool false, .bool false, .bool false] 0 (List.take 128 (List.drop 0 l4)))))) && true)
 (some (.tup [.agg (List.take 128 (List.drop 0 (splice [.bool false, .bool false, .bool false, .bool false, .bool false, .bool false, .bool false, .bool false, .bool false, .bool false, .bool false, .bool false, .bool false, .bool false, .bool false, .bool false, .bool false, .bool false, .bool false, .bool false, .bool false, .bool false, .bool false, .bool false, .bool false, .bool false, .bool false, .bool false, .bool false, .bool false, .bool false, .bool false, .bool false, .bool false, .bool false, .bool false, .bool false, .bool false, .bool false, .bool false, .bool false, .bool false, .bool false, .bool false, .bool false, .bool false, .bool false, .bool false, .bool false, .bool false, .bool false, .bool false, .bool false, .bool false, .bool false, .bool false, .bool false, .bool false, .bool false, .bool false, .bool false, .bool false, .bool false, .bool false, .bool false, .bool false, .bool false, .bool false, .bool false, .bool false, .bool false, .bool false, .bool false, .bool false, .bool false, .bool false, .bool false, .bool false, .bool false, .bool false, .bool false, .bool false, .bool false, .bool false, .bool false, .bool false, .bool false, .bool false, .bool false, .bool false, .bool false, .bool false, .bool false, .bool false, .bool false, .bool false, .bool false, .bool false, .bool false, .bool false, .bool false, .bool false, .bool false, .bool false, .bool false, .bool false, .bool false, .bool false, .bool false, .bool false, .bool false, .bool false, .bool false, .bool false, .bool false, .bool false, .bool false, .bool false, .bool false, .bool false, .bool false, .bool false, .bool false, .bool false, .bool false, .bool false, .bool false, .bool false] 0 (List.take 128 (List.drop 0 l4))))), .bool b0]))
 none)
 none)
 none)
 none)
 none))
theorem K_ref01_sum_116 (j : Jump) (n : Nat) (m116 : Nat) (b0 : Bool) (x1 : Int) (l2 : List AV) (l3 : List AV) (l4 : List AV) : enter (topEnv C (CP C n) n F_ref01_sum) (some j) (bodyOf C.P F_ref01_sum) (endOf C.P F_ref01_sum) [false, false, true, false, true, true] [(m116 + 1)] (S_ref01_sum_116 b0 x1 l2 l3 l4) = T_ref01_sum_116 (CP C n) b0 x1 l2 l3 l4 (fun b0 x1 x2 l3 l4 l5 => j [true, true, false, false, true, false, false, true, false, true, true] [m116] (S_ref01_sum_3731 b0 x1 x2 l3 l4 l5)) := by kernel_rfl
def J_ref01_sum_116 (cp : FuncId → List AV → Option AV) (n : Nat) : Nat → Bool → Int → List AV → List AV → List AV → Option AV
  | 0 => (fun b0 x1 l2 l3 l4 => none)
  | m + 1 => (fun b0 x1 l2 l3 l4 => T_ref01_sum_116 cp b0 x1 l2 l3 l4 (J_ref01_sum_3731 cp n (J_ref01_sum_116 cp n m)))
theorem Js_ref01_sum_116 (cp : FuncId → List AV → Option AV) (n : Nat) (m : Nat) (b0 : Bool) (x1 : Int) (l2 : List AV) (l3 : List AV) (l4 : List AV) : J_ref01_sum_116 cp n (m + 1) b0 x1 l2 l3 l4 = T_ref01_sum_116 cp b0 x1 l2 l3 l4 (J_ref01_sum_3731 cp n (J_ref01_sum_116 cp n m)) := of_eq_true (eq_self _)
theorem JE_ref01_sum_116 (n : Nat) : ∀ (m : Nat) (b0 : Bool) (x1 : Int) (l2 : List AV) (l3 : List AV) (l4 : List AV), jT (topEnv C (CP C n) n F_ref01_sum) (bodyOf C.P F_ref01_sum) (endOf C.P F_ref01_sum) [false, false, true, false, true, true] [m] (S_ref01_sum_116 b0 x1 l2 l3 l4) = J_ref01_sum_116 (CP C n) n m b0 x1 l2 l3 l4
  | 0, b0, x1, l2, l3, l4 => (jT_eq _ _ _ _ _ _).trans (by kernel_rfl)
  | m + 1, b0, x1, l2, l3, l4 => (jT_eq _ _ _ _ _ _).trans ((K_ref01_sum_116 _ n m b0 x1 l2 l3 l4).trans (congrArg (T_ref01_sum_116 (CP C n) b0 x1 l2 l3 l4) (funext fun b0 => (funext fun x1 => (funext fun x2 => (funext fun l3 => (funext fun l4 => (funext fun l5 => (JE_ref01_sum_3731 n m (J_ref01_sum_116 (CP C n) n m) (JE_ref01_sum_116 n m)) b0 x1 x2 l3 l4 l5))))))))
def T_ref01_sum_1 (cp : FuncId → List AV → Option AV) (a0 : List AV) (a1 : List AV) (a2 : Bool) (j116 : Bool → Int → List AV → List AV → List AV → Option AV) : Option AV :=
 (j116 a2 0 a0 a1 [.bool false, .bool false, .bool false, .bool false, .bool false, .bool false, .bool false, .bool false, .bool false, .bool false, .bool false, .bool false, .bool false, .bool false, .bool false, .bool false, .bool false, .bool false, .bool false, .bool false, .bool false, .bool false, .bool false, .bool false, .bool false, .bool false, .bool false, .bool false, .bool false, .bool false, .bool false, .bool false, .bool false, .bool false, .bool false, .bool false, .bool false, .bool false, .bool false, .bool false, .bool false, .bool false, .bool false, .bool false, .bool false, .bool false, .bool false, .bool false, .bool false, .bool false, .bool false, .bool false, .bool false, .bool false, .bool false, .bool false, .bool false, .bool false, .bool false, .bool false, .bool false, .bool false, .bool false, .bool false, .bool false, .bool false, .bool false, .bool false, .bool false, .bool false, .bool false, .bool false, .bool false, .bool false, .bool false, .bool false, .bool false, .bool false, .bool false, .bool false, .bool false, .bool false, .bool false, .bool false, .bool false, .bool false, .bool false, .bool false, .bool false, .bool false, .bool false, .bool false, .bool false, .bool false, .bool false, .bool false, .bool false, .bool false, .bool false, .bool false, .bool false, .bool false, .bool false, .bool false, .bool false, .bool false, .bool false, .bool false, .bool false, .bool false, .bool false, .bool false, .bool false, .bool false, .bool false, .bool false, .bool false, .bool false, .bool false, .bool false, .bool false, .bool false, .bool false, .bool false, .bool false, .bool false, .bool false, .bool false])
theorem K_ref01_sum_1 (j : Jump) (n : Nat) (a0 : List AV) (a1 : List AV) (a2 : Bool) : ex (topEnv C (CP C n) n F_ref01_sum) (some j) (bodyOf C.P F_ref01_sum) 1 [] [] (endOf C.P F_ref01_sum) (startOf C.P F_ref01_sum [.agg a0, .agg a1, .bool a2]) = T_ref01_sum_1 (CP C n) a0 a1 a2 (fun b0 x1 l2 l3 l4 => j [false, false, true, false, true, true] [(n + 300)] (S_ref01_sum_116 b0 x1 l2 l3 l4)) := by kernel_rfl
def R_ref01_sum (cp : FuncId → List AV → Option AV) (n : Nat) (a0 : List AV) (a1 : List AV) (a2 : Bool) : Option AV := T_ref01_sum_1 cp a0 a1 a2 (J_ref01_sum_116 cp n (n + 300))
theorem eq_ref01_sum (n : Nat) (a0 : List AV) (a1 : List AV) (a2 : Bool) : CP C (n + 1) F_ref01_sum [.agg a0, .agg a1, .bool a2] = cond (AV.pureL [.agg a0, .agg a1, .bool a2]) (R_ref01_sum (CP C n) n a0 a1 a2) none :=
  (CP_run C n F_ref01_sum _ (by kernel_rfl)).trans (congrArg (fun x => cond (AV.pureL [.agg a0, .agg a1, .bool a2]) x none) ((K_ref01_sum_1 _ n a0 a1 a2).trans (congrArg (T_ref01_sum_1 (CP C n) a0 a1 a2) (funext fun b0 => (funext fun x1 => (funext fun l2 => (funext fun l3 => (funext fun l4 => (JE_ref01_sum_116 n (n + 300)) b0 x1 l2 l3 l4))))))))
-- ref01_Mul
def S_ref01_Mul_116 (x0 : Int) (x1 : Int) (x2 : Int) (l3 : List AV) : St := ⟨[.int .u64 x0, .int .u64 x1, .junk, .junk, .ptr (some (0, 0)), .ptr (some (1, 0)), .ptr (some (2, 0)), .int .i64 x2, .junk, .junk, .junk, .junk, .junk, .junk, .junk, .junk, .junk, .junk, .junk, .junk, .junk, .junk, .junk, .junk, .junk, .junk, .junk, .junk, .junk, .junk, .junk, .junk, .junk, .junk, .junk, .junk, .junk, .junk, .junk, .junk, .junk, .junk, .junk, .junk, .junk, .junk, .junk, .junk, .junk, .junk, .junk], [.cells 24 [.int .u64 0, .int .u64 0], .cells 54 [.bool false, .bool false, .bool false, .bool false, .bool false, .bool false, .bool false, .bool false, .bool false, .bool false, .bool false, .bool false, .bool false, .bool false, .bool false, .bool false, .bool false, .bool false, .bool false, .bool false, .bool false, .bool false, .bool false, .bool false, .bool false, .bool false, .bool false, .bool false, .bool false, .bool false, .bool false, .bool false, .bool false, .bool false, .bool false, .bool false, .bool false, .bool false, .bool false, .bool false, .bool false, .bool false, .bool false, .bool false, .bool false, .bool false, .bool false, .bool false, .bool false, .bool false, .bool false, .bool false, .bool false, .bool false, .bool false, .bool false, .bool false, .bool false, .bool false, .bool false, .bool false, .bool false, .bool false, .bool false, .bool false, .bool false, .bool false, .bool false, .bool false, .bool false, .bool false, .bool false, .bool false, .bool false, .bool false, .bool false, .bool false, .bool false, .bool false, .bool false, .bool false, .bool false, .bool false, .bool false, .bool false, .bool false, .bool false, .bool false, .bool false, .bool false, .bool false, .bool false, .bool false, .bool false, .bool false, .bool false, .bool false, .bool false, .bool false, .bool false, .bool false, .bool false, .bool false, .bool false, .bool false, .bool false, .bool false, .bool false, .bool false, .bool false, .bool false, .bool false, .bool false, .bool false, .bool false, .bool false, .bool false, .bool false, .bool false, .bool false, .bool false, .bool false, .bool false, .bool false, .bool false, .bool false, .bool false, .bool false], .cells 54 l3]⟩
def S_ref01_Mul_244 (x0 : Int) (x1 : Int) (l2 : List AV) (l3 : List AV) : St := ⟨[.junk, .int .u64 x0, .junk, .junk, .ptr (some (0, 0)), .ptr (some (1, 0)), .ptr (some (2, 0)), .junk, .int .i64 x1, .junk, .junk, .junk, .junk, .junk, .junk, .junk, .junk, .junk, .junk, .junk, .junk, .junk, .junk, .junk, .junk, .junk, .junk, .junk, .junk, .junk, .junk, .junk, .junk, .junk, .junk, .junk, .junk, .junk, .junk, .junk, .junk, .junk, .junk, .junk, .junk, .junk, .junk, .junk, .junk, .junk, .junk], [.cells 24 [.int .u64 0, .int .u64 0], .cells 54 l2, .cells 54 l3]⟩
def S_ref01_Mul_62612 (x0 : Int) (x1 : Int) (x2 : Int) (l3 : List AV) (l4 : List AV) : St := ⟨[.junk, .int .u64 x0, .junk, .junk, .ptr (some (0, 0)), .ptr (some (1, 0)), .ptr (some (2, 0)), .junk, .int .i64 x1, .int .i64 x2, .junk, .junk, .junk, .junk, .junk, .junk, .junk, .junk, .junk, .junk, .junk, .junk, .junk, .junk, .junk, .junk, .junk, .junk, .junk, .junk, .junk, .junk, .junk, .junk, .junk, .junk, .junk, .junk, .junk, .junk, .junk, .junk, .junk, .junk, .junk, .junk, .junk, .junk, .junk, .junk, .junk], [.cells 24 [.int .u64 0, .int .u64 0], .cells 54 l3, .cells 54 l4]⟩
def T_ref01_Mul_62612 (cp : FuncId → List AV → Option AV) (x0 : Int) (x1 : Int) (x2 : Int) (l3 : List AV) (l4 : List AV) (r62612 : Int → Int → Int → List AV → List AV → Option AV) (r244 : Int → Int → List AV → List AV → Option AV) : Option AV :=
 (cond (decide (x2 > 0))
 (cond ((decide (0 ≤ (IntKind.i64.wrap (x2 - 1)))) && (decide ((IntKind.i64.wrap (x2 - 1)) < 128)))
 (cond (fits (0 + ((Int.toNat (IntKind.i64.wrap (x2 - 1))) * 1)) 1 l4)
 (cond ((decide (0 ≤ x2)) && (decide (x2 < 128)))
 (cond (lenIs (cellsOf (nth l4 (0 + ((Int.toNat (IntKind.i64.wrap (x2 - 1))) * 1)))) 1)
 (cond (cellsOk (cellsOf (nth l4 (0 + ((Int.toNat (IntKind.i64.wrap (x2 - 1))) * 1)))))
 (cond (fits (0 + ((Int.toNat x2) * 1)) 1 l4)
 (r62612 x0 x1 (IntKind.i64.wrap (x2 - 1)) l3 (splice l4 (0 + ((Int.toNat x2) * 1)) (cellsOf (nth l4 (0 + ((Int.toNat (IntKind.i64.wrap (x2 - 1))) * 1))))))
 none)
 none)
 none)
 none)
 none)
 none)
 (cond (fits 0 1 l4)
 (r244 x0 (IntKind.i64.wrap (x1 + 1)) l3 (splice l4 0 [.bool false]))
 none))
theorem K_ref01_Mul_62612 (j : Jump) (n : Nat) (m62612 : Nat) (m244 : Nat) (x0 : Int) (x1 : Int) (x2 : Int) (l3 : List AV) (l4 : List AV) : enter (topEnv C (CP C n) n F_ref01_Mul) (some j) (bodyOf C.P F_ref01_Mul) (endOf C.P F_ref01_Mul) [false, false, true, false, true, false, false, true, false, false, true, false, true, true, true] [(m62612 + 1), m244] (S_ref01_Mul_62612 x0 x1 x2 l3 l4) = T_ref01_Mul_62612 (CP C n) x0 x1 x2 l3 l4 (fun x0 x1 x2 l3 l4 => j [false, false, true, false, true, false, false, true, false, false, true, false, true, true, true] [m62612, m244] (S_ref01_Mul_62612 x0 x1 x2 l3 l4)) (fun x0 x1 l2 l3 => j [false, false, true, false, true, true, true] [m244] (S_ref01_Mul_244 x0 x1 l2 l3)) := by kernel_rfl
def J_ref01_Mul_62612 (cp : FuncId → List AV → Option AV) (n : Nat) (r244 : Int → Int → List AV → List AV → Option AV) : Nat → Int → Int → Int → List AV → List AV → Option AV
  | 0 => (fun x0 x1 x2 l3 l4 => none)
  | m + 1 => (fun x0 x1 x2 l3 l4 => T_ref01_Mul_62612 cp x0 x1 x2 l3 l4 (J_ref01_Mul_62612 cp n r244 m) r244)
theorem Js_ref01_Mul_62612 (cp : FuncId → List AV → Option AV) (n : Nat) (r244 : Int → Int → List AV → List AV → Option AV) (m : Nat) (x0 : Int) (x1 : Int) (x2 : Int) (l3 : List AV) (l4 : List AV) : J_ref01_Mul_62612 cp n r244 (m + 1) x0 x1 x2 l3 l4 = T_ref01_Mul_62612 cp x0 x1 x2 l3 l4 (J_ref01_Mul_62612 cp n r244 m) r244 := of_eq_true (eq_self _)
theorem JE_ref01_Mul_62612 (n : Nat) (m244 : Nat) (r244 : Int → Int → List AV → List AV → Option AV) (h244 : ∀ (x0 : Int) (x1 : Int) (l2 : List AV) (l3 : List AV), jT (topEnv C (CP C n) n F_ref01_Mul) (bodyOf C.P F_ref01_Mul) (endOf C.P F_ref01_Mul) [false, false, true, false, true, true, true] [m244] (S_ref01_Mul_244 x0 x1 l2 l3) = r244 x0 x1 l2 l3) : ∀ (m : Nat) (x0 : Int) (x1 : Int) (x2 : Int) (l3 : List AV) (l4 : List AV), jT (topEnv C (CP C n) n F_ref01_Mul) (bodyOf C.P F_ref01_Mul) (endOf C.P F_ref01_Mul) [false, false, true, false, true, false, false, true, false, false, true, false, true, true, true] [m, m244] (S_ref01_Mul_62612 x0 x1 x2 l3 l4) = J_ref01_Mul_62612 (CP C n) n r244 m x0 x1 x2 l3 l4
  | 0, x0, x1, x2, l3, l4 => (jT_eq _ _ _ _ _ _).trans (by kernel_rfl)
  | m + 1, x0, x1, x2, l3, l4 => (jT_eq _ _ _ _ _ _).trans ((K_ref01_Mul_62612 _ n m m244 x0 x1 x2 l3 l4).trans (congr (congrArg (T_ref01_Mul_62612 (CP C n) x0 x1 x2 l3 l4) (funext fun x0 => (funext fun x1 => (funext fun x2 => (funext fun l3 => (funext fun l4 => (JE_ref01_Mul_62612 n m244 r244 h244 m) x0 x1 x2 l3 l4)))))) (funext fun x0 => (funext fun x1 => (funext fun l2 => (funext fun l3 => h244 x0 x1 l2 l3))))))
def T_ref01_Mul_244 (cp : FuncId → List AV → Option AV) (x0 : Int) (x1 : Int) (l2 : List AV) (l3 : List AV) (j62612 : Int → Int → Int → List AV → List AV → Option AV) : Option AV :=
 (cond (decide (x1 < 64))
 (cond (decide ((IntKind.u64.wrap x1) < 0))
 none
 (bnd (Int.fdiv x0 (2 ^ (min (Int.toNat (IntKind.u64.wrap x1)) 64))) fun y1 =>
 (bnd (IntKind.u64.wrap ((BitVec.ofInt 64 y1 &&& BitVec.ofInt 64 1).toNat : Int)) fun y2 =>
 (cond (y2 == 1)
 (cond (fits 0 128 l2)
 (cond (fits 0 128 l3)
 (cond ((AV.pureL (List.take 128 (List.drop 0 l2))) && ((AV.pureL (List.take 128 (List.drop 0 l3))) && true))
 ((cp F_ref01_sum [.agg (List.take 128 (List.drop 0 l2)), .agg (List.take 128 (List.drop 0 l3)), .bool false]).bind fun r3 =>
 (AV.tupK r3 fun l4 =>
 (consK l4 fun v5 l6 =>
 (AV.aggK v5 fun l7 =>
 (consK l6 fun v8 l9 =>
 (AV.boolK v8 fun b10 =>
 (nilK l9
 (cond (lenIs l7 128)
 (cond (cellsOk l7)
 (cond (fits 0 128 l2)
 (j62612 x0 x1 127 (splice l2 0 l7) l3)
 none)
 none)
 none))))))))
 none)
 none)
 none)
 (j62612 x0 x1 127 l2 l3)))))
 (cond (fits 0 128 l2)
 (cond ((AV.pureL (List.take 128 (List.drop 0 l2))) && true)
 ((cp F_ref01_wide [.agg (List.take 128 (List.drop 0 l2))]).bind fun r11 =>
 (AV.aggK r11 fun l12 =>
 (consK l12 fun v13 l14 =>
 (AV.intK .u64 v13 fun i15 =>
 (consK l14 fun v16 l17 =>
 (AV.intK .u64 v16 fun i18 =>
 (nilK l17
 (some (.agg [.int .u64 i15, .int .u64 i18])))))))))
 none)
 none))
theorem K_ref01_Mul_244 (j : Jump) (n : Nat) (m244 : Nat) (x0 : Int) (x1 : Int) (l2 : List AV) (l3 : List AV) : enter (topEnv C (CP C n) n F_ref01_Mul) (some j) (bodyOf C.P F_ref01_Mul) (endOf C.P F_ref01_Mul) [false, false, true, false, true, true, true] [(m244 + 1)] (S_ref01_Mul_244 x0 x1 l2 l3) = T_ref01_Mul_244 (CP C n) x0 x1 l2 l3 (fun x0 x1 x2 l3 l4 => j [false, false, true, false, true, false, false, true, false, false, true, false, true, true, true] [(n + 300), m244] (S_ref01_Mul_62612 x0 x1 x2 l3 l4)) := by kernel_rfl
def J_ref01_Mul_244 (cp : FuncId → List AV → Option AV) (n : Nat) : Nat → Int → Int → List AV → List AV → Option AV
  | 0 => (fun x0 x1 l2 l3 => none)
  | m + 1 => (fun x0 x1 l2 l3 => T_ref01_Mul_244 cp x0 x1 l2 l3 (J_ref01_Mul_62612 cp n (J_ref01_Mul_244 cp n m) (n + 300)))
theorem Js_ref01_Mul_244 (cp : FuncId → List AV → Option AV) (n : Nat) (m : Nat) (x0 : Int) (x1 : Int) (l2 : List AV) (l3 : List AV) : J_ref01_Mul_244 cp n (m + 1) x0 x1 l2 l3 = T_ref01_Mul_244 cp x0 x1 l2 l3 (J_ref01_Mul_62612 cp n (J_ref01_Mul_244 cp n m) (n + 300)) := of_eq_true (eq_self _)
theorem JE_ref01_Mul_244 (n : Nat) : ∀ (m : Nat) (x0 : Int) (x1 : Int) (l2 : List AV) (l3 : List AV), jT (topEnv C (CP C n) n F_ref01_Mul) (bodyOf C.P F_ref01_Mul) (endOf C.P F_ref01_Mul) [false, false, true, false, true, true, true] [m] (S_ref01_Mul_244 x0 x1 l2 l3) = J_ref01_Mul_244 (CP C n) n m x0 x1 l2 l3
  | 0, x0, x1, l2, l3 => (jT_eq _ _ _ _ _ _).trans (by kernel_rfl)
  | m + 1, x0, x1, l2, l3 => (jT_eq _ _ _ _ _ _).trans ((K_ref01_Mul_244 _ n m x0 x1 l2 l3).trans (congrArg (T_ref01_Mul_244 (CP C n) x0 x1 l2 l3) (funext fun x0 => (funext fun x1 => (funext fun x2 => (funext fun l3 => (funext fun l4 => (JE_ref01_Mul_62612 n m (J_ref01_Mul_244 (CP C n) n m) (JE_ref01_Mul_244 n m) (n + 300)) x0 x1 x2 l3 l4)))))))
def T_ref01_Mul_116 (cp : FuncId → List AV → Option AV) (x0 : Int) (x1 : Int) (x2 : Int) (l3 : List AV) (r116 : Int → Int → Int → List AV → Option AV) (j244 : Int → Int → List AV → List AV → Option AV) : Option AV :=
 (cond (decide (x2 < 64))
 (cond (decide ((IntKind.u64.wrap x2) < 0))
 none
 (bnd (Int.fdiv x0 (2 ^ (min (Int.toNat (IntKind.u64.wrap x2)) 64))) fun y1 =>
 (bnd (IntKind.u64.wrap ((BitVec.ofInt 64 y1 &&& BitVec.ofInt 64 1).toNat : Int)) fun y2 =>
 (cond ((decide (0 ≤ x2)) && (decide (x2 < 128)))
 (cond (fits (0 + ((Int.toNat x2) * 1)) 1 l3)
 (r116 x0 x1 (IntKind.i64.wrap (x2 + 1)) (splice l3 (0 + ((Int.toNat x2) * 1)) [.bool (y2 == 1)]))
 none)
 none))))
 (j244 x1 0 [.bool false, .bool false, .bool false, .bool false, .bool false, .bool false, .bool false, .bool false, .bool false, .bool false, .bool false, .bool false, .bool false, .bool false, .bool false, .bool false, .bool false, .bool false, .bool false, .bool false, .bool false, .bool false, .bool false, .bool false, .bool false, .bool false, .bool false, .bool false, .bool false, .bool false, .bool false, .bool false, .bool false, .bool false, .bool false, .bool false, .bool false, .bool false, .bool false, .bool false, .bool false, .bool false, .bool false, .bool false, .bool false, .bool false, .bool false, .bool false, .bool false, .bool false, .bool false, .bool false, .bool false, .bool false, .bool false, .bool false, .bool false, .bool false, .bool false, .bool false, .bool false, .bool false, .bool false, .bool false, .bool false, .bool false, .bool false, .bool false, .bool false, .bool false, .bool false, .bool false, .bool false, .bool false, .bool false, .bool false, .bool false, .bool false, .bool false, .bool false, .bool false, .bool false, .bool false, .bool false, .bool false, .bool false, .bool false, .bool false, .bool false, .bool false, .bool false, .bool false, .bool false, .bool false, .bool false, .bool false, .bool false, .bool false, .bool false, .bool false, .bool false, .bool false, .bool false, .bool false, .bool false, .bool false, .bool false, .bool false, .bool false, .bool false, .bool false, .bool false, .bool false, .bool false, .bool false, .bool false, .bool false, .bool false, .bool false, .bool false, .bool false, .bool false, .bool false, .bool false, .bool false, .bool false, .bool false, .bool false] l3))
theorem K_ref01_Mul_116 (j : Jump) (n : Nat) (m116 : Nat) (x0 : Int) (x1 : Int) (x2 : Int) (l3 : List AV) : enter (topEnv C (CP C n) n F_ref01_Mul) (some j) (bodyOf C.P F_ref01_Mul) (endOf C.P F_ref01_Mul) [false, false, true, false, true, true] [(m116 + 1)] (S_ref01_Mul_116 x0 x1 x2 l3) = T_ref01_Mul_116 (CP C n) x0 x1 x2 l3 (fun x0 x1 x2 l3 => j [false, false, true, false, true, true] [m116] (S_ref01_Mul_116 x0 x1 x2 l3)) (fun x0 x1 l2 l3 => j [false, false, true, false, true, true, true] [(n + 300)] (S_ref01_Mul_244 x0 x1 l2 l3)) := by kernel_rfl
def J_ref01_Mul_116 (cp : FuncId → List AV → Option AV) (n : Nat) : Nat → Int → Int → Int → List AV → Option AV
  | 0 => (fun x0 x1 x2 l3 => none)
  | m + 1 => (fun x0 x1 x2 l3 => T_ref01_Mul_116 cp x0 x1 x2 l3 (J_ref01_Mul_116 cp n m) (J_ref01_Mul_244 cp n (n + 300)))
theorem Js_ref01_Mul_116 (cp : FuncId → List AV → Option AV) (n : Nat) (m : Nat) (x0 : Int) (x1 : Int) (x2 : Int) (l3 : List AV) : J_ref01_Mul_116 cp n (m + 1) x0 x1 x2 l3 = T_ref01_Mul_116 cp x0 x1 x2 l3 (J_ref01_Mul_116 cp n m) (J_ref01_Mul_244 cp n (n + 300)) := of_eq_true (eq_self _)
theorem JE_ref01_Mul_116 (n : Nat) : ∀ (m : Nat) (x0 : Int) (x1 : Int) (x2 : Int) (l3 : List AV), jT (topEnv C (CP C n) n F_ref01_Mul) (bodyOf C.P F_ref01_Mul) (endOf C.P F_ref01_Mul) [false, false, true, false, true, true] [m] (S_ref01_Mul_116 x0 x1 x2 l3) = J_ref01_Mul_116 (CP C n) n m x0 x1 x2 l3
  | 0, x0, x1, x2, l3 => (jT_eq _ _ _ _ _ _).trans (by kernel_rfl)
  | m + 1, x0, x1, x2, l3 => (jT_eq _ _ _ _ _ _).trans ((K_ref01_Mul_116 _ n m x0 x1 x2 l3).trans (congr (congrArg (T_ref01_Mul_116 (CP C n) x0 x1 x2 l3) (funext fun x0 => (funext fun x1 => (funext fun x2 => (funext fun l3 => (JE_ref01_Mul_116 n m) x0 x1 x2 l3))))) (funext fun x0 => (funext fun x1 => (funext fun l2 => (funext fun l3 => (JE_ref01_Mul_244 n (n + 300)) x0 x1 l2 l3))))))
def T_ref01_Mul_1 (cp : FuncId → List AV → Option AV) (a0 : Int) (a1 : Int) (j116 : Int → Int → Int → List AV → Option AV) : Option AV :=
 (j116 a0 a1 0 [.bool false, .bool false, .bool false, .bool false, .bool false, .bool false, .bool false, .bool false, .bool false, .bool false, .bool false, .bool false, .bool false, .bool false, .bool false, .bool false, .bool false, .bool false, .bool false, .bool false, .bool false, .bool false, .bool false, .bool false, .bool false, .bool false, .bool false, .bool false, .bool false, .bool false, .bool false, .bool false, .bool false, .bool false, .bool false, .bool false, .bool false, .bool false, .bool false, .bool false, .bool false, .bool false, .bool false, .bool false, .bool false, .bool false, .bool false, .bool false, .bool false, .bool false, .bool false, .bool false, .bool false, .bool false, .bool false, .bool false, .bool false, .bool false, .bool false, .bool false, .bool false, .bool false, .bool false, .bool false, .bool false, .bool false, .bool false, .bool false, .bool false, .bool false, .bool false, .bool false, .bool false, .bool false, .bool false, .bool false, .bool false, .bool false, .bool false, .bool false, .bool false, .bool false, .bool false, .bool false, .bool false, .bool false, .bool false, .bool false, .bool false, .bool false, .bool false, .bool false, .bool false, .bool false, .bool false, .bool false, .bool false, .bool false, .bool false, .bool false, .bool false, .bool false, .bool false, .bool false, .bool false, .bool false, .bool false, .bool false, .bool false, .bool false, .bool false, .bool false, .bool false, .bool false, .bool false, .bool false, .bool false, .bool false, .bool false, .bool false, .bool false, .bool false, .bool false, .bool false, .bool false, .bool false, .bool false, .bool false])
theorem K_ref01_Mul_1 (j : Jump) (n : Nat) (a0 : Int) (a1 : Int) : ex (topEnv C (CP C n) n F_ref01_Mul) (some j) (bodyOf C.P F_ref01_Mul) 1 [] [] (endOf C.P F_ref01_Mul) (startOf C.P F_ref01_Mul [.int .u64 a0, .int .u64 a1]) = T_ref01_Mul_1 (CP C n) a0 a1 (fun x0 x1 x2 l3 => j [false, false, true, false, true, true] [(n + 300)] (S_ref01_Mul_116 x0 x1 x2 l3)) := by kernel_rfl
def R_ref01_Mul (cp : FuncId → List AV → Option AV) (n : Nat) (a0 : Int) (a1 : Int) : Option AV := T_ref01_Mul_1 cp a0 a1 (J_ref01_Mul_116 cp n (n + 300))
theorem eq_ref01_Mul (n : Nat) (a0 : Int) (a1 : Int) : CP C (n + 1) F_ref01_Mul [.int .u64 a0, .int .u64 a1] = R_ref01_Mul (CP C n) n a0 a1 :=
  (CP_pure C n F_ref01_Mul _ (by kernel_rfl) (by kernel_rfl)).trans ((K_ref01_Mul_1 _ n a0 a1).trans (congrArg (T_ref01_Mul_1 (CP C n) a0 a1) (funext fun x0 => (funext fun x1 => (funext fun x2 => (funext fun l3 => (JE_ref01_Mul_116 n (n + 300)) x0 x1 x2 l3))))))
-- law01_WideMuls
def R_law01_WideMuls (cp : FuncId → List AV → Option AV) (_n : Nat) (a0_0 : Int) (a0_1 : Int) (a1 : Int) (a2 : Int) : Option AV :=
 ((cp F_wide_Div [.agg [.int .u64 a0_0, .int .u64 a0_1], .int .u64 a1]).bind fun r1 =>
 (AV.tupK r1 fun l2 =>
 (consK l2 fun v3 l4 =>
 (AV.aggK v3 fun l5 =>
 (consK l5 fun v6 l7 =>
 (AV.intK .u64 v6 fun i8 =>
 (consK l7 fun v9 l10 =>
 (AV.intK .u64 v9 fun i11 =>
 (nilK l10
 (consK l4 fun v12 l13 =>
 (AV.intK .u64 v12 fun i14 =>
 (consK l13 fun v15 l16 =>
 (AV.intK .i64 v15 fun i17 =>
 (nilK l16
 ((cp F_ref01_Div [.agg [.int .u64 a0_0, .int .u64 a0_1], .int .u64 a1]).bind fun r18 =>
 (AV.tupK r18 fun l19 =>
 (consK l19 fun v20 l21 =>
 (AV.aggK v20 fun l22 =>
 (consK l22 fun v23 l24 =>
 (AV.intK .u64 v23 fun i25 =>
 (consK l24 fun v26 l27 =>
 (AV.intK .u64 v26 fun i28 =>
 (nilK l27
 (consK l21 fun v29 l30 =>
 (AV.intK .u64 v29 fun i31 =>
 (consK l30 fun v32 l33 =>
 (AV.intK .i64 v32 fun i34 =>
 (nilK l33
 ((cp F_wide_Mul [.int .u64 a1, .int .u64 a2]).bind fun r35 =>
 (AV.aggK r35 fun l36 =>
 (consK l36 fun v37 l38 =>
 (AV.intK .u64 v37 fun i39 =>
 (consK l38 fun v40 l41 =>
 (AV.intK .u64 v40 fun i42 =>
 (nilK l41
 ((cp F_ref01_Mul [.int .u64 a1, .int .u64 a2]).bind fun r43 =>
 (AV.aggK r43 fun l44 =>
 (consK l44 fun v45 l46 =>
 (AV.intK .u64 v45 fun i47 =>
 (consK l46 fun v48 l49 =>
 (AV.intK .u64 v48 fun i50 =>
 (nilK l49
 (cond ((i39 == i47) && ((i42 == i50) && true))
 (cond ((i8 == i25) && ((i11 == i28) && true))
 (cond (i14 == i31)
 (cond (i17 == i34)
 ((cp F_law01_awake []).bind fun r51 =>
 (AV.boolK r51 fun b52 =>
 (some (.bool b52))))
 (some (.bool false)))
 (some (.bool false)))
 (some (.bool false)))
 (some (.bool false)))))))))))))))))))))))))))))))))))))))))))))
theorem eq_law01_WideMuls (n : Nat) (a0_0 : Int) (a0_1 : Int) (a1 : Int) (a2 : Int) : CP C (n + 1) F_law01_WideMuls [.agg [.int .u64 a0_0, .int .u64 a0_1], .int .u64 a1, .int .u64 a2] = R_law01_WideMuls (CP C n) n a0_0 a0_1 a1 a2 := by kernel_rfl
-- wide_Add
def R_wide_Add (cp : FuncId → List AV → Option AV) (_n : Nat) (a0_0 : Int) (a0_1 : Int) (a1_0 : Int) (a1_1 : Int) : Option AV :=
 (bnd (((((Int.toNat a0_1) + (Int.toNat a1_1) + 0) % 18446744073709551616 : Nat)) : Int) fun y1 =>
 (bnd (((((Int.toNat a0_1) + (Int.toNat a1_1) + 0) / 18446744073709551616 : Nat)) : Int) fun y2 =>
 (cond (decide ((Int.toNat y2) ≤ 1))
 (bnd (((((Int.toNat a0_0) + (Int.toNat a1_0) + (Int.toNat y2)) % 18446744073709551616 : Nat)) : Int) fun y3 =>
 (bnd (((((Int.toNat a0_0) + (Int.toNat a1_0) + (Int.toNat y2)) / 18446744073709551616 : Nat)) : Int) fun y4 =>
 (some (.tup [.agg [.int .u64 y3, .int .u64 y1], .bool (y4 == 1)]))))
 none)))
theorem eq_wide_Add (n : Nat) (a0_0 : Int) (a0_1 : Int) (a1_0 : Int) (a1_1 : Int) : CP C (n + 1) F_wide_Add [.agg [.int .u64 a0_0, .int .u64 a0_1], .agg [.int .u64 a1_0, .int .u64 a1_1]] = R_wide_Add (CP C n) n a0_0 a0_1 a1_0 a1_1 := by kernel_rfl
-- wide_Sub
def R_wide_Sub (cp : FuncId → List AV → Option AV) (_n : Nat) (a0_0 : Int) (a0_1 : Int) (a1_0 : Int) (a1_1 : Int) : Option AV :=
 (bnd (((((Int.toNat a0_1) + 18446744073709551616 - (Int.toNat a1_1) - 0) % 18446744073709551616 : Nat)) : Int) fun y1 =>
 (bnd ((if (Int.toNat a0_1) < (Int.toNat a1_1) + 0 then 1 else 0 : Nat) : Int) fun y2 =>
 (cond (decide ((Int.toNat y2) ≤ 1))
 (bnd (((((Int.toNat a0_0) + 18446744073709551616 - (Int.toNat a1_0) - (Int.toNat y2)) % 18446744073709551616 : Nat)) : Int) fun y3 =>
 (bnd ((if (Int.toNat a0_0) < (Int.toNat a1_0) + (Int.toNat y2) then 1 else 0 : Nat) : Int) fun y4 =>
 (some (.tup [.agg [.int .u64 y3, .int .u64 y1], .bool (y4 == 1)]))))
 none)))
theorem eq_wide_Sub (n : Nat) (a0_0 : Int) (a0_1 : Int) (a1_0 : Int) (a1_1 : Int) : CP C (n + 1) F_wide_Sub [.agg [.int .u64 a0_0, .int .u64 a0_1], .agg [.int .u64 a1_0, .int .u64 a1_1]] = R_wide_Sub (CP C n) n a0_0 a0_1 a1_0 a1_1 := by kernel_rfl
-- law01_WideBack
def R_law01_WideBack (cp : FuncId → List AV → Option AV) (_n : Nat) (a0_0 : Int) (a0_1 : Int) (a1 : Int) (a2_0 : Int) (a2_1 : Int) : Option AV :=
 ((cp F_wide_Div [.agg [.int .u64 a0_0, .int .u64 a0_1], .int .u64 a1]).bind fun r1 =>
 (AV.tupK r1 fun l2 =>
 (consK l2 fun v3 l4 =>
 (AV.aggK v3 fun l5 =>
 (consK l5 fun v6 l7 =>
 (AV.intK .u64 v6 fun i8 =>
 (consK l7 fun v9 l10 =>
 (AV.intK .u64 v9 fun i11 =>
 (nilK l10
 (consK l4 fun v12 l13 =>
 (AV.intK .u64 v12 fun i14 =>
 (consK l13 fun v15 l16 =>
 (AV.intK .i64 v15 fun i17 =>
 (nilK l16
 (cond (a1 == 0)
 (cond (i17 == 5)
 ((cp F_law01_awake []).bind fun r18 =>
 (AV.boolK r18 fun b19 =>
 (some (.bool b19))))
 (some (.bool false)))
 ((cp F_wide_Mul [.int .u64 i11, .int .u64 a1]).bind fun r20 =>
 (AV.aggK r20 fun l21 =>
 (consK l21 fun v22 l23 =>
 (AV.intK .u64 v22 fun i24 =>
 (consK l23 fun v25 l26 =>
 (AV.intK .u64 v25 fun i27 =>
 (nilK l26
 ((cp F_wide_Mul [.int .u64 i8, .int .u64 a1]).bind fun r28 =>
 (AV.aggK r28 fun l29 =>
 (consK l29 fun v30 l31 =>
 (AV.intK .u64 v30 fun i32 =>
 (consK l31 fun v33 l34 =>
 (AV.intK .u64 v33 fun i35 =>
 (nilK l34
 ((cp F_wide_Add [.agg [.int .u64 i24, .int .u64 i27], .agg [.int .u64 i35, .int .u64 0]]).bind fun r36 =>
 (AV.tupK r36 fun l37 =>
 (consK l37 fun v38 l39 =>
 (AV.aggK v38 fun l40 =>
 (consK l40 fun v41 l42 =>
 (AV.intK .u64 v41 fun i43 =>
 (consK l42 fun v44 l45 =>
 (AV.intK .u64 v44 fun i46 =>
 (nilK l45
 (consK l39 fun v47 l48 =>
 (AV.boolK v47 fun b49 =>
 (nilK l48
 ((cp F_wide_Add [.agg [.int .u64 i43, .int .u64 i46], .agg [.int .u64 0, .int .u64 i14]]).bind fun r50 =>
 (AV.tupK r50 fun l51 =>
 (consK l51 fun v52 l53 =>
 (AV.aggK v52 fun l54 =>
 (consK l54 fun v55 l56 =>
 (AV.intK .u64 v55 fun i57 =>
 (consK l56 fun v58 l59 =>
 (AV.intK .u64 v58 fun i60 =>
 (nilK l59
 (consK l53 fun v61 l62 =>
 (AV.boolK v61 fun b63 =>
 (nilK l62
 ((cp F_wide_Add [.agg [.int .u64 a0_0, .int .u64 a0_1], .agg [.int .u64 a2_0, .int .u64 a2_1]]).bind fun r64 =>
 (AV.tupK r64 fun l65 =>
 (consK l65 fun v66 l67 =>
 (AV.aggK v66 fun l68 =>
 (consK l68 fun v69 l70 =>
 (AV.intK .u64 v69 fun i71 =>
 (consK l70 fun v72 l73 =>
 (AV.intK .u64 v72 fun i74 =>
 (nilK l73
 (consK l67 fun v75 l76 =>
 (AV.boolK v75 fun b77 =>
 (nilK l76
 ((cp F_wide_Sub [.agg [.int .u64 i71, .int .u64 i74], .agg [.int .u64 a2_0, .int .u64 a2_1]]).bind fun r78 =>
 (AV.tupK r78 fun l79 =>
 (consK l79 fun v80 l81 =>
 (AV.aggK v80 fun l82 =>
 (consK l82 fun v83 l84 =>
 (AV.intK .u64 v83 fun i85 =>
 (consK l84 fun v86 l87 =>
 (AV.intK .u64 v86 fun i88 =>
 (nilK l87
 (consK l81 fun v89 l90 =>
 (AV.boolK v89 fun b91 =>
 (nilK l90
 (cond (i17 == 0)
 (cond (decide (i14 < a1))
 (cond (i32 == 0)
 (cond (!b49)
 (cond (!b63)
 (cond ((i57 == a0_0) && ((i60 == a0_1) && true))
 (cond ((i85 == a0_0) && ((i88 == a0_1) && true))
 ((cp F_law01_awake []).bind fun r92 =>
 (AV.boolK r92 fun b93 =>
 (some (.bool b93))))
 (some (.bool false)))
 (some (.bool false)))
 (some (.bool false)))
 (some (.bool false)))
 (some (.bool false)))
 (some (.bool false)))
 (some (.bool false))))))))))))))))))))))))))))))))))))))))))))))))))))))))))))))))))))))))))))))))
theorem eq_law01_WideBack (n : Nat) (a0_0 : Int) (a0_1 : Int) (a1 : Int) (a2_0 : Int) (a2_1 : Int) : CP C (n + 1) F_law01_WideBack [.agg [.int .u64 a0_0, .int .u64 a0_1], .int .u64 a1, .agg [.int .u64 a2_0, .int .u64 a2_1]] = R_law01_WideBack (CP C n) n a0_0 a0_1 a1 a2_0 a2_1 := by kernel_rfl
-- ref01_Add
def R_ref01_Add (cp : FuncId → List AV → Option AV) (_n : Nat) (a0_0 : Int) (a0_1 : Int) (a1_0 : Int) (a1_1 : Int) : Option AV :=
 ((cp F_ref01_bits [.agg [.int .u64 a0_0, .int .u64 a0_1]]).bind fun r1 =>
 (AV.aggK r1 fun l2 =>
 ((cp F_ref01_bits [.agg [.int .u64 a1_0, .int .u64 a1_1]]).bind fun r3 =>
 (AV.aggK r3 fun l4 =>
 (cond ((AV.pureL l2) && ((AV.pureL l4) && true))
 ((cp F_ref01_sum [.agg l2, .agg l4, .bool false]).bind fun r5 =>
 (AV.tupK r5 fun l6 =>
 (consK l6 fun v7 l8 =>
 (AV.aggK v7 fun l9 =>
 (consK l8 fun v10 l11 =>
 (AV.boolK v10 fun b12 =>
 (nilK l11
 (cond (lenIs l9 128)
 (cond (cellsOk l9)
 (cond (fits 0 128 (splice [.bool false, .bool false, .bool false, .bool false, .bool false, .bool false, .bool false, .bool false, .bool false, .bool false, .bool false, .bool false, .bool false, .bool false, .bool false, .bool false, .bool false, .bool false, .bool false, .bool false, .bool false, .bool false, .bool false, .bool false, .bool false, .bool false, .bool false, .bool false, .bool false, .bool false, .bool false, .bool false, .bool false, .bool false, .bool false, .bool false, .bool false, .bool false, .bool false, .bool false, .bool false, .bool false, .bool false, .bool false, .bool false, .bool false, .bool false, .bool false, .bool false, .bool false, .bool false, .bool false, .bool false, .bool false, .bool false, .bool false, .bool false, .bool false, .bool false, .bool false, .bool false, .bool false, .bool false, .bool false, .bool false, .bool false, .bool false, .bool false, .bool false, .bool false, .bool false, .bool false, .bool false, .bool false, .bool false, .bool false, .bool false, .bool false, .bool false, .bool false, .bool false, .bool false, .bool false, .bool false, .bool false, .bool false, .bool false, .bool false, .bool false, .bool false, .bool false, .bool false, .bool false, .bool false, .bool false, .bool false, .bool false, .bool false, .bool false, .bool false, .bool false, .bool false, .bool false, .bool false, .bool false, .bool false, .bool false, .bool false, .bool false, .bool false, .bool false, .bool false, .bool false, .bool false, .bool false, .bool false, .bool false, .bool false, .bool false, .bool false, .bool false, .bool false, .bool false, .bool false, .bool false, .bool false, .bool false, .bool false] 0 l9))
 (cond ((AV.pureL (List.take 128 (List.drop 0 (splice [.bool false, .bool false, .bool false, .bool false, .bool false, .bool false, .bool false, .bool false, .bool false, .bool false, .bool false, .bool false, .bool false, .bool false, .bool false, .bool false, .bool false, .bool false, .bool false, .bool false, .bool false, .bool false, .bool false, .bool false, .bool false, .bool false, .bool false, .bool false, .bool false, .bool false, .bool false, .bool false, .bool false, .bool false, .bool false, .bool false, .bool false, .bool false, .bool false, .bool false, .bool false, .bool false, .bool false, .bool false, .bool false, .bool false, .bool false, .bool false, .bool false, .bool false, .bool false, .bool false, .bool false, .bool false, .bool false, .bool false, .bool false, .bool false, .bool false, .bool false, .bool false, .bool false, .bool false, .bool false, .bool false, .bool false, .bool false, .bool false, .bool false, .bool false, .bool false, .bool false, .bool false, .bool false, .bool false, .bool false, .bool false, .bool false, .bool false, .bool false, .bool false, .bool false, .bool false, .bool false, .bool false, .bool false, .bool false, .bool false, .bool false, .bool false, .bool false, .bool false, .bool false, .bool false, .bool false, .bool false, .bool false, .bool false, .bool false, .bool false, .bool false, .bool false, .bool false, .bool false, .bool false, .bool false, .bool false, .bool false, .bool false, .bool false, .bool false, .bool false, .bool false, .bool false, .bool false, .bool false, .bool false, .bool false, .bool false, .bool false, .bool false, .bool false, .bool false, .bool false, .bool false, .bool false, .bool false, .bool false] 0 l9)))) && true)
 ((cp F_ref01_wide [.agg (List.take 128 (List.drop 0 (splice [.bool false, .bool false, .bool false, .bool false, .bool false, .bool false, .bool false, .bool false, .bool false, .bool false, .bool false, .bool false, .bool false, .bool false, .bool false, .bool false, .bool false, .bool false, .bool false, .bool false, .bool false, .bool false, .bool false, .bool false, .bool false, .bool false, .bool false, .bool false, .bool false, .bool false, .bool false, .bool false, .bool false, .bool false, .bool false, .bool false, .bool false, .bool false, .bool false, .bool false, .bool false, .bool false, .bool false, .bool false, .bool false, .bool false, .bool false, .bool false, .bool false, .bool false, .bool false, .bool false, .bool false, .bool false, .bool false, .bool false, .bool false, .bool false, .bool false, .bool false, .bool false, .bool false, .bool false, .bool false, .bool false, .bool false, .bool false, .bool false, .bool false, .bool false, .bool false, .bool false, .bool false, .bool false, .bool false, .bool false, .bool false, .bool false, .bool false, .bool false, .bool false, .bool false, .bool false, .bool false, .bool false, .bool false, .bool false, .bool false, .bool false, .bool false, .bool false, .bool false, .bool false, .bool false, .bool false, .bool false, .bool false, .bool false, .bool false, .bool false, .bool false, .bool false, .bool false, .bool false, .bool false, .bool false, .bool false, .bool false, .bool false, .bool false, .bool false, .bool false, .bool false, .bool false, .bool false, .bool false, .bool false, .bool false, .bool false, .bool false, .bool false, .bool false, .bool false, .bool false, .bool false, .bool false, .bool false, .bool false] 0 l9)))]).bind fun r13 =>
 (AV.aggK r13 fun l14 =>
 (consK l14 fun v15 l16 =>
 (AV.intK .u64 v15 fun i17 =>
 (consK l16 fun v18 l19 =>
 (AV.intK .u64 v18 fun i20 =>
 (nilK l19
 (some (.tup [.agg [.int .u64 i17, .int .u64 i20], .bool b12])))))))))
 none)
 none)
 none)
 none))))))))
 none)))))
theorem eq_ref01_Add (n : Nat) (a0_0 : Int) (a0_1 : Int) (a1_0 : Int) (a1_1 : Int) : CP C (n + 1) F_ref01_Add [.agg [.int .u64 a0_0, .int .u64 a0_1], .agg [.int .u64 a1_0, .int .u64 a1_1]] = R_ref01_Add (CP C n) n a0_0 a0_1 a1_0 a1_1 := by kernel_rfl
-- ref01_turned
def S_ref01_turned_52 (x0 : Int) (l1 : List AV) : St := ⟨[.junk, .ptr (some (0, 0)), .ptr (some (1, 0)), .int .i64 x0, .junk, .junk, .junk, .junk, .junk, .junk, .junk, .junk, .junk, .junk, .junk], [.cells 54 l1, .cells 54 [.bool false, .bool false, .bool false, .bool false, .bool false, .bool false, .bool false, .bool false, .bool false, .bool false, .bool false, .bool false, .bool false, .bool false, .bool false, .bool false, .bool false, .bool false, .bool false, .bool false, .bool false, .bool false, .bool false, .bool false, .bool false, .bool false, .bool false, .bool false, .bool false, .bool false, .bool false, .bool false, .bool false, .bool false, .bool false, .bool false, .bool false, .bool false, .bool false, .bool false, .bool false, .bool false, .bool false, .bool false, .bool false, .bool false, .bool false, .bool false, .bool false, .bool false, .bool false, .bool false, .bool false, .bool false, .bool false, .bool false, .bool false, .bool false, .bool false, .bool false, .bool false, .bool false, .bool false, .bool false, .bool false, .bool false, .bool false, .bool false, .bool false, .bool false, .bool false, .bool false, .bool false, .bool false, .bool false, .bool false, .bool false, .bool false, .bool false, .bool false, .bool false, .bool false, .bool false, .bool false, .bool false, .bool false, .bool false, .bool false, .bool false, .bool false, .bool false, .bool false, .bool false, .bool false, .bool false, .bool false, .bool false, .bool false, .bool false, .bool false, .bool false, .bool false, .bool false, .bool false, .bool false, .bool false, .bool false, .bool false, .bool false, .bool false, .bool false, .bool false, .bool false, .bool false, .bool false, .bool false, .bool false, .bool false, .bool false, .bool false, .bool false, .bool false, .bool false, .bool false, .bool false, .bool false, .bool false, .bool false]]⟩
def T_ref01_turned_52 (cp : FuncId → List AV → Option AV) (x0 : Int) (l1 : List AV) (r52 : Int → List AV → Option AV) : Option AV :=
 (cond (decide (x0 < 128))
 (cond ((decide (0 ≤ x0)) && (decide (x0 < 128)))
 (cond (fits (0 + ((Int.toNat x0) * 1)) 1 l1)
 (unK .not (nth l1 (0 + ((Int.toNat x0) * 1))) fun v1 =>
 (cond ((decide (0 ≤ x0)) && (decide (x0 < 128)))
 (cond (lenIs (cellsOf v1) 1)
 (cond (cellsOk (cellsOf v1))
 (cond (fits (0 + ((Int.toNat x0) * 1)) 1 l1)
 (r52 (IntKind.i64.wrap (x0 + 1)) (splice l1 (0 + ((Int.toNat x0) * 1)) (cellsOf v1)))
 none)
 none)
 none)
 none))
 none)
 none)
 (cond (fits 0 128 l1)
 (cond (lenIs (List.take 128 (List.drop 0 l1)) 128)
 (cond (cellsOk (List.take 128 (List.drop 0 l1)))
 (cond (fits 0 128 (splice [.bool false, .bool false, .bool false, .bool false, .bool false, .bool false, .bool false, .bool false, .bool false, .bool false, .bool false, .bool false, .bool false, .bool false, .bool false, .bool false, .bool false, .bool false, .bool false, .bool false, .bool false, .bool false, .bool false, .bool false, .bool false, .bool false, .bool false, .bool false, .bool false, .bool false, .bool false, .bool false, .bool false, .bool false, .bool false, .bool false, .bool false, .bool false, .bool false, .bool false, .bool false, .bool false, .bool false, .bool false, .bool false, .bool false, .bool false, .bool false, .bool false, .bool false, .bool false, .bool false, .bool false, .bool false, .bool false, .bool false, .bool false, .bool false, .bool false, .bool false, .bool false, .bool false, .bool false, .bool false, .bool false, .bool false, .bool false, .bool false, .bool false, .bool false, .bool false, .bool false, .bool false, .bool false, .bool false, .bool false, .bool false, .bool false, .bool false, .bool false, .bool false, .bool false, .bool false, .bool false, .bool false, .bool false, .bool false, .bool false, .bool false, .bool false, .bool false, .bool false, .bool false, .bool false, .bool false, .bool false, .bool false, .bool false, .bool false, .bool false, .bool false, .bool false, .bool false, .bool false, .bool false, .bool false, .bool false, .bool false, .bool false, .bool false, .bool false, .bool false, .bool false, .bool false, .bool false, .bool false, .bool false, .bool false, .bool false, .bool false, .bool false, .bool false, .bool false, .bool false, .bool false, .bool false, .bool false, .bool false] 0 (List.take 128 (List.drop 0 l1))))
 (cond (AV.pureL (List.take 128 (List.drop 0 (splice [.bool false, .bool false, .bool false, .bool false, .bool false, .bool false, .bool false, .bool false, .bool false, .bool false, .bool false, .bool false, .bool false, .bool false, .bool false, .bool false, .bool false, .bool false, .bool false, .bool false, .bool false, .bool false, .bool false, .bool false, .bool false, .bool false, .bool false, .bool false, .bool false, .bool false, .bool false, .bool false, .bool false, .bool false, .bool false, .bool false, .bool false, .bool false, .bool false, .bool false, .bool false, .bool false, .bool false, .bool false, .bool false, .bool false, .bool false, .bool false, .bool false, .bool false, .bool false, .bool false, .bool false, .bool false, .bool false, .bool false, .bool false, .bool false, .bool false, .bool false, .bool false, .bool false, .bool false, .bool false, .bool false, .bool false, .bool false, .bool false, .bool false, .bool false, .bool false, .bool false, .bool false, .bool false, .bool false, .bool false, .bool false, .bool false, .bool false, .bool false, .bool false, .bool false, .bool false, .bool false, .bool false, .bool false, .bool false, .bool false, .bool false, .bool false, .bool false, .bool false, .bool false, .bool false, .bool false, .bool false, .bool false, .bool false, .bool false, .bool false, .bool false, .bool false, .bool false, .bool false, .bool false, .bool false, .bool false, .bool false, .bool false, .bool false, .bool false, .bool false, .bool false, .bool false, .bool false, .bool false, .bool false, .bool false, .bool false, .bool false, .bool false, .bool false, .bool false, .bool false, .bool false, .bool false, .bool false, .bool false] 0 (List.take 128 (List.drop 0 l1))))))
 (some (.agg (List.take 128 (List.drop 0 (splice [.bool false, .bool false, .bool false, .bool false, .bool false, .bool false, .bool false, .bool false, .bool false, .bool false, .bool false, .bool false, .bool false, .bool false, .bool false, .bool false, .bool false, .bool false, .bool false, .bool false, .bool false, .bool false, .bool false, .bool false, .bool false, .bool false, .bool false, .bool false, .bool false, .bool false, .bool false, .bool false, .bool false, .bool false, .bool false, .bool false, .bool false, .bool false, .bool false, .bool false, .bool false, .bool false, .bool false, .bool false, .bool false, .bool false, .bool false, .bool false, .bool false, .bool false, .bool false, .bool false, .bool false, .bool false, .bool false, .bool false, .bool false, .bool false, .bool false, .bool false, .bool false, .bool false, .bool false, .bool false, .bool false, .bool false, .bool false, .bool false, .bool false, .bool false, .bool false, .bool false, .bool false, .bool false, .bool false, .bool false, .bool false, .bool false, .bool false, .bool false, .bool false, .bool false, .bool false, .bool false, .bool false, .bool false, .bool false, .bool false, .bool false, .bool false, .bool false, .bool false, .bool false, .bool false, .bool false, .bool false, .bool false, .bool false, .bool false, .bool false, .bool false, .bool false, .bool false, .bool false, .bool false, .bool false, .bool false, .bool false, .bool false, .bool false, .bool false, .bool false, .bool false, .bool false, .bool false, .bool false, .bool false, .bool false, .bool false, .bool false, .bool false, .bool false, .bool false, .bool false, .bool false, .bool false, .bool false, .bool false] 0 (List.take 128 (List.drop 0 l1)))))))
 none)
 none)
 none)
 none)
 none))
theorem K_ref01_turned_52 (j : Jump) (n : Nat) (m52 : Nat) (x0 : Int) (l1 : List AV) : enter (topEnv C (CP C n) n F_ref01_turned) (some j) (bodyOf C.P F_ref01_turned) (endOf C.P F_ref01_turned) [false, false, true, false, true] [(m52 + 1)] (S_ref01_turned_52 x0 l1) = T_ref01_turned_52 (CP C n) x0 l1 (fun x0 l1 => j [false, false, true, false, true] [m52] (S_ref01_turned_52 x0 l1)) := by kernel_rfl
def J_ref01_turned_52 (cp : FuncId → List AV → Option AV) (n : Nat) : Nat → Int → List AV → Option AV
  | 0 => (fun x0 l1 => none)
  | m + 1 => (fun x0 l1 => T_ref01_turned_52 cp x0 l1 (J_ref01_turned_52 cp n m))
theorem Js_ref01_turned_52 (cp : FuncId → List AV → Option AV) (n : Nat) (m : Nat) (x0 : Int) (l1 : List AV) : J_ref01_turned_52 cp n (m + 1) x0 l1 = T_ref01_turned_52 cp x0 l1 (J_ref01_turned_52 cp n m) := of_eq_true (eq_self _)
theorem JE_ref01_turned_52 (n : Nat) : ∀ (m : Nat) (x0 : Int) (l1 : List AV), jT (topEnv C (CP C n) n F_ref01_turned) (bodyOf C.P F_ref01_turned) (endOf C.P F_ref01_turned) [false, false, true, false, true] [m] (S_ref01_turned_52 x0 l1) = J_ref01_turned_52 (CP C n) n m x0 l1
  | 0, x0, l1 => (jT_eq _ _ _ _ _ _).trans (by kernel_rfl)
  | m + 1, x0, l1 => (jT_eq _ _ _ _ _ _).trans ((K_ref01_turned_52 _ n m x0 l1).trans (congrArg (T_ref01_turned_52 (CP C n) x0 l1) (funext fun x0 => (funext fun l1 => (JE_ref01_turned_52 n m) x0 l1))))
def T_ref01_turned_1 (cp : FuncId → List AV → Option AV) (a0 : List AV) (j52 : Int → List AV → Option AV) : Option AV :=
 (j52 0 a0)
theorem K_ref01_turned_1 (j : Jump) (n : Nat) (a0 : List AV) : ex (topEnv C (CP C n) n F_ref01_turned) (some j) (bodyOf C.P F_ref01_turned) 1 [] [] (endOf C.P F_ref01_turned) (startOf C.P F_ref01_turned [.agg a0]) = T_ref01_turned_1 (CP C n) a0 (fun x0 l1 => j [false, false, true, false, true] [(n + 300)] (S_ref01_turned_52 x0 l1)) := by kernel_rfl
def R_ref01_turned (cp : FuncId → List AV → Option AV) (n : Nat) (a0 : List AV) : Option AV := T_ref01_turned_1 cp a0 (J_ref01_turned_52 cp n (n + 300))
theorem eq_ref01_turned (n : Nat) (a0 : List AV) : CP C (n + 1) F_ref01_turned [.agg a0] = cond (AV.pureL [.agg a0]) (R_ref01_turned (CP C n) n a0) none :=
  (CP_run C n F_ref01_turned _ (by kernel_rfl)).trans (congrArg (fun x => cond (AV.pureL [.agg a0]) x none) ((K_ref01_turned_1 _ n a0).trans (congrArg (T_ref01_turned_1 (CP C n) a0) (funext fun x0 => (funext fun l1 => (JE_ref01_turned_52 n (n + 300)) x0 l1)))))
-- ref01_Sub
def R_ref01_Sub (cp : FuncId → List AV → Option AV) (_n : Nat) (a0_0 : Int) (a0_1 : Int) (a1_0 : Int) (a1_1 : Int) : Option AV :=
 ((cp F_ref01_bits [.agg [.int .u64 a0_0, .int .u64 a0_1]]).bind fun r1 =>
 (AV.aggK r1 fun l2 =>
 ((cp F_ref01_bits [.agg [.int .u64 a1_0, .int .u64 a1_1]]).bind fun r3 =>
 (AV.aggK r3 fun l4 =>
 (cond ((AV.pureL l4) && true)
 ((cp F_ref01_turned [.agg l4]).bind fun r5 =>
 (AV.aggK r5 fun l6 =>
 (cond ((AV.pureL l2) && ((AV.pureL l6) && true))
 ((cp F_ref01_sum [.agg l2, .agg l6, .bool true]).bind fun r7 =>
 (AV.tupK r7 fun l8 =>
 (consK l8 fun v9 l10 =>
 (AV.aggK v9 fun l11 =>
 (consK l10 fun v12 l13 =>
 (AV.boolK v12 fun b14 =>
 (nilK l13
 (cond (lenIs l11 128)
 (cond (cellsOk l11)
 (cond (fits 0 128 (splice [.bool false, .bool false, .bool false, .bool false, .bool false, .bool false, .bool false, .bool false, .bool false, .bool false, .bool false, .bool false, .bool false, .bool false, .bool false, .bool false, .bool false, .bool false, .bool false, .bool false, .bool false, .bool false, .bool false, .bool false, .bool false, .bool false, .bool false, .bool false, .bool false, .bool false, .bool false, .bool false, .bool false, .bool false, .bool false, .bool false, .bool false, .bool false, .bool false, .bool false, .bool false, .bool false, .bool false, .bool false, .bool false, .bool false, .bool false, .bool false, .bool false, .bool false, .bool false, .bool false, .bool false, .bool false, .bool false, .bool false, .bool false, .bool false, .bool false, .bool false, .bool false, .bool false, .bool false, .bool false, .bool false, .bool false, .bool false, .bool false, .bool false, .bool false, .bool false, .bool false, .bool false, .bool false, .bool false, .bool false, .bool false, .bool false, .bool false, .bool false, .bool false, .bool false, .bool false, .bool false, .bool false, .bool false, .bool false, .bool false, .bool false, .bool false, .bool false, .bool false, .bool false, .bool false, .bool false, .bool false, .bool false, .bool false, .bool false, .bool false, .bool false, .bool false, .bool false, .bool false, .bool false, .bool false, .bool false, .bool false, .bool false, .bool false, .bool false, .bool false, .bool false, .bool false, .bool false, .bool false, .bool false, .bool false, .bool false, .bool false, .bool false, .bool false, .bool false, .bool false, .bool false, .bool false, .bool false, .bool false] 0 l11))
 (cond ((AV.pureL (List.take 128 (List.drop 0 (splice [.bool false, .bool false, .bool false, .bool false, .bool false, .bool false, .bool false, .bool false, .bool false, .bool false, .bool false, .bool false, .bool false, .bool false, .bool false, .bool false, .bool false, .bool false, .bool false, .bool false, .bool false, .bool false, .bool false, .bool false, .bool false, .bool false, .bool false, .bool false, .bool false, .bool false, .bool false, .bool false, .bool false, .bool false, .bool false, .bool false, .bool false, .bool false, .bool false, .bool false, .bool false, .bool false, .bool false, .bool false, .bool false, .bool false, .bool false, .bool false, .bool false, .bool false, .bool false, .bool false, .bool false, .bool false, .bool false, .bool false, .bool false, .bool false, .bool false, .bool false, .bool false, .bool false, .bool false, .bool false, .bool false, .bool false, .bool false, .bool false, .bool false, .bool false, .bool false, .bool false, .bool false, .bool false, .bool false, .bool false, .bool false, .bool false, .bool false, .bool false, .bool false, .bool false, .bool false, .bool false, .bool false, .bool false, .bool false, .bool false, .bool false, .bool false, .bool false, .bool false, .bool false, .bool false, .bool false, .bool false, .bool false, .bool false, .bool false, .bool false, .bool false, .bool false, .bool false, .bool false, .bool false, .bool false, .bool false, .bool false, .bool false, .bool false, .bool false, .bool false, .bool false, .bool false, .bool false, .bool false, .bool false, .bool false, .bool false, .bool false, .bool false, .bool false, .bool false, .bool false, .bool false, .bool false, .bool false, .bool false] 0 l11)))) && true)
 ((cp F_ref01_wide [.agg (List.take 128 (List.drop 0 (splice [.bool false, .bool false, .bool false, .bool false, .bool false, .bool false, .bool false, .bool false, .bool false, .bool false, .bool false, .bool false, .bool false, .bool false, .bool false, .bool false, .bool false, .bool false, .bool false, .bool false, .bool false, .bool false, .bool false, .bool false, .bool false, .bool false, .bool false, .bool false, .bool false, .bool false, .bool false, .bool false, .bool false, .bool false, .bool false, .bool false, .bool false, .bool false, .bool false, .bool false, .bool false, .bool false, .bool false, .bool false, .bool false, .bool false, .bool false, .bool false, .bool false, .bool false, .bool false, .bool false, .bool false, .bool false, .bool false, .bool false, .bool false, .bool false, .bool false, .bool false, .bool false, .bool false, .bool false, .bool false, .bool false, .bool false, .bool false, .bool false, .bool false, .bool false, .bool false, .bool false, .bool false, .bool false, .bool false, .bool false, .bool false, .bool false, .bool false, .bool false, .bool false, .bool false, .bool false, .bool false, .bool false, .bool false, .bool false, .bool false, .bool false, .bool false, .bool false, .bool false, .bool false, .bool false, .bool false, .bool false, .bool false, .bool false, .bool false, .bool false, .bool false, .bool false, .bool false, .bool false, .bool false, .bool false, .bool false, .bool false, .bool false, .bool false, .bool false, .bool false, .bool false, .bool false, .bool false, .bool false, .bool false, .bool false, .bool false, .bool false, .bool false, .bool false, .bool false, .bool false, .bool false, .bool false, .bool false, .bool false] 0 l11)))]).bind fun r15 =>
 (AV.aggK r15 fun l16 =>
 (consK l16 fun v17 l18 =>
 (AV.intK .u64 v17 fun i19 =>
 (consK l18 fun v20 l21 =>
 (AV.intK .u64 v20 fun i22 =>
 (nilK l21
 (some (.tup [.agg [.int .u64 i19, .int .u64 i22], .bool (!b14)])))))))))
 none)
 none)
 none)
 none))))))))
 none)))
 none)))))
theorem eq_ref01_Sub (n : Nat) (a0_0 : Int) (a0_1 : Int) (a1_0 : Int) (a1_1 : Int) : CP C (n + 1) F_ref01_Sub [.agg [.int .u64 a0_0, .int .u64 a0_1], .agg [.int .u64 a1_0, .int .u64 a1_1]] = R_ref01_Sub (CP C n) n a0_0 a0_1 a1_0 a1_1 := by kernel_rfl
-- wide_Neg
def R_wide_Neg (cp : FuncId → List AV → Option AV) (_n : Nat) (a0_0 : Int) (a0_1 : Int) : Option AV :=
 ((cp F_wide_Sub [.agg [.int .u64 0, .int .u64 0], .agg [.int .u64 a0_0, .int .u64 a0_1]]).bind fun r1 =>
 (AV.tupK r1 fun l2 =>
 (consK l2 fun v3 l4 =>
 (AV.aggK v3 fun l5 =>
 (consK l5 fun v6 l7 =>
 (AV.intK .u64 v6 fun i8 =>
 (consK l7 fun v9 l10 =>
 (AV.intK .u64 v9 fun i11 =>
 (nilK l10
 (consK l4 fun v12 l13 =>
 (AV.boolK v12 fun b14 =>
 (nilK l13
 (some (.agg [.int .u64 i8, .int .u64 i11]))))))))))))))
theorem eq_wide_Neg (n : Nat) (a0_0 : Int) (a0_1 : Int) : CP C (n + 1) F_wide_Neg [.agg [.int .u64 a0_0, .int .u64 a0_1]] = R_wide_Neg (CP C n) n a0_0 a0_1 := by kernel_rfl
-- ref01_Neg
def R_ref01_Neg (cp : FuncId → List AV → Option AV) (_n : Nat) (a0_0 : Int) (a0_1 : Int) : Option AV :=
 ((cp F_ref01_Sub [.agg [.int .u64 0, .int .u64 0], .agg [.int .u64 a0_0, .int .u64 a0_1]]).bind fun r1 =>
 (AV.tupK r1 fun l2 =>
 (consK l2 fun v3 l4 =>
 (AV.aggK v3 fun l5 =>
 (consK l5 fun v6 l7 =>
 (AV.intK .u64 v6 fun i8 =>
 (consK l7 fun v9 l10 =>
 (AV.intK .u64 v9 fun i11 =>
 (nilK l10
 (consK l4 fun v12 l13 =>
 (AV.boolK v12 fun b14 =>
 (nilK l13
 (some (.agg [.int .u64 i8, .int .u64 i11]))))))))))))))
theorem eq_ref01_Neg (n : Nat) (a0_0 : Int) (a0_1 : Int) : CP C (n + 1) F_ref01_Neg [.agg [.int .u64 a0_0, .int .u64 a0_1]] = R_ref01_Neg (CP C n) n a0_0 a0_1 := by kernel_rfl
-- wide_Cmp
def R_wide_Cmp (cp : FuncId → List AV → Option AV) (_n : Nat) (a0_0 : Int) (a0_1 : Int) (a1_0 : Int) (a1_1 : Int) : Option AV :=
 (cond ((a0_0 == a1_0) && ((a0_1 == a1_1) && true))
 (some (.int .i64 0))
 ((cp F_wide_Sub [.agg [.int .u64 a0_0, .int .u64 a0_1], .agg [.int .u64 a1_0, .int .u64 a1_1]]).bind fun r1 =>
 (AV.tupK r1 fun l2 =>
 (consK l2 fun v3 l4 =>
 (AV.aggK v3 fun l5 =>
 (consK l5 fun v6 l7 =>
 (AV.intK .u64 v6 fun i8 =>
 (consK l7 fun v9 l10 =>
 (AV.intK .u64 v9 fun i11 =>
 (nilK l10
 (consK l4 fun v12 l13 =>
 (AV.boolK v12 fun b14 =>
 (nilK l13
 (cond b14
 (some (.int .i64 (-1)))
 (some (.int .i64 1))))))))))))))))
theorem eq_wide_Cmp (n : Nat) (a0_0 : Int) (a0_1 : Int) (a1_0 : Int) (a1_1 : Int) : CP C (n + 1) F_wide_Cmp [.agg [.int .u64 a0_0, .int .u64 a0_1], .agg [.int .u64 a1_0, .int .u64 a1_1]] = R_wide_Cmp (CP C n) n a0_0 a0_1 a1_0 a1_1 := by kernel_rfl
-- ref01_Cmp
def R_ref01_Cmp (cp : FuncId → List AV → Option AV) (_n : Nat) (a0_0 : Int) (a0_1 : Int) (a1_0 : Int) (a1_1 : Int) : Option AV :=
 (cond ((a0_0 == a1_0) && ((a0_1 == a1_1) && true))
 (some (.int .i64 0))
 (cond (decide (a0_0 < a1_0))
 (some (.int .i64 (-1)))
 (cond (a0_0 == a1_0)
 (cond (decide (a0_1 < a1_1))
 (some (.int .i64 (-1)))
 (some (.int .i64 1)))
 (some (.int .i64 1)))))
theorem eq_ref01_Cmp (n : Nat) (a0_0 : Int) (a0_1 : Int) (a1_0 : Int) (a1_1 : Int) : CP C (n + 1) F_ref01_Cmp [.agg [.int .u64 a0_0, .int .u64 a0_1], .agg [.int .u64 a1_0, .int .u64 a1_1]] = R_ref01_Cmp (CP C n) n a0_0 a0_1 a1_0 a1_1 := by kernel_rfl
-- wide_Signed
def R_wide_Signed (cp : FuncId → List AV → Option AV) (_n : Nat) (a0_0 : Int) (a0_1 : Int) (a1_0 : Int) (a1_1 : Int) : Option AV :=
 (bnd (IntKind.u64.wrap ((BitVec.ofInt 64 a0_0 ^^^ BitVec.ofInt 64 9223372036854775808).toNat : Int)) fun y1 =>
 (bnd (IntKind.u64.wrap ((BitVec.ofInt 64 a1_0 ^^^ BitVec.ofInt 64 9223372036854775808).toNat : Int)) fun y2 =>
 ((cp F_wide_Cmp [.agg [.int .u64 y1, .int .u64 a0_1], .agg [.int .u64 y2, .int .u64 a1_1]]).bind fun r3 =>
 (AV.intK .i64 r3 fun i4 =>
 (some (.int .i64 i4))))))
theorem eq_wide_Signed (n : Nat) (a0_0 : Int) (a0_1 : Int) (a1_0 : Int) (a1_1 : Int) : CP C (n + 1) F_wide_Signed [.agg [.int .u64 a0_0, .int .u64 a0_1], .agg [.int .u64 a1_0, .int .u64 a1_1]] = R_wide_Signed (CP C n) n a0_0 a0_1 a1_0 a1_1 := by kernel_rfl
-- ref01_Below
def R_ref01_Below (cp : FuncId → List AV → Option AV) (_n : Nat) (a0_0 : Int) (a0_1 : Int) : Option AV :=
 (some (.bool (decide (a0_0 ≥ 9223372036854775808))))
theorem eq_ref01_Below (n : Nat) (a0_0 : Int) (a0_1 : Int) : CP C (n + 1) F_ref01_Below [.agg [.int .u64 a0_0, .int .u64 a0_1]] = R_ref01_Below (CP C n) n a0_0 a0_1 := by kernel_rfl
-- ref01_Signed
def R_ref01_Signed (cp : FuncId → List AV → Option AV) (_n : Nat) (a0_0 : Int) (a0_1 : Int) (a1_0 : Int) (a1_1 : Int) : Option AV :=
 ((cp F_ref01_Below [.agg [.int .u64 a0_0, .int .u64 a0_1]]).bind fun r1 =>
 (AV.boolK r1 fun b2 =>
 ((cp F_ref01_Below [.agg [.int .u64 a1_0, .int .u64 a1_1]]).bind fun r3 =>
 (AV.boolK r3 fun b4 =>
 (cond (!(b2 == b4))
 ((cp F_ref01_Below [.agg [.int .u64 a0_0, .int .u64 a0_1]]).bind fun r5 =>
 (AV.boolK r5 fun b6 =>
 (cond b6
 (some (.int .i64 (-1)))
 (some (.int .i64 1)))))
 ((cp F_ref01_Cmp [.agg [.int .u64 a0_0, .int .u64 a0_1], .agg [.int .u64 a1_0, .int .u64 a1_1]]).bind fun r7 =>
 (AV.intK .i64 r7 fun i8 =>
 (some (.int .i64 i8)))))))))
theorem eq_ref01_Signed (n : Nat) (a0_0 : Int) (a0_1 : Int) (a1_0 : Int) (a1_1 : Int) : CP C (n + 1) F_ref01_Signed [.agg [.int .u64 a0_0, .int .u64 a0_1], .agg [.int .u64 a1_0, .int .u64 a1_1]] = R_ref01_Signed (CP C n) n a0_0 a0_1 a1_0 a1_1 := by kernel_rfl
-- law01_WideSums
def R_law01_WideSums (cp : FuncId → List AV → Option AV) (_n : Nat) (a0_0 : Int) (a0_1 : Int) (a1_0 : Int) (a1_1 : Int) : Option AV :=
 ((cp F_wide_Add [.agg [.int .u64 a0_0, .int .u64 a0_1], .agg [.int .u64 a1_0, .int .u64 a1_1]]).bind fun r1 =>
 (AV.tupK r1 fun l2 =>
 (consK l2 fun v3 l4 =>
 (AV.aggK v3 fun l5 =>
 (consK l5 fun v6 l7 =>
 (AV.intK .u64 v6 fun i8 =>
 (consK l7 fun v9 l10 =>
 (AV.intK .u64 v9 fun i11 =>
 (nilK l10
 (consK l4 fun v12 l13 =>
 (AV.boolK v12 fun b14 =>
 (nilK l13
 ((cp F_ref01_Add [.agg [.int .u64 a0_0, .int .u64 a0_1], .agg [.int .u64 a1_0, .int .u64 a1_1]]).bind fun r15 =>
 (AV.tupK r15 fun l16 =>
 (consK l16 fun v17 l18 =>
 (AV.aggK v17 fun l19 =>
 (consK l19 fun v20 l21 =>
 (AV.intK .u64 v20 fun i22 =>
 (consK l21 fun v23 l24 =>
 (AV.intK .u64 v23 fun i25 =>
 (nilK l24
 (consK l18 fun v26 l27 =>
 (AV.boolK v26 fun b28 =>
 (nilK l27
 ((cp F_wide_Sub [.agg [.int .u64 a0_0, .int .u64 a0_1], .agg [.int .u64 a1_0, .int .u64 a1_1]]).bind fun r29 =>
 (AV.tupK r29 fun l30 =>
 (consK l30 fun v31 l32 =>
 (AV.aggK v31 fun l33 =>
 (consK l33 fun v34 l35 =>
 (AV.intK .u64 v34 fun i36 =>
 (consK l35 fun v37 l38 =>
 (AV.intK .u64 v37 fun i39 =>
 (nilK l38
 (consK l32 fun v40 l41 =>
 (AV.boolK v40 fun b42 =>
 (nilK l41
 ((cp F_ref01_Sub [.agg [.int .u64 a0_0, .int .u64 a0_1], .agg [.int .u64 a1_0, .int .u64 a1_1]]).bind fun r43 =>
 (AV.tupK r43 fun l44 =>
 (consK l44 fun v45 l46 =>
 (AV.aggK v45 fun l47 =>
 (consK l47 fun v48 l49 =>
 (AV.intK .u64 v48 fun i50 =>
 (consK l49 fun v51 l52 =>
 (AV.intK .u64 v51 fun i53 =>
 (nilK l52
 (consK l46 fun v54 l55 =>
 (AV.boolK v54 fun b56 =>
 (nilK l55
 (cond ((i8 == i22) && ((i11 == i25) && true))
 (cond (b14 == b28)
 (cond ((i36 == i50) && ((i39 == i53) && true))
 (cond (b42 == b56)
 ((cp F_wide_Neg [.agg [.int .u64 a0_0, .int .u64 a0_1]]).bind fun r57 =>
 (AV.aggK r57 fun l58 =>
 (consK l58 fun v59 l60 =>
 (AV.intK .u64 v59 fun i61 =>
 (consK l60 fun v62 l63 =>
 (AV.intK .u64 v62 fun i64 =>
 (nilK l63
 ((cp F_ref01_Neg [.agg [.int .u64 a0_0, .int .u64 a0_1]]).bind fun r65 =>
 (AV.aggK r65 fun l66 =>
 (consK l66 fun v67 l68 =>
 (AV.intK .u64 v67 fun i69 =>
 (consK l68 fun v70 l71 =>
 (AV.intK .u64 v70 fun i72 =>
 (nilK l71
 (cond ((i61 == i69) && ((i64 == i72) && true))
 ((cp F_wide_Cmp [.agg [.int .u64 a0_0, .int .u64 a0_1], .agg [.int .u64 a1_0, .int .u64 a1_1]]).bind fun r73 =>
 (AV.intK .i64 r73 fun i74 =>
 ((cp F_ref01_Cmp [.agg [.int .u64 a0_0, .int .u64 a0_1], .agg [.int .u64 a1_0, .int .u64 a1_1]]).bind fun r75 =>
 (AV.intK .i64 r75 fun i76 =>
 (cond (i74 == i76)
 ((cp F_wide_Signed [.agg [.int .u64 a0_0, .int .u64 a0_1], .agg [.int .u64 a1_0, .int .u64 a1_1]]).bind fun r77 =>
 (AV.intK .i64 r77 fun i78 =>
 ((cp F_ref01_Signed [.agg [.int .u64 a0_0, .int .u64 a0_1], .agg [.int .u64 a1_0, .int .u64 a1_1]]).bind fun r79 =>
 (AV.intK .i64 r79 fun i80 =>
 (cond (i78 == i80)
 ((cp F_law01_awake []).bind fun r81 =>
 (AV.boolK r81 fun b82 =>
 (some (.bool b82))))
 (some (.bool false)))))))
 (some (.bool false)))))))
 (some (.bool false)))))))))))))))))
 (some (.bool false)))
 (some (.bool false)))
 (some (.bool false)))
 (some (.bool false)))))))))))))))))))))))))))))))))))))))))))))))))))
theorem eq_law01_WideSums (n : Nat) (a0_0 : Int) (a0_1 : Int) (a1_0 : Int) (a1_1 : Int) : CP C (n + 1) F_law01_WideSums [.agg [.int .u64 a0_0, .int .u64 a0_1], .agg [.int .u64 a1_0, .int .u64 a1_1]] = R_law01_WideSums (CP C n) n a0_0 a0_1 a1_0 a1_1 := by kernel_rfl
-- wide_Of
def R_wide_Of (cp : FuncId → List AV → Option AV) (_n : Nat) (a0 : Int) : Option AV :=
 (some (.agg [.int .u64 (IntKind.u64.wrap (Int.fdiv a0 9223372036854775808)), .int .u64 (IntKind.u64.wrap a0)]))
theorem eq_wide_Of (n : Nat) (a0 : Int) : CP C (n + 1) F_wide_Of [.int .i64 a0] = R_wide_Of (CP C n) n a0 := by kernel_rfl
-- wide_Int
def R_wide_Int (cp : FuncId → List AV → Option AV) (_n : Nat) (a0_0 : Int) (a0_1 : Int) : Option AV :=
 ((cp F_wide_Of [.int .i64 (IntKind.i64.wrap a0_1)]).bind fun r1 =>
 (AV.aggK r1 fun l2 =>
 (consK l2 fun v3 l4 =>
 (AV.intK .u64 v3 fun i5 =>
 (consK l4 fun v6 l7 =>
 (AV.intK .u64 v6 fun i8 =>
 (nilK l7
 (cond (!((i5 == a0_0) && ((i8 == a0_1) && true)))
 (some (.tup [.int .i64 0, .int .i64 8]))
 (some (.tup [.int .i64 (IntKind.i64.wrap a0_1), .int .i64 0]))))))))))
theorem eq_wide_Int (n : Nat) (a0_0 : Int) (a0_1 : Int) : CP C (n + 1) F_wide_Int [.agg [.int .u64 a0_0, .int .u64 a0_1]] = R_wide_Int (CP C n) n a0_0 a0_1 := by kernel_rfl
-- ref01_Of
def R_ref01_Of (cp : FuncId → List AV → Option AV) (_n : Nat) (a0 : Int) : Option AV :=
 (cond (decide (a0 < 0))
 (some (.agg [.int .u64 18446744073709551615, .int .u64 (IntKind.u64.wrap a0)]))
 (some (.agg [.int .u64 0, .int .u64 (IntKind.u64.wrap a0)])))
theorem eq_ref01_Of (n : Nat) (a0 : Int) : CP C (n + 1) F_ref01_Of [.int .i64 a0] = R_ref01_Of (CP C n) n a0 := by kernel_rfl
-- ref01_Int
def R_ref01_Int (cp : FuncId → List AV → Option AV) (_n : Nat) (a0_0 : Int) (a0_1 : Int) : Option AV :=
 ((cp F_ref01_Of [.int .i64 (IntKind.i64.wrap a0_1)]).bind fun r1 =>
 (AV.aggK r1 fun l2 =>
 (consK l2 fun v3 l4 =>
 (AV.intK .u64 v3 fun i5 =>
 (consK l4 fun v6 l7 =>
 (AV.intK .u64 v6 fun i8 =>
 (nilK l7
 (cond (!((i5 == a0_0) && ((i8 == a0_1) && true)))
 (some (.tup [.int .i64 0, .int .i64 8]))
 (some (.tup [.int .i64 (IntKind.i64.wrap a0_1), .int .i64 0]))))))))))
theorem eq_ref01_Int (n : Nat) (a0_0 : Int) (a0_1 : Int) : CP C (n + 1) F_ref01_Int [.agg [.int .u64 a0_0, .int .u64 a0_1]] = R_ref01_Int (CP C n) n a0_0 a0_1 := by kernel_rfl
-- law01_WideInts
def R_law01_WideInts (cp : FuncId → List AV → Option AV) (_n : Nat) (a0 : Int) (a1_0 : Int) (a1_1 : Int) : Option AV :=
 ((cp F_wide_Of [.int .i64 a0]).bind fun r1 =>
 (AV.aggK r1 fun l2 =>
 (consK l2 fun v3 l4 =>
 (AV.intK .u64 v3 fun i5 =>
 (consK l4 fun v6 l7 =>
 (AV.intK .u64 v6 fun i8 =>
 (nilK l7
 ((cp F_wide_Int [.agg [.int .u64 i5, .int .u64 i8]]).bind fun r9 =>
 (AV.tupK r9 fun l10 =>
 (consK l10 fun v11 l12 =>
 (AV.intK .i64 v11 fun i13 =>
 (consK l12 fun v14 l15 =>
 (AV.intK .i64 v14 fun i16 =>
 (nilK l15
 ((cp F_wide_Int [.agg [.int .u64 a1_0, .int .u64 a1_1]]).bind fun r17 =>
 (AV.tupK r17 fun l18 =>
 (consK l18 fun v19 l20 =>
 (AV.intK .i64 v19 fun i21 =>
 (consK l20 fun v22 l23 =>
 (AV.intK .i64 v22 fun i24 =>
 (nilK l23
 ((cp F_ref01_Int [.agg [.int .u64 a1_0, .int .u64 a1_1]]).bind fun r25 =>
 (AV.tupK r25 fun l26 =>
 (consK l26 fun v27 l28 =>
 (AV.intK .i64 v27 fun i29 =>
 (consK l28 fun v30 l31 =>
 (AV.intK .i64 v30 fun i32 =>
 (nilK l31
 (cond (i13 == a0)
 (cond (i16 == 0)
 ((cp F_wide_Of [.int .i64 a0]).bind fun r33 =>
 (AV.aggK r33 fun l34 =>
 (consK l34 fun v35 l36 =>
 (AV.intK .u64 v35 fun i37 =>
 (consK l36 fun v38 l39 =>
 (AV.intK .u64 v38 fun i40 =>
 (nilK l39
 ((cp F_ref01_Of [.int .i64 a0]).bind fun r41 =>
 (AV.aggK r41 fun l42 =>
 (consK l42 fun v43 l44 =>
 (AV.intK .u64 v43 fun i45 =>
 (consK l44 fun v46 l47 =>
 (AV.intK .u64 v46 fun i48 =>
 (nilK l47
 (cond ((i37 == i45) && ((i40 == i48) && true))
 (cond (i21 == i29)
 (cond (i24 == i32)
 ((cp F_law01_awake []).bind fun r49 =>
 (AV.boolK r49 fun b50 =>
 (some (.bool b50))))
 (some (.bool false)))
 (some (.bool false)))
 (some (.bool false)))))))))))))))))
 (some (.bool false)))
 (some (.bool false)))))))))))))))))))))))))))))))
theorem eq_law01_WideInts (n : Nat) (a0 : Int) (a1_0 : Int) (a1_1 : Int) : CP C (n + 1) F_law01_WideInts [.int .i64 a0, .agg [.int .u64 a1_0, .int .u64 a1_1]] = R_law01_WideInts (CP C n) n a0 a1_0 a1_1 := by kernel_rfl
end Go.Proofs.YtbikcndldcfffaaDoor.Sim.S
