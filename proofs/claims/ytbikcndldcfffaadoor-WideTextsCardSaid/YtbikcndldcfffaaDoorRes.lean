/- What each function of the program answers, as a plain function, printed by a program of ours. Condition: none beyond what each theorem says. -/

import Derived.Test.YtbikcndldcfffaaDoorCfg
set_option maxRecDepth 100000
set_option linter.unusedVariables false
open Go Go.Proofs.YtbikcndldcfffaaDoor.Sim Go.Proofs
namespace Go.Proofs.YtbikcndldcfffaaDoor.Sim.S
-- wide_Add
def R_wide_Add (cp : FuncId → List AV → Option AV) (_n : Nat) (a0_0 : Int) (a0_1 : Int) (a1_0 : Int) (a1_1 : Int) : Option AV :=
 (bnd (((((Int.toNat a0_1) + (Int.toNat a1_1) + 0) % 18446744073709551616 : Nat)) : Int) fun y_1 =>
 (bnd (((((Int.toNat a0_1) + (Int.toNat a1_1) + 0) / 18446744073709551616 : Nat)) : Int) fun y_2 =>
 (cond (decide ((Int.toNat y_2) ≤ 1))
 (bnd (((((Int.toNat a0_0) + (Int.toNat a1_0) + (Int.toNat y_2)) % 18446744073709551616 : Nat)) : Int) fun y_3 =>
 (bnd (((((Int.toNat a0_0) + (Int.toNat a1_0) + (Int.toNat y_2)) / 18446744073709551616 : Nat)) : Int) fun y_4 =>
 (some (.tup [.agg [.int .u64 y_3, .int .u64 y_1], .bool (y_4 == 1)]))))
 none)))
theorem eq_wide_Add (n : Nat) (a0_0 : Int) (a0_1 : Int) (a1_0 : Int) (a1_1 : Int) : CP C (n + 1) F_wide_Add [.agg [.int .u64 a0_0, .int .u64 a0_1], .agg [.int .u64 a1_0, .int .u64 a1_1]] = R_wide_Add (CP C n) n a0_0 a0_1 a1_0 a1_1 := by kernel_rfl
-- wide_Sub
def R_wide_Sub (cp : FuncId → List AV → Option AV) (_n : Nat) (a0_0 : Int) (a0_1 : Int) (a1_0 : Int) (a1_1 : Int) : Option AV :=
 (bnd (((((Int.toNat a0_1) + 18446744073709551616 - (Int.toNat a1_1) - 0) % 18446744073709551616 : Nat)) : Int) fun y_1 =>
 (bnd ((if (Int.toNat a0_1) < (Int.toNat a1_1) + 0 then 1 else 0 : Nat) : Int) fun y_2 =>
 (cond (decide ((Int.toNat y_2) ≤ 1))
 (bnd (((((Int.toNat a0_0) + 18446744073709551616 - (Int.toNat a1_0) - (Int.toNat y_2)) % 18446744073709551616 : Nat)) : Int) fun y_3 =>
 (bnd ((if (Int.toNat a0_0) < (Int.toNat a1_0) + (Int.toNat y_2) then 1 else 0 : Nat) : Int) fun y_4 =>
 (some (.tup [.agg [.int .u64 y_3, .int .u64 y_1], .bool (y_4 == 1)]))))
 none)))
theorem eq_wide_Sub (n : Nat) (a0_0 : Int) (a0_1 : Int) (a1_0 : Int) (a1_1 : Int) : CP C (n + 1) F_wide_Sub [.agg [.int .u64 a0_0, .int .u64 a0_1], .agg [.int .u64 a1_0, .int .u64 a1_1]] = R_wide_Sub (CP C n) n a0_0 a0_1 a1_0 a1_1 := by kernel_rfl
-- ref01_bits
def S_ref01_bits_116 (x0 : Int) (x1 : Int) (x2 : Int) (l3 : List AV) : St := ⟨[.junk, .ptr (some (0, 0)), .ptr (some (1, 0)), .ptr (some (2, 0)), .int .i64 x0, .junk, .junk, .junk, .junk, .junk, .junk, .junk, .junk, .junk, .junk, .junk, .junk, .junk, .junk, .junk, .junk, .junk, .junk, .junk, .junk, .junk, .junk, .junk, .junk], [.cells 24 [.int .u64 x1, .int .u64 x2], .cells 54 [.bool false, .bool false, .bool false, .bool false, .bool false, .bool false, .bool false, .bool false, .bool false, .bool false, .bool false, .bool false, .bool false, .bool false, .bool false, .bool false, .bool false, .bool false, .bool false, .bool false, .bool false, .bool false, .bool false, .bool false, .bool false, .bool false, .bool false, .bool false, .bool false, .bool false, .bool false, .bool false, .bool false, .bool false, .bool false, .bool false, .bool false, .bool false, .bool false, .bool false, .bool false, .bool false, .bool false, .bool false, .bool false, .bool false, .bool false, .bool false, .bool false, .bool false, .bool false, .bool false, .bool false, .bool false, .bool false, .bool false, .bool false, .bool false, .bool false, .bool false, .bool false, .bool false, .bool false, .bool false, .bool false, .bool false, .bool false, .bool false, .bool false, .bool false, .bool false, .bool false, .bool false, .bool false, .bool false, .bool false, .bool false, .bool false, .bool false, .bool false, .bool false, .bool false, .bool false, .bool false, .bool false, .bool false, .bool false, .bool false, .bool false, .bool false, .bool false, .bool false, .bool false, .bool false, .bool false, .bool false, .bool false, .bool false, .bool false, .bool false, .bool false, .bool false, .bool false, .bool false, .bool false, .bool false, .bool false, .bool false, .bool false, .bool false, .bool false, .bool false, .bool false, .bool false, .bool false, .bool false, .bool false, .bool false, .bool false, .bool false, .bool false, .bool false, .bool false, .bool false, .bool false, .bool false, .bool false, .bool false], .cells 54 l3]⟩
def T_ref01_bits_116 (cp : FuncId → List AV → Option AV) (x0 : Int) (x1 : Int) (x2 : Int) (l3 : List AV) (r116 : Int → Int → Int → List AV → Option AV) : Option AV :=
 (cond (decide (x0 < 64))
 (cond (decide ((IntKind.u64.wrap x0) < 0))
 none
 (bnd (Int.fdiv x2 (2 ^ (min (Int.toNat (IntKind.u64.wrap x0)) 64))) fun y_1 =>
 (bnd (IntKind.u64.wrap ((BitVec.ofInt 64 y_1 &&& BitVec.ofInt 64 1).toNat : Int)) fun y_2 =>
 (cond ((decide (0 ≤ x0)) && (decide (x0 < 128)))
 (cond (fits (0 + ((Int.toNat x0) * 1)) 1 l3)
 (cond (decide ((IntKind.u64.wrap x0) < 0))
 none
 (bnd (Int.fdiv x1 (2 ^ (min (Int.toNat (IntKind.u64.wrap x0)) 64))) fun y_3 =>
 (bnd (IntKind.u64.wrap ((BitVec.ofInt 64 y_3 &&& BitVec.ofInt 64 1).toNat : Int)) fun y_4 =>
 (cond ((decide (0 ≤ (IntKind.i64.wrap (64 + x0)))) && (decide ((IntKind.i64.wrap (64 + x0)) < 128)))
 (cond (fits (0 + ((Int.toNat (IntKind.i64.wrap (64 + x0))) * 1)) 1 (splice l3 (0 + ((Int.toNat x0) * 1)) [.bool (y_2 == 1)]))
 (r116 (IntKind.i64.wrap (x0 + 1)) x1 x2 (splice (splice l3 (0 + ((Int.toNat x0) * 1)) [.bool (y_2 == 1)]) (0 + ((Int.toNat (IntKind.i64.wrap (64 + x0))) * 1)) [.bool (y_4 == 1)]))
 none)
 none))))
 none)
 none))))
 (cond (fits 0 128 l3)
 (cond (lenIs (List.take 128 (List.drop 0 l3)) 128)
 (cond (cellsOk (List.take 128 (List.drop 0 l3)))
 (cond (fits 0 128 (splice [.bool false, .bool false, .bool false, .bool false, .bool false, .bool false, .bool false, .bool false, .bool false, .bool false, .bool false, .bool false, .bool false, .bool false, .bool false, .bool false, .bool false, .bool false, .bool false, .bool false, .bool false, .bool false, .bool false, .bool false, .bool false, .bool false, .bool false, .bool false, .bool false, .bool false, .bool false, .bool false, .bool false, .bool false, .bool false, .bool false, .bool false, .bool false, .bool false, .bool false, .bool false, .bool false, .bool false, .bool false, .bool false, .bool false, .bool false, .bool false, .bool false, .bool false, .bool false, .bool false, .bool false, .bool false, .bool false, .bool false, .bool false, .bool false, .bool false, .bool false, .bool false, .bool false, .bool false, .bool false, .bool false, .bool false, .bool false, .bool false, .bool false, .bool false, .bool false, .bool false, .bool false, .bool false, .bool false, .bool false, .bool false, .bool false, .bool false, .bool false, .bool false, .bool false, .bool false, .bool false, .bool false, .bool false, .bool false, .bool false, .bool false, .bool false, .bool false, .bool false, .bool false, .bool false, .bool false, .bool false, .bool false, .bool false, .bool false, .bool false, .bool false, .bool false, .bool false, .bool false, .bool false, .bool false, .bool false, .bool false, .bool false, .bool false, .bool false, .bool false, .bool false, .bool false, .bool false, .bool false, .bool false, .bool false, .bool false, .bool false, .bool false, .bool false, .bool false, .bool false, .bool false, .bool false, .bool false, .bool false] 0 (List.take 128 (List.drop 0 l3))))
 (cond (AV.pureL (List.take 128 (List.drop 0 (splice [.bool false, .bool false, .bool false, .bool false, .bool false, .bool false, .bool false, .bool false, .bool false, .bool false, .bool false, .bool false, .bool false, .bool false, .bool false, .bool false, .bool false, .bool false, .bool false, .bool false, .bool false, .bool false, .bool false, .bool false, .bool false, .bool false, .bool false, .bool false, .bool false, .bool false, .bool false, .bool false, .bool false, .bool false, .bool false, .bool false, .bool false, .bool false, .bool false, .bool false, .bool false, .bool false, .bool false, .bool false, .bool false, .bool false, .bool false, .bool false, .bool false, .bool false, .bool false, .bool false, .bool false, .bool false, .bool false, .bool false, .bool false, .bool false, .bool false, .bool false, .bool false, .bool false, .bool false, .bool false, .bool false, .bool false, .bool false, .bool false, .bool false, .bool false, .bool false, .bool false, .bool false, .bool false, .bool false, .bool false, .bool false, .bool false, .bool false, .bool false, .bool false, .bool false, .bool false, .bool false, .bool false, .bool false, .bool false, .bool false, .bool false, .bool false, .bool false, .bool false, .bool false, .bool false, .bool false, .bool false, .bool false, .bool false, .bool false, .bool false, .bool false, .bool false, .bool false, .bool false, .bool false, .bool false, .bool false, .bool false, .bool false, .bool false, .bool false, .bool false, .bool false, .bool false, .bool false, .bool false, .bool false, .bool false, .bool false, .bool false, .bool false, .bool false, .bool false, .bool false, .bool false, .bool false, .bool false, .bool false] 0 (List.take 128 (List.drop 0 l3))))))
 (some (.agg (List.take 128 (List.drop 0 (splice [.bool false, .bool false, .bool false, .bool false, .bool false, .bool false, .bool false, .bool false, .bool false, .bool false, .bool false, .bool false, .bool false, .bool false, .bool false, .bool false, .bool false, .bool false, .bool false, .bool false, .bool false, .bool false, .bool false, .bool false, .bool false, .bool false, .bool false, .bool false, .bool false, .bool false, .bool false, .bool false, .bool false, .bool false, .bool false, .bool false, .bool false, .bool false, .bool false, .bool false, .bool false, .bool false, .bool false, .bool false, .bool false, .bool false, .bool false, .bool false, .bool false, .bool false, .bool false, .bool false, .bool false, .bool false, .bool false, .bool false, .bool false, .bool false, .bool false, .bool false, .bool false, .bool false, .bool false, .bool false, .bool false, .bool false, .bool false, .bool false, .bool false, .bool false, .bool false, .bool false, .bool false, .bool false, .bool false, .bool false, .bool false, .bool false, .bool false, .bool false, .bool false, .bool false, .bool false, .bool false, .bool false, .bool false, .bool false, .bool false, .bool false, .bool false, .bool false, .bool false, .bool false, .bool false, .bool false, .bool false, .bool false, .bool false, .bool false, .bool false, .bool false, .bool false, .bool false, .bool false, .bool false, .bool false, .bool false, .bool false, .bool false, .bool false, .bool false, .bool false, .bool false, .bool false, .bool false, .bool false, .bool false, .bool false, .bool false, .bool false, .bool false, .bool false, .bool false, .bool false, .bool false, .bool false, .bool false, .bool false] 0 (List.take 128 (List.drop 0 l3)))))))
 none)
 none)
 none)
 none)
 none))
theorem K_ref01_bits_116 (j : Jump) (n : Nat) (m116 : Nat) (x0 : Int) (x1 : Int) (x2 : Int) (l3 : List AV) : enter (topEnv C (CP C n) n F_ref01_bits) (some j) (bodyOf C.P F_ref01_bits) (endOf C.P F_ref01_bits) [false, false, true, false, true, true] [(m116 + 1)] (S_ref01_bits_116 x0 x1 x2 l3) = T_ref01_bits_116 (CP C n) x0 x1 x2 l3 (fun x0 x1 x2 l3 => j [false, false, true, false, true, true] [m116] (S_ref01_bits_116 x0 x1 x2 l3)) := by kernel_rfl
def J_ref01_bits_116 (cp : FuncId → List AV → Option AV) (n : Nat) : Nat → Int → Int → Int → List AV → Option AV
  | 0 => (fun x0 x1 x2 l3 => none)
  | m + 1 => (fun x0 x1 x2 l3 => T_ref01_bits_116 cp x0 x1 x2 l3 (J_ref01_bits_116 cp n m))
theorem Js_ref01_bits_116 (cp : FuncId → List AV → Option AV) (n : Nat) (m : Nat) (x0 : Int) (x1 : Int) (x2 : Int) (l3 : List AV) : J_ref01_bits_116 cp n (m + 1) x0 x1 x2 l3 = T_ref01_bits_116 cp x0 x1 x2 l3 (J_ref01_bits_116 cp n m) := of_eq_true (eq_self _)
theorem JE_ref01_bits_116 (n : Nat) : ∀ (m : Nat) (x0 : Int) (x1 : Int) (x2 : Int) (l3 : List AV), jT (topEnv C (CP C n) n F_ref01_bits) (bodyOf C.P F_ref01_bits) (endOf C.P F_ref01_bits) [false, false, true, false, true, true] [m] (S_ref01_bits_116 x0 x1 x2 l3) = J_ref01_bits_116 (CP C n) n m x0 x1 x2 l3
  | 0, x0, x1, x2, l3 => (jT_eq _ _ _ _ _ _).trans (by kernel_rfl)
  | m + 1, x0, x1, x2, l3 => (jT_eq _ _ _ _ _ _).trans ((K_ref01_bits_116 _ n m x0 x1 x2 l3).trans (congrArg (T_ref01_bits_116 (CP C n) x0 x1 x2 l3) (funext fun x0 => (funext fun x1 => (funext fun x2 => (funext fun l3 => (JE_ref01_bits_116 n m) x0 x1 x2 l3))))))
def T_ref01_bits_1 (cp : FuncId → List AV → Option AV) (a0_0 : Int) (a0_1 : Int) (j116 : Int → Int → Int → List AV → Option AV) : Option AV :=
 (j116 0 a0_0 a0_1 [.bool false, .bool false, .bool false, .bool false, .bool false, .bool false, .bool false, .bool false, .bool false, .bool false, .bool false, .bool false, .bool false, .bool false, .bool false, .bool false, .bool false, .bool false, .bool false, .bool false, .bool false, .bool false, .bool false, .bool false, .bool false, .bool false, .bool false, .bool false, .bool false, .bool false, .bool false, .bool false, .bool false, .bool false, .bool false, .bool false, .bool false, .bool false, .bool false, .bool false, .bool false, .bool false, .bool false, .bool false, .bool false, .bool false, .bool false, .bool false, .bool false, .bool false, .bool false, .bool false, .bool false, .bool false, .bool false, .bool false, .bool false, .bool false, .bool false, .bool false, .bool false, .bool false, .bool false, .bool false, .bool false, .bool false, .bool false, .bool false, .bool false, .bool false, .bool false, .bool false, .bool false, .bool false, .bool false, .bool false, .bool false, .bool false, .bool false, .bool false, .bool false, .bool false, .bool false, .bool false, .bool false, .bool false, .bool false, .bool false, .bool false, .bool false, .bool false, .bool false, .bool false, .bool false, .bool false, .bool false, .bool false, .bool false, .bool false, .bool false, .bool false, .bool false, .bool false, .bool false, .bool false, .bool false, .bool false, .bool false, .bool false, .bool false, .bool false, .bool false, .bool false, .bool false, .bool false, .bool false, .bool false, .bool false, .bool false, .bool false, .bool false, .bool false, .bool false, .bool false, .bool false, .bool false, .bool false, .bool false])
theorem K_ref01_bits_1 (j : Jump) (n : Nat) (a0_0 : Int) (a0_1 : Int) : ex (topEnv C (CP C n) n F_ref01_bits) (some j) (bodyOf C.P F_ref01_bits) 1 [] [] (endOf C.P F_ref01_bits) (startOf C.P F_ref01_bits [.agg [.int .u64 a0_0, .int .u64 a0_1]]) = T_ref01_bits_1 (CP C n) a0_0 a0_1 (fun x0 x1 x2 l3 => j [false, false, true, false, true, true] [(n + 300)] (S_ref01_bits_116 x0 x1 x2 l3)) := by kernel_rfl
def R_ref01_bits (cp : FuncId → List AV → Option AV) (n : Nat) (a0_0 : Int) (a0_1 : Int) : Option AV := T_ref01_bits_1 cp a0_0 a0_1 (J_ref01_bits_116 cp n (n + 300))
theorem eq_ref01_bits (n : Nat) (a0_0 : Int) (a0_1 : Int) : CP C (n + 1) F_ref01_bits [.agg [.int .u64 a0_0, .int .u64 a0_1]] = R_ref01_bits (CP C n) n a0_0 a0_1 :=
  (CP_pure C n F_ref01_bits _ (by kernel_rfl) (by kernel_rfl)).trans ((K_ref01_bits_1 _ n a0_0 a0_1).trans (congrArg (T_ref01_bits_1 (CP C n) a0_0 a0_1) (funext fun x0 => (funext fun x1 => (funext fun x2 => (funext fun l3 => (JE_ref01_bits_116 n (n + 300)) x0 x1 x2 l3))))))
-- ref01_wide
def S_ref01_wide_116 (x0 : Int) (l1 : List AV) (x2 : Int) (x3 : Int) : St := ⟨[.junk, .ptr (some (0, 0)), .ptr (some (1, 0)), .ptr (some (2, 0)), .int .i64 x0, .junk, .junk, .junk, .junk, .junk, .junk, .junk, .junk, .junk, .junk, .junk, .junk, .junk, .junk, .junk, .junk, .junk, .junk, .junk, .junk, .junk, .junk, .junk, .junk, .junk, .junk], [.cells 54 l1, .cells 24 [.int .u64 0, .int .u64 0], .cells 24 [.int .u64 x2, .int .u64 x3]]⟩
def T_ref01_wide_116 (cp : FuncId → List AV → Option AV) (x0 : Int) (l1 : List AV) (x2 : Int) (x3 : Int) (r116 : Int → List AV → Int → Int → Option AV) : Option AV :=
 (cond (decide (x0 < 64))
 (cond ((decide (0 ≤ x0)) && (decide (x0 < 128)))
 (cond (fits (0 + ((Int.toNat x0) * 1)) 1 l1)
 (AV.boolK (nth l1 (0 + ((Int.toNat x0) * 1))) fun b_1 =>
 (cond b_1
 (cond (decide ((IntKind.u64.wrap x0) < 0))
 none
 (bnd (IntKind.u64.wrap (1 * (2 ^ (min (Int.toNat (IntKind.u64.wrap x0)) 64)))) fun y_2 =>
 (bnd (IntKind.u64.wrap ((BitVec.ofInt 64 x3 ||| BitVec.ofInt 64 y_2).toNat : Int)) fun y_3 =>
 (cond ((decide (0 ≤ (IntKind.i64.wrap (64 + x0)))) && (decide ((IntKind.i64.wrap (64 + x0)) < 128)))
 (cond (fits (0 + ((Int.toNat (IntKind.i64.wrap (64 + x0))) * 1)) 1 l1)
 (AV.boolK (nth l1 (0 + ((Int.toNat (IntKind.i64.wrap (64 + x0))) * 1))) fun b_4 =>
 (cond b_4
 (cond (decide ((IntKind.u64.wrap x0) < 0))
 none
 (bnd (IntKind.u64.wrap (1 * (2 ^ (min (Int.toNat (IntKind.u64.wrap x0)) 64)))) fun y_5 =>
 (bnd (IntKind.u64.wrap ((BitVec.ofInt 64 x2 ||| BitVec.ofInt 64 y_5).toNat : Int)) fun y_6 =>
 (r116 (IntKind.i64.wrap (x0 + 1)) l1 y_6 y_3))))
 (r116 (IntKind.i64.wrap (x0 + 1)) l1 x2 y_3)))
 none)
 none))))
 (cond ((decide (0 ≤ (IntKind.i64.wrap (64 + x0)))) && (decide ((IntKind.i64.wrap (64 + x0)) < 128)))
 (cond (fits (0 + ((Int.toNat (IntKind.i64.wrap (64 + x0))) * 1)) 1 l1)
 (AV.boolK (nth l1 (0 + ((Int.toNat (IntKind.i64.wrap (64 + x0))) * 1))) fun b_7 =>
 (cond b_7
 (cond (decide ((IntKind.u64.wrap x0) < 0))
 none
 (bnd (IntKind.u64.wrap (1 * (2 ^ (min (Int.toNat (IntKind.u64.wrap x0)) 64)))) fun y_8 =>
 (bnd (IntKind.u64.wrap ((BitVec.ofInt 64 x2 ||| BitVec.ofInt 64 y_8).toNat : Int)) fun y_9 =>
 (r116 (IntKind.i64.wrap (x0 + 1)) l1 y_9 x3))))
 (r116 (IntKind.i64.wrap (x0 + 1)) l1 x2 x3)))
 none)
 none)))
 none)
 none)
 (some (.agg [.int .u64 x2, .int .u64 x3])))
theorem K_ref01_wide_116 (j : Jump) (n : Nat) (m116 : Nat) (x0 : Int) (l1 : List AV) (x2 : Int) (x3 : Int) : enter (topEnv C (CP C n) n F_ref01_wide) (some j) (bodyOf C.P F_ref01_wide) (endOf C.P F_ref01_wide) [false, false, true, false, true, true] [(m116 + 1)] (S_ref01_wide_116 x0 l1 x2 x3) = T_ref01_wide_116 (CP C n) x0 l1 x2 x3 (fun x0 l1 x2 x3 => j [false, false, true, false, true, true] [m116] (S_ref01_wide_116 x0 l1 x2 x3)) := by kernel_rfl
def J_ref01_wide_116 (cp : FuncId → List AV → Option AV) (n : Nat) : Nat → Int → List AV → Int → Int → Option AV
  | 0 => (fun x0 l1 x2 x3 => none)
  | m + 1 => (fun x0 l1 x2 x3 => T_ref01_wide_116 cp x0 l1 x2 x3 (J_ref01_wide_116 cp n m))
theorem Js_ref01_wide_116 (cp : FuncId → List AV → Option AV) (n : Nat) (m : Nat) (x0 : Int) (l1 : List AV) (x2 : Int) (x3 : Int) : J_ref01_wide_116 cp n (m + 1) x0 l1 x2 x3 = T_ref01_wide_116 cp x0 l1 x2 x3 (J_ref01_wide_116 cp n m) := of_eq_true (eq_self _)
theorem JE_ref01_wide_116 (n : Nat) : ∀ (m : Nat) (x0 : Int) (l1 : List AV) (x2 : Int) (x3 : Int), jT (topEnv C (CP C n) n F_ref01_wide) (bodyOf C.P F_ref01_wide) (endOf C.P F_ref01_wide) [false, false, true, false, true, true] [m] (S_ref01_wide_116 x0 l1 x2 x3) = J_ref01_wide_116 (CP C n) n m x0 l1 x2 x3
  | 0, x0, l1, x2, x3 => (jT_eq _ _ _ _ _ _).trans (by kernel_rfl)
  | m + 1, x0, l1, x2, x3 => (jT_eq _ _ _ _ _ _).trans ((K_ref01_wide_116 _ n m x0 l1 x2 x3).trans (congrArg (T_ref01_wide_116 (CP C n) x0 l1 x2 x3) (funext fun x0 => (funext fun l1 => (funext fun x2 => (funext fun x3 => (JE_ref01_wide_116 n m) x0 l1 x2 x3))))))
def T_ref01_wide_1 (cp : FuncId → List AV → Option AV) (a0 : List AV) (j116 : Int → List AV → Int → Int → Option AV) : Option AV :=
 (j116 0 a0 0 0)
theorem K_ref01_wide_1 (j : Jump) (n : Nat) (a0 : List AV) : ex (topEnv C (CP C n) n F_ref01_wide) (some j) (bodyOf C.P F_ref01_wide) 1 [] [] (endOf C.P F_ref01_wide) (startOf C.P F_ref01_wide [.agg a0]) = T_ref01_wide_1 (CP C n) a0 (fun x0 l1 x2 x3 => j [false, false, true, false, true, true] [(n + 300)] (S_ref01_wide_116 x0 l1 x2 x3)) := by kernel_rfl
def R_ref01_wide (cp : FuncId → List AV → Option AV) (n : Nat) (a0 : List AV) : Option AV := T_ref01_wide_1 cp a0 (J_ref01_wide_116 cp n (n + 300))
theorem eq_ref01_wide (n : Nat) (a0 : List AV) : CP C (n + 1) F_ref01_wide [.agg a0] = cond (AV.pureL [.agg a0]) (R_ref01_wide (CP C n) n a0) none :=
  (CP_run C n F_ref01_wide _ (by kernel_rfl)).trans (congrArg (fun x => cond (AV.pureL [.agg a0]) x none) ((K_ref01_wide_1 _ n a0).trans (congrArg (T_ref01_wide_1 (CP C n) a0) (funext fun x0 => (funext fun l1 => (funext fun x2 => (funext fun x3 => (JE_ref01_wide_116 n (n + 300)) x0 l1 x2 x3)))))))
-- ref01_sum
def S_ref01_sum_116 (b0 : Bool) (x1 : Int) (l2 : List AV) (l3 : List AV) (l4 : List AV) : St := ⟨[.junk, .junk, .bool b0, .ptr (some (0, 0)), .ptr (some (1, 0)), .junk, .ptr (some (2, 0)), .junk, .ptr (some (3, 0)), .int .i64 x1, .junk, .junk, .junk, .junk, .junk, .junk, .junk, .junk, .junk, .junk, .junk, .junk, .junk, .junk, .junk, .junk, .junk, .junk, .junk, .junk, .junk, .junk, .junk, .junk, .junk, .junk, .junk], [.cells 54 l2, .cells 54 l3, .cells 54 [.bool false, .bool false, .bool false, .bool false, .bool false, .bool false, .bool false, .bool false, .bool false, .bool false, .bool false, .bool false, .bool false, .bool false, .bool false, .bool false, .bool false, .bool false, .bool false, .bool false, .bool false, .bool false, .bool false, .bool false, .bool false, .bool false, .bool false, .bool false, .bool false, .bool false, .bool false, .bool false, .bool false, .bool false, .bool false, .bool false, .bool false, .bool false, .bool false, .bool false, .bool false, .bool false, .bool false, .bool false, .bool false, .bool false, .bool false, .bool false, .bool false, .bool false, .bool false, .bool false, .bool false, .bool false, .bool false, .bool false, .bool false, .bool false, .bool false, .bool false, .bool false, .bool false, .bool false, .bool false, .bool false, .bool false, .bool false, .bool false, .bool false, .bool false, .bool false, .bool false, .bool false, .bool false, .bool false, .bool false, .bool false, .bool false, .bool false, .bool false, .bool false, .bool false, .bool false, .bool false, .bool false, .bool false, .bool false, .bool false, .bool false, .bool false, .bool false, .bool false, .bool false, .bool false, .bool false, .bool false, .bool false, .bool false, .bool false, .bool false, .bool false, .bool false, .bool false, .bool false, .bool false, .bool false, .bool false, .bool false, .bool false, .bool false, .bool false, .bool false, .bool false, .bool false, .bool false, .bool false, .bool false, .bool false, .bool false, .bool false, .bool false, .bool false, .bool false, .bool false, .bool false, .bool false, .bool false, .bool false], .cells 54 l4]⟩
def S_ref01_sum_3731 (b0 : Bool) (x1 : Int) (x2 : Int) (l3 : List AV) (l4 : List AV) (l5 : List AV) : St := ⟨[.junk, .junk, .bool b0, .ptr (some (0, 0)), .ptr (some (1, 0)), .junk, .ptr (some (2, 0)), .junk, .ptr (some (3, 0)), .int .i64 x1, .int .i64 x2, .junk, .junk, .junk, .junk, .junk, .junk, .junk, .junk, .junk, .junk, .junk, .junk, .junk, .junk, .junk, .junk, .junk, .junk, .junk, .junk, .junk, .junk, .junk, .junk, .junk, .junk], [.cells 54 l3, .cells 54 l4, .cells 54 [.bool false, .bool false, .bool false, .bool false, .bool false, .bool false, .bool false, .bool false, .bool false, .bool false, .bool false, .bool false, .bool false, .bool false, .bool false, .bool false, .bool false, .bool false, .bool false, .bool false, .bool false, .bool false, .bool false, .bool false, .bool false, .bool false, .bool false, .bool false, .bool false, .bool false, .bool false, .bool false, .bool false, .bool false, .bool false, .bool false, .bool false, .bool false, .bool false, .bool false, .bool false, .bool false, .bool false, .bool false, .bool false, .bool false, .bool false, .bool false, .bool false, .bool false, .bool false, .bool false, .bool false, .bool false, .bool false, .bool false, .bool false, .bool false, .bool false, .bool false, .bool false, .bool false, .bool false, .bool false, .bool false, .bool false, .bool false, .bool false, .bool false, .bool false, .bool false, .bool false, .bool false, .bool false, .bool false, .bool false, .bool false, .bool false, .bool false, .bool false, .bool false, .bool false, .bool false, .bool false, .bool false, .bool false, .bool false, .bool false, .bool false, .bool false, .bool false, .bool false, .bool false, .bool false, .bool false, .bool false, .bool false, .bool false, .bool false, .bool false, .bool false, .bool false, .bool false, .bool false, .bool false, .bool false, .bool false, .bool false, .bool false, .bool false, .bool false, .bool false, .bool false, .bool false, .bool false, .bool false, .bool false, .bool false, .bool false, .bool false, .bool false, .bool false, .bool false, .bool false, .bool false, .bool false, .bool false, .bool false], .cells 54 l5]⟩
def S_ref01_sum_7463 (b0 : Bool) (x1 : Int) (x2 : Int) (l3 : List AV) (l4 : List AV) (l5 : List AV) : St := ⟨[.junk, .junk, .bool b0, .ptr (some (0, 0)), .ptr (some (1, 0)), .junk, .ptr (some (2, 0)), .junk, .ptr (some (3, 0)), .int .i64 x1, .int .i64 x2, .junk, .junk, .junk, .junk, .junk, .junk, .junk, .junk, .junk, .junk, .junk, .junk, .junk, .junk, .junk, .junk, .junk, .junk, .junk, .junk, .junk, .junk, .junk, .junk, .junk, .junk], [.cells 54 l3, .cells 54 l4, .cells 54 [.bool false, .bool false, .bool false, .bool false, .bool false, .bool false, .bool false, .bool false, .bool false, .bool false, .bool false, .bool false, .bool false, .bool false, .bool false, .bool false, .bool false, .bool false, .bool false, .bool false, .bool false, .bool false, .bool false, .bool false, .bool false, .bool false, .bool false, .bool false, .bool false, .bool false, .bool false, .bool false, .bool false, .bool false, .bool false, .bool false, .bool false, .bool false, .bool false, .bool false, .bool false, .bool false, .bool false, .bool false, .bool false, .bool false, .bool false, .bool false, .bool false, .bool false, .bool false, .bool false, .bool false, .bool false, .bool false, .bool false, .bool false, .bool false, .bool false, .bool false, .bool false, .bool false, .bool false, .bool false, .bool false, .bool false, .bool false, .bool false, .bool false, .bool false, .bool false, .bool false, .bool false, .bool false, .bool false, .bool false, .bool false, .bool false, .bool false, .bool false, .bool false, .bool false, .bool false, .bool false, .bool false, .bool false, .bool false, .bool false, .bool false, .bool false, .bool false, .bool false, .bool false, .bool false, .bool false, .bool false, .bool false, .bool false, .bool false, .bool false, .bool false, .bool false, .bool false, .bool false, .bool false, .bool false, .bool false, .bool false, .bool false, .bool false, .bool false, .bool false, .bool false, .bool false, .bool false, .bool false, .bool false, .bool false, .bool false, .bool false, .bool false, .bool false, .bool false, .bool false, .bool false, .bool false, .bool false, .bool false], .cells 54 l5]⟩
def S_ref01_sum_14927 (x0 : Int) (x1 : Int) (l2 : List AV) (l3 : List AV) (l4 : List AV) : St := ⟨[.junk, .junk, .junk, .ptr (some (0, 0)), .ptr (some (1, 0)), .junk, .ptr (some (2, 0)), .junk, .ptr (some (3, 0)), .int .i64 x0, .int .i64 x1, .junk, .junk, .junk, .junk, .junk, .junk, .junk, .junk, .junk, .junk, .junk, .junk, .junk, .junk, .junk, .junk, .junk, .junk, .junk, .junk, .junk, .junk, .junk, .junk, .junk, .junk], [.cells 54 l2, .cells 54 l3, .cells 54 [.bool false, .bool false, .bool false, .bool false, .bool false, .bool false, .bool false, .bool false, .bool false, .bool false, .bool false, .bool false, .bool false, .bool false, .bool false, .bool false, .bool false, .bool false, .bool false, .bool false, .bool false, .bool false, .bool false, .bool false, .bool false, .bool false, .bool false, .bool false, .bool false, .bool false, .bool false, .bool false, .bool false, .bool false, .bool false, .bool false, .bool false, .bool false, .bool false, .bool false, .bool false, .bool false, .bool false, .bool false, .bool false, .bool false, .bool false, .bool false, .bool false, .bool false, .bool false, .bool false, .bool false, .bool false, .bool false, .bool false, .bool false, .bool false, .bool false, .bool false, .bool false, .bool false, .bool false, .bool false, .bool false, .bool false, .bool false, .bool false, .bool false, .bool false, .bool false, .bool false, .bool false, .bool false, .bool false, .bool false, .bool false, .bool false, .bool false, .bool false, .bool false, .bool false, .bool false, .bool false, .bool false, .bool false, .bool false, .bool false, .bool false, .bool false, .bool false, .bool false, .bool false, .bool false, .bool false, .bool false, .bool false, .bool false, .bool false, .bool false, .bool false, .bool false, .bool false, .bool false, .bool false, .bool false, .bool false, .bool false, .bool false, .bool false, .bool false, .bool false, .bool false, .bool false, .bool false, .bool false, .bool false, .bool false, .bool false, .bool false, .bool false, .bool false, .bool false, .bool false, .bool false, .bool false, .bool false, .bool false], .cells 54 l4]⟩
def S_ref01_sum_467 (b0 : Bool) (x1 : Int) (l2 : List AV) (l3 : List AV) (l4 : List AV) : St := ⟨[.junk, .junk, .bool b0, .ptr (some (0, 0)), .ptr (some (1, 0)), .junk, .ptr (some (2, 0)), .junk, .ptr (some (3, 0)), .int .i64 x1, .junk, .junk, .junk, .junk, .junk, .junk, .junk, .junk, .junk, .junk, .junk, .junk, .junk, .junk, .junk, .junk, .junk, .junk, .junk, .junk, .junk, .junk, .junk, .junk, .junk, .junk, .junk], [.cells 54 l2, .cells 54 l3, .cells 54 [.bool false, .bool false, .bool false, .bool false, .bool false, .bool false, .bool false, .bool false, .bool false, .bool false, .bool false, .bool false, .bool false, .bool false, .bool false, .bool false, .bool false, .bool false, .bool false, .bool false, .bool false, .bool false, .bool false, .bool false, .bool false, .bool false, .bool false, .bool false, .bool false, .bool false, .bool false, .bool false, .bool false, .bool false, .bool false, .bool false, .bool false, .bool false, .bool false, .bool false, .bool false, .bool false, .bool false, .bool false, .bool false, .bool false, .bool false, .bool false, .bool false, .bool false, .bool false, .bool false, .bool false, .bool false, .bool false, .bool false, .bool false, .bool false, .bool false, .bool false, .bool false, .bool false, .bool false, .bool false, .bool false, .bool false, .bool false, .bool false, .bool false, .bool false, .bool false, .bool false, .bool false, .bool false, .bool false, .bool false, .bool false, .bool false, .bool false, .bool false, .bool false, .bool false, .bool false, .bool false, .bool false, .bool false, .bool false, .bool false, .bool false, .bool false, .bool false, .bool false, .bool false, .bool false, .bool false, .bool false, .bool false, .bool false, .bool false, .bool false, .bool false, .bool false, .bool false, .bool false, .bool false, .bool false, .bool false, .bool false, .bool false, .bool false, .bool false, .bool false, .bool false, .bool false, .bool false, .bool false, .bool false, .bool false, .bool false, .bool false, .bool false, .bool false, .bool false, .bool false, .bool false, .bool false, .bool false, .bool false], .cells 54 l4]⟩
def T_ref01_sum_467 (cp : FuncId → List AV → Option AV) (b0 : Bool) (x1 : Int) (l2 : List AV) (l3 : List AV) (l4 : List AV) (r116 : Bool → Int → List AV → List AV → List AV → Option AV) : Option AV :=
 (r116 b0 (IntKind.i64.wrap (x1 + 1)) l2 l3 l4)
theorem K_ref01_sum_467 (j : Jump) (n : Nat) (m116 : Nat) (b0 : Bool) (x1 : Int) (l2 : List AV) (l3 : List AV) (l4 : List AV) : enter (topEnv C (CP C n) n F_ref01_sum) (some j) (bodyOf C.P F_ref01_sum) (endOf C.P F_ref01_sum) [true, true, false, false, true, false, true, true] [m116] (S_ref01_sum_467 b0 x1 l2 l3 l4) = T_ref01_sum_467 (CP C n) b0 x1 l2 l3 l4 (fun b0 x1 l2 l3 l4 => j [false, false, true, false, true, true] [m116] (S_ref01_sum_116 b0 x1 l2 l3 l4)) := by kernel_rfl
def J_ref01_sum_467 (cp : FuncId → List AV → Option AV) (n : Nat) (r116 : Bool → Int → List AV → List AV → List AV → Option AV) (b0 : Bool) (x1 : Int) (l2 : List AV) (l3 : List AV) (l4 : List AV) : Option AV := T_ref01_sum_467 cp b0 x1 l2 l3 l4 r116
theorem JE_ref01_sum_467 (n : Nat) (m116 : Nat) (r116 : Bool → Int → List AV → List AV → List AV → Option AV) (h116 : ∀ (b0 : Bool) (x1 : Int) (l2 : List AV) (l3 : List AV) (l4 : List AV), jT (topEnv C (CP C n) n F_ref01_sum) (bodyOf C.P F_ref01_sum) (endOf C.P F_ref01_sum) [false, false, true, false, true, true] [m116] (S_ref01_sum_116 b0 x1 l2 l3 l4) = r116 b0 x1 l2 l3 l4) (b0 : Bool) (x1 : Int) (l2 : List AV) (l3 : List AV) (l4 : List AV) : jT (topEnv C (CP C n) n F_ref01_sum) (bodyOf C.P F_ref01_sum) (endOf C.P F_ref01_sum) [true, true, false, false, true, false, true, true] [m116] (S_ref01_sum_467 b0 x1 l2 l3 l4) = J_ref01_sum_467 (CP C n) n r116 b0 x1 l2 l3 l4 :=
  (jT_eq _ _ _ _ _ _).trans ((K_ref01_sum_467 _ n m116 b0 x1 l2 l3 l4).trans (congrArg (T_ref01_sum_467 (CP C n) b0 x1 l2 l3 l4) (funext fun b0 => (funext fun x1 => (funext fun l2 => (funext fun l3 => (funext fun l4 => h116 b0 x1 l2 l3 l4)))))))
def T_ref01_sum_14927 (cp : FuncId → List AV → Option AV) (x0 : Int) (x1 : Int) (l2 : List AV) (l3 : List AV) (l4 : List AV) (j467 : Bool → Int → List AV → List AV → List AV → Option AV) : Option AV :=
 (bnd (IntKind.i64.wrap ((BitVec.ofInt 64 x1 &&& BitVec.ofInt 64 1).toNat : Int)) fun y_1 =>
 (cond ((decide (0 ≤ x0)) && (decide (x0 < 128)))
 (cond (fits (0 + ((Int.toNat x0) * 1)) 1 l4)
 (j467 (decide (x1 ≥ 2)) x0 l2 l3 (splice l4 (0 + ((Int.toNat x0) * 1)) [.bool (y_1 == 1)]))
 none)
 none))
theorem K_ref01_sum_14927 (j : Jump) (n : Nat) (m116 : Nat) (x0 : Int) (x1 : Int) (l2 : List AV) (l3 : List AV) (l4 : List AV) : enter (topEnv C (CP C n) n F_ref01_sum) (some j) (bodyOf C.P F_ref01_sum) (endOf C.P F_ref01_sum) [true, true, true, true, false, false, true, false, false, true, false, true, true] [m116] (S_ref01_sum_14927 x0 x1 l2 l3 l4) = T_ref01_sum_14927 (CP C n) x0 x1 l2 l3 l4 (fun b0 x1 l2 l3 l4 => j [true, true, false, false, true, false, true, true] [m116] (S_ref01_sum_467 b0 x1 l2 l3 l4)) := by kernel_rfl
def J_ref01_sum_14927 (cp : FuncId → List AV → Option AV) (n : Nat) (r116 : Bool → Int → List AV → List AV → List AV → Option AV) (x0 : Int) (x1 : Int) (l2 : List AV) (l3 : List AV) (l4 : List AV) : Option AV := T_ref01_sum_14927 cp x0 x1 l2 l3 l4 (J_ref01_sum_467 cp n r116)
theorem JE_ref01_sum_14927 (n : Nat) (m116 : Nat) (r116 : Bool → Int → List AV → List AV → List AV → Option AV) (h116 : ∀ (b0 : Bool) (x1 : Int) (l2 : List AV) (l3 : List AV) (l4 : List AV), jT (topEnv C (CP C n) n F_ref01_sum) (bodyOf C.P F_ref01_sum) (endOf C.P F_ref01_sum) [false, false, true, false, true, true] [m116] (S_ref01_sum_116 b0 x1 l2 l3 l4) = r116 b0 x1 l2 l3 l4) (x0 : Int) (x1 : Int) (l2 : List AV) (l3 : List AV) (l4 : List AV) : jT (topEnv C (CP C n) n F_ref01_sum) (bodyOf C.P F_ref01_sum) (endOf C.P F_ref01_sum) [true, true, true, true, false, false, true, false, false, true, false, true, true] [m116] (S_ref01_sum_14927 x0 x1 l2 l3 l4) = J_ref01_sum_14927 (CP C n) n r116 x0 x1 l2 l3 l4 :=
  (jT_eq _ _ _ _ _ _).trans ((K_ref01_sum_14927 _ n m116 x0 x1 l2 l3 l4).trans (congrArg (T_ref01_sum_14927 (CP C n) x0 x1 l2 l3 l4) (funext fun b0 => (funext fun x1 => (funext fun l2 => (funext fun l3 => (funext fun l4 => (JE_ref01_sum_467 n m116 r116 h116) b0 x1 l2 l3 l4)))))))
def T_ref01_sum_7463 (cp : FuncId → List AV → Option AV) (b0 : Bool) (x1 : Int) (x2 : Int) (l3 : List AV) (l4 : List AV) (l5 : List AV) (j14927 : Int → Int → List AV → List AV → List AV → Option AV) : Option AV :=
 (cond b0
 (j14927 x1 (IntKind.i64.wrap (x2 + 1)) l3 l4 l5)
 (j14927 x1 x2 l3 l4 l5))
theorem K_ref01_sum_7463 (j : Jump) (n : Nat) (m116 : Nat) (b0 : Bool) (x1 : Int) (x2 : Int) (l3 : List AV) (l4 : List AV) (l5 : List AV) : enter (topEnv C (CP C n) n F_ref01_sum) (some j) (bodyOf C.P F_ref01_sum) (endOf C.P F_ref01_sum) [true, true, true, false, false, true, false, false, true, false, true, true] [m116] (S_ref01_sum_7463 b0 x1 x2 l3 l4 l5) = T_ref01_sum_7463 (CP C n) b0 x1 x2 l3 l4 l5 (fun x0 x1 l2 l3 l4 => j [true, true, true, true, false, false, true, false, false, true, false, true, true] [m116] (S_ref01_sum_14927 x0 x1 l2 l3 l4)) := by kernel_rfl
def J_ref01_sum_7463 (cp : FuncId → List AV → Option AV) (n : Nat) (r116 : Bool → Int → List AV → List AV → List AV → Option AV) (b0 : Bool) (x1 : Int) (x2 : Int) (l3 : List AV) (l4 : List AV) (l5 : List AV) : Option AV := T_ref01_sum_7463 cp b0 x1 x2 l3 l4 l5 (J_ref01_sum_14927 cp n r116)
theorem JE_ref01_sum_7463 (n : Nat) (m116 : Nat) (r116 : Bool → Int → List AV → List AV → List AV → Option AV) (h116 : ∀ (b0 : Bool) (x1 : Int) (l2 : List AV) (l3 : List AV) (l4 : List AV), jT (topEnv C (CP C n) n F_ref01_sum) (bodyOf C.P F_ref01_sum) (endOf C.P F_ref01_sum) [false, false, true, false, true, true] [m116] (S_ref01_sum_116 b0 x1 l2 l3 l4) = r116 b0 x1 l2 l3 l4) (b0 : Bool) (x1 : Int) (x2 : Int) (l3 : List AV) (l4 : List AV) (l5 : List AV) : jT (topEnv C (CP C n) n F_ref01_sum) (bodyOf C.P F_ref01_sum) (endOf C.P F_ref01_sum) [true, true, true, false, false, true, false, false, true, false, true, true] [m116] (S_ref01_sum_7463 b0 x1 x2 l3 l4 l5) = J_ref01_sum_7463 (CP C n) n r116 b0 x1 x2 l3 l4 l5 :=
  (jT_eq _ _ _ _ _ _).trans ((K_ref01_sum_7463 _ n m116 b0 x1 x2 l3 l4 l5).trans (congrArg (T_ref01_sum_7463 (CP C n) b0 x1 x2 l3 l4 l5) (funext fun x0 => (funext fun x1 => (funext fun l2 => (funext fun l3 => (funext fun l4 => (JE_ref01_sum_14927 n m116 r116 h116) x0 x1 l2 l3 l4)))))))
def T_ref01_sum_3731 (cp : FuncId → List AV → Option AV) (b0 : Bool) (x1 : Int) (x2 : Int) (l3 : List AV) (l4 : List AV) (l5 : List AV) (j7463 : Bool → Int → Int → List AV → List AV → List AV → Option AV) : Option AV :=
 (cond ((decide (0 ≤ x1)) && (decide (x1 < 128)))
 (cond (fits (0 + ((Int.toNat x1) * 1)) 1 l4)
 (AV.boolK (nth l4 (0 + ((Int.toNat x1) * 1))) fun b_1 =>
 (cond b_1
 (j7463 b0 x1 (IntKind.i64.wrap (x2 + 1)) l3 l4 l5)
 (j7463 b0 x1 x2 l3 l4 l5)))
 none)
 none)
theorem K_ref01_sum_3731 (j : Jump) (n : Nat) (m116 : Nat) (b0 : Bool) (x1 : Int) (x2 : Int) (l3 : List AV) (l4 : List AV) (l5 : List AV) : enter (topEnv C (CP C n) n F_ref01_sum) (some j) (bodyOf C.P F_ref01_sum) (endOf C.P F_ref01_sum) [true, true, false, false, true, false, false, true, false, true, true] [m116] (S_ref01_sum_3731 b0 x1 x2 l3 l4 l5) = T_ref01_sum_3731 (CP C n) b0 x1 x2 l3 l4 l5 (fun b0 x1 x2 l3 l4 l5 => j [true, true, true, false, false, true, false, false, true, false, true, true] [m116] (S_ref01_sum_7463 b0 x1 x2 l3 l4 l5)) := by kernel_rfl
def J_ref01_sum_3731 (cp : FuncId → List AV → Option AV) (n : Nat) (r116 : Bool → Int → List AV → List AV → List AV → Option AV) (b0 : Bool) (x1 : Int) (x2 : Int) (l3 : List AV) (l4 : List AV) (l5 : List AV) : Option AV := T_ref01_sum_3731 cp b0 x1 x2 l3 l4 l5 (J_ref01_sum_7463 cp n r116)
theorem JE_ref01_sum_3731 (n : Nat) (m116 : Nat) (r116 : Bool → Int → List AV → List AV → List AV → Option AV) (h116 : ∀ (b0 : Bool) (x1 : Int) (l2 : List AV) (l3 : List AV) (l4 : List AV), jT (topEnv C (CP C n) n F_ref01_sum) (bodyOf C.P F_ref01_sum) (endOf C.P F_ref01_sum) [false, false, true, false, true, true] [m116] (S_ref01_sum_116 b0 x1 l2 l3 l4) = r116 b0 x1 l2 l3 l4) (b0 : Bool) (x1 : Int) (x2 : Int) (l3 : List AV) (l4 : List AV) (l5 : List AV) : jT (topEnv C (CP C n) n F_ref01_sum) (bodyOf C.P F_ref01_sum) (endOf C.P F_ref01_sum) [true, true, false, false, true, false, false, true, false, true, true] [m116] (S_ref01_sum_3731 b0 x1 x2 l3 l4 l5) = J_ref01_sum_3731 (CP C n) n r116 b0 x1 x2 l3 l4 l5 :=
  (jT_eq _ _ _ _ _ _).trans ((K_ref01_sum_3731 _ n m116 b0 x1 x2 l3 l4 l5).trans (congrArg (T_ref01_sum_3731 (CP C n) b0 x1 x2 l3 l4 l5) (funext fun b0 => (funext fun x1 => (funext fun x2 => (funext fun l3 => (funext fun l4 => (funext fun l5 => (JE_ref01_sum_7463 n m116 r116 h116) b0 x1 x2 l3 l4 l5))))))))
def T_ref01_sum_116 (cp : FuncId → List AV → Option AV) (b0 : Bool) (x1 : Int) (l2 : List AV) (l3 : List AV) (l4 : List AV) (j3731 : Bool → Int → Int → List AV → List AV → List AV → Option AV) : Option AV :=
 (cond (decide (x1 < 128))
 (cond ((decide (0 ≤ x1)) && (decide (x1 < 128)))
 (cond (fits (0 + ((Int.toNat x1) * 1)) 1 l2)
 (AV.boolK (nth l2 (0 + ((Int.toNat x1) * 1))) fun b_1 =>
 (cond b_1
 (j3731 b0 x1 1 l2 l3 l4)
 (j3731 b0 x1 0 l2 l3 l4)))
 none)
 none)
 (cond (fits 0 128 l4)
 (cond (lenIs (List.take 128 (List.drop 0 l4)) 128)
 (cond (cellsOk (List.take 128 (List.drop 0 l4)))
 (cond (fits 0 128 (splice [.bool false, .bool false, .bool false, .bool false, .bool false, .bool false, .bool false, .bool false, .bool false, .bool false, .bool false, .bool false, .bool false, .bool false, .bool false, .bool false, .bool false, .bool false, .bool false, .bool false, .bool false, .bool false, .bool false, .bool false, .bool false, .bool false, .bool false, .bool false, .bool false, .bool false, .bool false, .bool false, .bool false, .bool false, .bool false, .bool false, .bool false, .bool false, .bool false, .bool false, .bool false, .bool false, .bool false, .bool false, .bool false, .bool false, .bool false, .bool false, .bool false, .bool false, .bool false, .bool false, .bool false, .bool false, .bool false, .bool false, .bool false, .bool false, .bool false, .bool false, .bool false, .bool false, .bool false, .bool false, .bool false, .bool false, .bool false, .bool false, .bool false, .bool false, .bool false, .bool false, .bool false, .bool false, .bool false, .bool false, .bool false, .bool false, .bool false, .bool false, .bool false, .bool false, .bool false, .bool false, .bool false, .bool false, .bool false, .bool false, .bool false, .bool false, .bool false, .bool false, .bool false, .bool false, .bool false, .bool false, .bool false, .bool false, .bool false, .bool false, .bool false, .bool false, .bool false, .bool false, .bool false, .bool false, .bool false, .bool false, .bool false, .bool false, .bool false, .bool false, .bool false, .bool false, .bool false, .bool false, .bool false, .bool false, .bool false, .bool false, .bool false, .bool false, .bool false, .bool false, .bool false, .bool false, .bool false, .bool false] 0 (List.take 128 (List.drop 0 l4))))
 (cond ((AV.pureL (List.take 128 (List.drop 0 (splice [.bool false, .bool false, .bool false, .bool false, .bool false, .bool false, .bool false, .bool false, .bool false, .bool false, .bool false, .bool false, .bool false, .bool false, .bool false, .bool false, .bool false, .bool false, .bool false, .bool false, .bool false, .bool false, .bool false, .bool false, .bool false, .bool false, .bool false, .bool false, .bool false, .bool false, .bool false, .bool false, .bool false, .bool false, .bool false, .bool false, .bool false, .bool false, .bool false, .bool false, .bool false, .bool false, .bool false, .bool false, .bool false, .bool false, .bool false, .bool false, .bool false, .bool false, .bool false, .bool false, .bool false, .bool false, .bool false, .bool false, .bool false, .bool false, .bool false, .bool false, .bool false, .bool false, .bool false, .bool false, .bool false, .bool false, .bool false, .bool false, .bool false, .bool false, .bool false, .bool false, .bool false, .bool false, .bool false, .bool false, .bool false, .bool false, .bool false, .bool false, .bool false, .bool false, .bool false, .bool false, .bool false, .bool false, .bool false, .bool false, .bool false, .bool false, .bool false, .bool false, .bool false, .bool false, .bool false, .bool false, .bool false, .bool false, .bool false, .bool false, .bool false, .bool false, .bool false, .bool false, .bool false, .bool false, .bool false, .bool false, .bool false, .bool false, .bool false, .bool false, .bool false, .bool false, .bool false, .bool false, .bool false, .bool false, .bool false, .bool false, .bool false, .bool false, .bool false, .bool false, .bool false, .bool false, .bool false, .bool false] 0 (List.take 128 (List.drop 0 l4)))))) && true)
 (some (.tup [.agg (List.take 128 (List.drop 0 (splice [.bool false, .bool false, .bool false, .bool false, .bool false, .bool false, .bool false, .bool false, .bool false, .bool false, .bool false, .bool false, .bool false, .bool false, .bool false, .bool false, .bool false, .bool false, .bool false, .bool false, .bool false, .bool false, .bool false, .bool false, .bool false, .bool false, .bool false, .bool false, .bool false, .bool false, .bool false, .bool false, .bool false, .bool false, .bool false, .bool false, .bool false, .bool false, .bool false, .bool false, .bool false, .bool false, .bool false, .bool false, .bool false, .bool false, .bool false, .bool false, .bool false, .bool false, .bool false, .bool false, .bool false, .bool false, .bool false, .bool false, .bool false, .bool false, .bool false, .bool false, .bool false, .bool false, .bool false, .bool false, .bool false, .bool false, .bool false, .bool false, .bool false, .bool false, .bool false, .bool false, .bool false, .bool false, .bool false, .bool false, .bool false, .bool false, .bool false, .bool false, .bool false, .bool false, .bool false, .bool false, .bool false, .bool false, .bool false, .bool false, .bool false, .bool false, .bool false, .bool false, .bool false, .bool false, .bool false, .bool false, .bool false, .bool false, .bool false, .bool false, .bool false, .bool false, .bool false, .bool false, .bool false, .bool false, .bool false, .bool false, .bool false, .bool false, .bool false, .bool false, .bool false, .bool false, .bool false, .bool false, .bool false, .bool false, .bool false, .bool false, .bool false, .bool false, .bool false, .bool false, .bool false, .bool false, .bool false, .bool false] 0 (List.take 128 (List.drop 0 l4))))), .bool b0]))
 none)
 none)
 none)
 none)
 none))
theorem K_ref01_sum_116 (j : Jump) (n : Nat) (m116 : Nat) (b0 : Bool) (x1 : Int) (l2 : List AV) (l3 : List AV) (l4 : List AV) : enter (topEnv C (CP C n) n F_ref01_sum) (some j) (bodyOf C.P F_ref01_sum) (endOf C.P F_ref01_sum) [false, false, true, false, true, true] [(m116 + 1)] (S_ref01_sum_116 b0 x1 l2 l3 l4) = T_ref01_sum_116 (CP C n) b0 x1 l2 l3 l4 (fun b0 x1 x2 l3 l4 l5 => j [true, true, false, false, true, false, false, true, false, true, true] [m116] (S_ref01_sum_3731 b0 x1 x2 l3 l4 l5)) := by kernel_rfl
def J_ref01_sum_116 (cp : FuncId → List AV → Option AV) (n : Nat) : Nat → Bool → Int → List AV → List AV → List AV → Option AV
  | 0 => (fun b0 x1 l2 l3 l4 => none)
  | m + 1 => (fun b0 x1 l2 l3 l4 => T_ref01_sum_116 cp b0 x1 l2 l3 l4 (J_ref01_sum_3731 cp n (J_ref01_sum_116 cp n m)))
theorem Js_ref01_sum_116 (cp : FuncId → List AV → Option AV) (n : Nat) (m : Nat) (b0 : Bool) (x1 : Int) (l2 : List AV) (l3 : List AV) (l4 : List AV) : J_ref01_sum_116 cp n (m + 1) b0 x1 l2 l3 l4 = T_ref01_sum_116 cp b0 x1 l2 l3 l4 (J_ref01_sum_3731 cp n (J_ref01_sum_116 cp n m)) := of_eq_true (eq_self _)
theorem JE_ref01_sum_116 (n : Nat) : ∀ (m : Nat) (b0 : Bool) (x1 : Int) (l2 : List AV) (l3 : List AV) (l4 : List AV), jT (topEnv C (CP C n) n F_ref01_sum) (bodyOf C.P F_ref01_sum) (endOf C.P F_ref01_sum) [false, false, true, false, true, true] [m] (S_ref01_sum_116 b0 x1 l2 l3 l4) = J_ref01_sum_116 (CP C n) n m b0 x1 l2 l3 l4
  | 0, b0, x1, l2, l3, l4 => (jT_eq _ _ _ _ _ _).trans (by kernel_rfl)
  | m + 1, b0, x1, l2, l3, l4 => (jT_eq _ _ _ _ _ _).trans ((K_ref01_sum_116 _ n m b0 x1 l2 l3 l4).trans (congrArg (T_ref01_sum_116 (CP C n) b0 x1 l2 l3 l4) (funext fun b0 => (funext fun x1 => (funext fun x2 => (funext fun l3 => (funext fun l4 => (funext fun l5 => (JE_ref01_sum_3731 n m (J_ref01_sum_116 (CP C n) n m) (JE_ref01_sum_116 n m)) b0 x1 x2 l3 l4 l5))))))))
def T_ref01_sum_1 (cp : FuncId → List AV → Option AV) (a0 : List AV) (a1 : List AV) (a2 : Bool) (j116 : Bool → Int → List AV → List AV → List AV → Option AV) : Option AV :=
 (j116 a2 0 a0 a1 [.bool false, .bool false, .bool false, .bool false, .bool false, .bool false, .bool false, .bool false, .bool false, .bool false, .bool false, .bool false, .bool false, .bool false, .bool false, .bool false, .bool false, .bool false, .bool false, .bool false, .bool false, .bool false, .bool false, .bool false, .bool false, .bool false, .bool false, .bool false, .bool false, .bool false, .bool false, .bool false, .bool false, .bool false, .bool false, .bool false, .bool false, .bool false, .bool false, .bool false, .bool false, .bool false, .bool false, .bool false, .bool false, .bool false, .bool false, .bool false, .bool false, .bool false, .bool false, .bool false, .bool false, .bool false, .bool false, .bool false, .bool false, .bool false, .bool false, .bool false, .bool false, .bool false, .bool false, .bool false, .bool false, .bool false, .bool false, .bool false, .bool false, .bool false, .bool false, .bool false, .bool false, .bool false, .bool false, .bool false, .bool false, .bool false, .bool false, .bool false, .bool false, .bool false, .bool false, .bool false, .bool false, .bool false, .bool false, .bool false, .bool false, .bool false, .bool false, .bool false, .bool false, .bool false, .bool false, .bool false, .bool false, .bool false, .bool false, .bool false, .bool false, .bool false, .bool false, .bool false, .bool false, .bool false, .bool false, .bool false, .bool false, .bool false, .bool false, .bool false, .bool false, .bool false, .bool false, .bool false, .bool false, .bool false, .bool false, .bool false, .bool false, .bool false, .bool false, .bool false, .bool false, .bool false, .bool false, .bool false])
theorem K_ref01_sum_1 (j : Jump) (n : Nat) (a0 : List AV) (a1 : List AV) (a2 : Bool) : ex (topEnv C (CP C n) n F_ref01_sum) (some j) (bodyOf C.P F_ref01_sum) 1 [] [] (endOf C.P F_ref01_sum) (startOf C.P F_ref01_sum [.agg a0, .agg a1, .bool a2]) = T_ref01_sum_1 (CP C n) a0 a1 a2 (fun b0 x1 l2 l3 l4 => j [false, false, true, false, true, true] [(n + 300)] (S_ref01_sum_116 b0 x1 l2 l3 l4)) := by kernel_rfl
def R_ref01_sum (cp : FuncId → List AV → Option AV) (n : Nat) (a0 : List AV) (a1 : List AV) (a2 : Bool) : Option AV := T_ref01_sum_1 cp a0 a1 a2 (J_ref01_sum_116 cp n (n + 300))
theorem eq_ref01_sum (n : Nat) (a0 : List AV) (a1 : List AV) (a2 : Bool) : CP C (n + 1) F_ref01_sum [.agg a0, .agg a1, .bool a2] = cond (AV.pureL [.agg a0, .agg a1, .bool a2]) (R_ref01_sum (CP C n) n a0 a1 a2) none :=
  (CP_run C n F_ref01_sum _ (by kernel_rfl)).trans (congrArg (fun x => cond (AV.pureL [.agg a0, .agg a1, .bool a2]) x none) ((K_ref01_sum_1 _ n a0 a1 a2).trans (congrArg (T_ref01_sum_1 (CP C n) a0 a1 a2) (funext fun b0 => (funext fun x1 => (funext fun l2 => (funext fun l3 => (funext fun l4 => (JE_ref01_sum_116 n (n + 300)) b0 x1 l2 l3 l4))))))))
-- ref01_Add
def R_ref01_Add (cp : FuncId → List AV → Option AV) (_n : Nat) (a0_0 : Int) (a0_1 : Int) (a1_0 : Int) (a1_1 : Int) : Option AV :=
 ((cp F_ref01_bits [.agg [.int .u64 a0_0, .int .u64 a0_1]]).bind fun r_1 =>
 (AV.aggK r_1 fun l_2 =>
 ((cp F_ref01_bits [.agg [.int .u64 a1_0, .int .u64 a1_1]]).bind fun r_3 =>
 (AV.aggK r_3 fun l_4 =>
 (cond ((AV.pureL l_2) && ((AV.pureL l_4) && true))
 ((cp F_ref01_sum [.agg l_2, .agg l_4, .bool false]).bind fun r_5 =>
 (AV.tupK r_5 fun l_6 =>
 (consK l_6 fun v_7 l_8 =>
 (AV.aggK v_7 fun l_9 =>
 (consK l_8 fun v_10 l_11 =>
 (AV.boolK v_10 fun b_12 =>
 (nilK l_11
 (cond (lenIs l_9 128)
 (cond (cellsOk l_9)
 (cond (fits 0 128 (splice [.bool false, .bool false, .bool false, .bool false, .bool false, .bool false, .bool false, .bool false, .bool false, .bool false, .bool false, .bool false, .bool false, .bool false, .bool false, .bool false, .bool false, .bool false, .bool false, .bool false, .bool false, .bool false, .bool false, .bool false, .bool false, .bool false, .bool false, .bool false, .bool false, .bool false, .bool false, .bool false, .bool false, .bool false, .bool false, .bool false, .bool false, .bool false, .bool false, .bool false, .bool false, .bool false, .bool false, .bool false, .bool false, .bool false, .bool false, .bool false, .bool false, .bool false, .bool false, .bool false, .bool false, .bool false, .bool false, .bool false, .bool false, .bool false, .bool false, .bool false, .bool false, .bool false, .bool false, .bool false, .bool false, .bool false, .bool false, .bool false, .bool false, .bool false, .bool false, .bool false, .bool false, .bool false, .bool false, .bool false, .bool false, .bool false, .bool false, .bool false, .bool false, .bool false, .bool false, .bool false, .bool false, .bool false, .bool false, .bool false, .bool false, .bool false, .bool false, .bool false, .bool false, .bool false, .bool false, .bool false, .bool false, .bool false, .bool false, .bool false, .bool false, .bool false, .bool false, .bool false, .bool false, .bool false, .bool false, .bool false, .bool false, .bool false, .bool false, .bool false, .bool false, .bool false, .bool false, .bool false, .bool false, .bool false, .bool false, .bool false, .bool false, .bool false, .bool false, .bool false, .bool false, .bool false, .bool false, .bool false] 0 l_9))
 (cond ((AV.pureL (List.take 128 (List.drop 0 (splice [.bool false, .bool false, .bool false, .bool false, .bool false, .bool false, .bool false, .bool false, .bool false, .bool false, .bool false, .bool false, .bool false, .bool false, .bool false, .bool false, .bool false, .bool false, .bool false, .bool false, .bool false, .bool false, .bool false, .bool false, .bool false, .bool false, .bool false, .bool false, .bool false, .bool false, .bool false, .bool false, .bool false, .bool false, .bool false, .bool false, .bool false, .bool false, .bool false, .bool false, .bool false, .bool false, .bool false, .bool false, .bool false, .bool false, .bool false, .bool false, .bool false, .bool false, .bool false, .bool false, .bool false, .bool false, .bool false, .bool false, .bool false, .bool false, .bool false, .bool false, .bool false, .bool false, .bool false, .bool false, .bool false, .bool false, .bool false, .bool false, .bool false, .bool false, .bool false, .bool false, .bool false, .bool false, .bool false, .bool false, .bool false, .bool false, .bool false, .bool false, .bool false, .bool false, .bool false, .bool false, .bool false, .bool false, .bool false, .bool false, .bool false, .bool false, .bool false, .bool false, .bool false, .bool false, .bool false, .bool false, .bool false, .bool false, .bool false, .bool false, .bool false, .bool false, .bool false, .bool false, .bool false, .bool false, .bool false, .bool false, .bool false, .bool false, .bool false, .bool false, .bool false, .bool false, .bool false, .bool false, .bool false, .bool false, .bool false, .bool false, .bool false, .bool false, .bool false, .bool false, .bool false, .bool false, .bool false, .bool false] 0 l_9)))) && true)
 ((cp F_ref01_wide [.agg (List.take 128 (List.drop 0 (splice [.bool false, .bool false, .bool false, .bool false, .bool false, .bool false, .bool false, .bool false, .bool false, .bool false, .bool false, .bool false, .bool false, .bool false, .bool false, .bool false, .bool false, .bool false, .bool false, .bool false, .bool false, .bool false, .bool false, .bool false, .bool false, .bool false, .bool false, .bool false, .bool false, .bool false, .bool false, .bool false, .bool false, .bool false, .bool false, .bool false, .bool false, .bool false, .bool false, .bool false, .bool false, .bool false, .bool false, .bool false, .bool false, .bool false, .bool false, .bool false, .bool false, .bool false, .bool false, .bool false, .bool false, .bool false, .bool false, .bool false, .bool false, .bool false, .bool false, .bool false, .bool false, .bool false, .bool false, .bool false, .bool false, .bool false, .bool false, .bool false, .bool false, .bool false, .bool false, .bool false, .bool false, .bool false, .bool false, .bool false, .bool false, .bool false, .bool false, .bool false, .bool false, .bool false, .bool false, .bool false, .bool false, .bool false, .bool false, .bool false, .bool false, .bool false, .bool false, .bool false, .bool false, .bool false, .bool false, .bool false, .bool false, .bool false, .bool false, .bool false, .bool false, .bool false, .bool false, .bool false, .bool false, .bool false, .bool false, .bool false, .bool false, .bool false, .bool false, .bool false, .bool false, .bool false, .bool false, .bool false, .bool false, .bool false, .bool false, .bool false, .bool false, .bool false, .bool false, .bool false, .bool false, .bool false, .bool false, .bool false] 0 l_9)))]).bind fun r_13 =>
 (AV.aggK r_13 fun l_14 =>
 (consK l_14 fun v_15 l_16 =>
 (AV.intK .u64 v_15 fun i_17 =>
 (consK l_16 fun v_18 l_19 =>
 (AV.intK .u64 v_18 fun i_20 =>
 (nilK l_19
 (some (.tup [.agg [.int .u64 i_17, .int .u64 i_20], .bool b_12])))))))))
 none)
 none)
 none)
 none))))))))
 none)))))
theorem eq_ref01_Add (n : Nat) (a0_0 : Int) (a0_1 : Int) (a1_0 : Int) (a1_1 : Int) : CP C (n + 1) F_ref01_Add [.agg [.int .u64 a0_0, .int .u64 a0_1], .agg [.int .u64 a1_0, .int .u64 a1_1]] = R_ref01_Add (CP C n) n a0_0 a0_1 a1_0 a1_1 := by kernel_rfl
-- ref01_turned
def S_ref01_turned_52 (x0 : Int) (l1 : List AV) : St := ⟨[.junk, .ptr (some (0, 0)), .ptr (some (1, 0)), .int .i64 x0, .junk, .junk, .junk, .junk, .junk, .junk, .junk, .junk, .junk, .junk, .junk], [.cells 54 l1, .cells 54 [.bool false, .bool false, .bool false, .bool false, .bool false, .bool false, .bool false, .bool false, .bool false, .bool false, .bool false, .bool false, .bool false, .bool false, .bool false, .bool false, .bool false, .bool false, .bool false, .bool false, .bool false, .bool false, .bool false, .bool false, .bool false, .bool false, .bool false, .bool false, .bool false, .bool false, .bool false, .bool false, .bool false, .bool false, .bool false, .bool false, .bool false, .bool false, .bool false, .bool false, .bool false, .bool false, .bool false, .bool false, .bool false, .bool false, .bool false, .bool false, .bool false, .bool false, .bool false, .bool false, .bool false, .bool false, .bool false, .bool false, .bool false, .bool false, .bool false, .bool false, .bool false, .bool false, .bool false, .bool false, .bool false, .bool false, .bool false, .bool false, .bool false, .bool false, .bool false, .bool false, .bool false, .bool false, .bool false, .bool false, .bool false, .bool false, .bool false, .bool false, .bool false, .bool false, .bool false, .bool false, .bool false, .bool false, .bool false, .bool false, .bool false, .bool false, .bool false, .bool false, .bool false, .bool false, .bool false, .bool false, .bool false, .bool false, .bool false, .bool false, .bool false, .bool false, .bool false, .bool false, .bool false, .bool false, .bool false, .bool false, .bool false, .bool false, .bool false, .bool false, .bool false, .bool false, .bool false, .bool false, .bool false, .bool false, .bool false, .bool false, .bool false, .bool false, .bool false, .bool false, .bool false, .bool false, .bool false, .bool false]]⟩
def T_ref01_turned_52 (cp : FuncId → List AV → Option AV) (x0 : Int) (l1 : List AV) (r52 : Int → List AV → Option AV) : Option AV :=
 (cond (decide (x0 < 128))
 (cond ((decide (0 ≤ x0)) && (decide (x0 < 128)))
 (cond (fits (0 + ((Int.toNat x0) * 1)) 1 l1)
 (unK .not (nth l1 (0 + ((Int.toNat x0) * 1))) fun v_1 =>
 (cond ((decide (0 ≤ x0)) && (decide (x0 < 128)))
 (cond (lenIs (cellsOf v_1) 1)
 (cond (cellsOk (cellsOf v_1))
 (cond (fits (0 + ((Int.toNat x0) * 1)) 1 l1)
 (r52 (IntKind.i64.wrap (x0 + 1)) (splice l1 (0 + ((Int.toNat x0) * 1)) (cellsOf v_1)))
 none)
 none)
 none)
 none))
 none)
 none)
 (cond (fits 0 128 l1)
 (cond (lenIs (List.take 128 (List.drop 0 l1)) 128)
 (cond (cellsOk (List.take 128 (List.drop 0 l1)))
 (cond (fits 0 128 (splice [.bool false, .bool false, .bool false, .bool false, .bool false, .bool false, .bool false, .bool false, .bool false, .bool false, .bool false, .bool false, .bool false, .bool false, .bool false, .bool false, .bool false, .bool false, .bool false, .bool false, .bool false, .bool false, .bool false, .bool false, .bool false, .bool false, .bool false, .bool false, .bool false, .bool false, .bool false, .bool false, .bool false, .bool false, .bool false, .bool false, .bool false, .bool false, .bool false, .bool false, .bool false, .bool false, .bool false, .bool false, .bool false, .bool false, .bool false, .bool false, .bool false, .bool false, .bool false, .bool false, .bool false, .bool false, .bool false, .bool false, .bool false, .bool false, .bool false, .bool false, .bool false, .bool false, .bool false, .bool false, .bool false, .bool false, .bool false, .bool false, .bool false, .bool false, .bool false, .bool false, .bool false, .bool false, .bool false, .bool false, .bool false, .bool false, .bool false, .bool false, .bool false, .bool false, .bool false, .bool false, .bool false, .bool false, .bool false, .bool false, .bool false, .bool false, .bool false, .bool false, .bool false, .bool false, .bool false, .bool false, .bool false, .bool false, .bool false, .bool false, .bool false, .bool false, .bool false, .bool false, .bool false, .bool false, .bool false, .bool false, .bool false, .bool false, .bool false, .bool false, .bool false, .bool false, .bool false, .bool false, .bool false, .bool false, .bool false, .bool false, .bool false, .bool false, .bool false, .bool false, .bool false, .bool false, .bool false, .bool false] 0 (List.take 128 (List.drop 0 l1))))
 (cond (AV.pureL (List.take 128 (List.drop 0 (splice [.bool false, .bool false, .bool false, .bool false, .bool false, .bool false, .bool false, .bool false, .bool false, .bool false, .bool false, .bool false, .bool false, .bool false, .bool false, .bool false, .bool false, .bool false, .bool false, .bool false, .bool false, .bool false, .bool false, .bool false, .bool false, .bool false, .bool false, .bool false, .bool false, .bool false, .bool false, .bool false, .bool false, .bool false, .bool false, .bool false, .bool false, .bool false, .bool false, .bool false, .bool false, .bool false, .bool false, .bool false, .bool false, .bool false, .bool false, .bool false, .bool false, .bool false, .bool false, .bool false, .bool false, .bool false, .bool false, .bool false, .bool false, .bool false, .bool false, .bool false, .bool false, .bool false, .bool false, .bool false, .bool false, .bool false, .bool false, .bool false, .bool false, .bool false, .bool false, .bool false, .bool false, .bool false, .bool false, .bool false, .bool false, .bool false, .bool false, .bool false, .bool false, .bool false, .bool false, .bool false, .bool false, .bool false, .bool false, .bool false, .bool false, .bool false, .bool false, .bool false, .bool false, .bool false, .bool false, .bool false, .bool false, .bool false, .bool false, .bool false, .bool false, .bool false, .bool false, .bool false, .bool false, .bool false, .bool false, .bool false, .bool false, .bool false, .bool false, .bool false, .bool false, .bool false, .bool false, .bool false, .bool false, .bool false, .bool false, .bool false, .bool false, .bool false, .bool false, .bool false, .bool false, .bool false, .bool false, .bool false] 0 (List.take 128 (List.drop 0 l1))))))
 (some (.agg (List.take 128 (List.drop 0 (splice [.bool false, .bool false, .bool false, .bool false, .bool false, .bool false, .bool false, .bool false, .bool false, .bool false, .bool false, .bool false, .bool false, .bool false, .bool false, .bool false, .bool false, .bool false, .bool false, .bool false, .bool false, .bool false, .bool false, .bool false, .bool false, .bool false, .bool false, .bool false, .bool false, .bool false, .bool false, .bool false, .bool false, .bool false, .bool false, .bool false, .bool false, .bool false, .bool false, .bool false, .bool false, .bool false, .bool false, .bool false, .bool false, .bool false, .bool false, .bool false, .bool false, .bool false, .bool false, .bool false, .bool false, .bool false, .bool false, .bool false, .bool false, .bool false, .bool false, .bool false, .bool false, .bool false, .bool false, .bool false, .bool false, .bool false, .bool false, .bool false, .bool false, .bool false, .bool false, .bool false, .bool false, .bool false, .bool false, .bool false, .bool false, .bool false, .bool false, .bool false, .bool false, .bool false, .bool false, .bool false, .bool false, .bool false, .bool false, .bool false, .bool false, .bool false, .bool false, .bool false, .bool false, .bool false, .bool false, .bool false, .bool false, .bool false, .bool false, .bool false, .bool false, .bool false, .bool false, .bool false, .bool false, .bool false, .bool false, .bool false, .bool false, .bool false, .bool false, .bool false, .bool false, .bool false, .bool false, .bool false, .bool false, .bool false, .bool false, .bool false, .bool false, .bool false, .bool false, .bool false, .bool false, .bool false, .bool false, .bool false] 0 (List.take 128 (List.drop 0 l1)))))))
 none)
 none)
 none)
 none)
 none))
theorem K_ref01_turned_52 (j : Jump) (n : Nat) (m52 : Nat) (x0 : Int) (l1 : List AV) : enter (topEnv C (CP C n) n F_ref01_turned) (some j) (bodyOf C.P F_ref01_turned) (endOf C.P F_ref01_turned) [false, false, true, false, true] [(m52 + 1)] (S_ref01_turned_52 x0 l1) = T_ref01_turned_52 (CP C n) x0 l1 (fun x0 l1 => j [false, false, true, false, true] [m52] (S_ref01_turned_52 x0 l1)) := by kernel_rfl
def J_ref01_turned_52 (cp : FuncId → List AV → Option AV) (n : Nat) : Nat → Int → List AV → Option AV
  | 0 => (fun x0 l1 => none)
  | m + 1 => (fun x0 l1 => T_ref01_turned_52 cp x0 l1 (J_ref01_turned_52 cp n m))
theorem Js_ref01_turned_52 (cp : FuncId → List AV → Option AV) (n : Nat) (m : Nat) (x0 : Int) (l1 : List AV) : J_ref01_turned_52 cp n (m + 1) x0 l1 = T_ref01_turned_52 cp x0 l1 (J_ref01_turned_52 cp n m) := of_eq_true (eq_self _)
theorem JE_ref01_turned_52 (n : Nat) : ∀ (m : Nat) (x0 : Int) (l1 : List AV), jT (topEnv C (CP C n) n F_ref01_turned) (bodyOf C.P F_ref01_turned) (endOf C.P F_ref01_turned) [false, false, true, false, true] [m] (S_ref01_turned_52 x0 l1) = J_ref01_turned_52 (CP C n) n m x0 l1
  | 0, x0, l1 => (jT_eq _ _ _ _ _ _).trans (by kernel_rfl)
  | m + 1, x0, l1 => (jT_eq _ _ _ _ _ _).trans ((K_ref01_turned_52 _ n m x0 l1).trans (congrArg (T_ref01_turned_52 (CP C n) x0 l1) (funext fun x0 => (funext fun l1 => (JE_ref01_turned_52 n m) x0 l1))))
def T_ref01_turned_1 (cp : FuncId → List AV → Option AV) (a0 : List AV) (j52 : Int → List AV → Option AV) : Option AV :=
 (j52 0 a0)
theorem K_ref01_turned_1 (j : Jump) (n : Nat) (a0 : List AV) : ex (topEnv C (CP C n) n F_ref01_turned) (some j) (bodyOf C.P F_ref01_turned) 1 [] [] (endOf C.P F_ref01_turned) (startOf C.P F_ref01_turned [.agg a0]) = T_ref01_turned_1 (CP C n) a0 (fun x0 l1 => j [false, false, true, false, true] [(n + 300)] (S_ref01_turned_52 x0 l1)) := by kernel_rfl
def R_ref01_turned (cp : FuncId → List AV → Option AV) (n : Nat) (a0 : List AV) : Option AV := T_ref01_turned_1 cp a0 (J_ref01_turned_52 cp n (n + 300))
theorem eq_ref01_turned (n : Nat) (a0 : List AV) : CP C (n + 1) F_ref01_turned [.agg a0] = cond (AV.pureL [.agg a0]) (R_ref01_turned (CP C n) n a0) none :=
  (CP_run C n F_ref01_turned _ (by kernel_rfl)).trans (congrArg (fun x => cond (AV.pureL [.agg a0]) x none) ((K_ref01_turned_1 _ n a0).trans (congrArg (T_ref01_turned_1 (CP C n) a0) (funext fun x0 => (funext fun l1 => (JE_ref01_turned_52 n (n + 300)) x0 l1)))))
-- ref01_Sub
def R_ref01_Sub (cp : FuncId → List AV → Option AV) (_n : Nat) (a0_0 : Int) (a0_1 : Int) (a1_0 : Int) (a1_1 : Int) : Option AV :=
 ((cp F_ref01_bits [.agg [.int .u64 a0_0, .int .u64 a0_1]]).bind fun r_1 =>
 (AV.aggK r_1 fun l_2 =>
 ((cp F_ref01_bits [.agg [.int .u64 a1_0, .int .u64 a1_1]]).bind fun r_3 =>
 (AV.aggK r_3 fun l_4 =>
 (cond ((AV.pureL l_4) && true)
 ((cp F_ref01_turned [.agg l_4]).bind fun r_5 =>
 (AV.aggK r_5 fun l_6 =>
 (cond ((AV.pureL l_2) && ((AV.pureL l_6) && true))
 ((cp F_ref01_sum [.agg l_2, .agg l_6, .bool true]).bind fun r_7 =>
 (AV.tupK r_7 fun l_8 =>
 (consK l_8 fun v_9 l_10 =>
 (AV.aggK v_9 fun l_11 =>
 (consK l_10 fun v_12 l_13 =>
 (AV.boolK v_12 fun b_14 =>
 (nilK l_13
 (cond (lenIs l_11 128)
 (cond (cellsOk l_11)
 (cond (fits 0 128 (splice [.bool false, .bool false, .bool false, .bool false, .bool false, .bool false, .bool false, .bool false, .bool false, .bool false, .bool false, .bool false, .bool false, .bool false, .bool false, .bool false, .bool false, .bool false, .bool false, .bool false, .bool false, .bool false, .bool false, .bool false, .bool false, .bool false, .bool false, .bool false, .bool false, .bool false, .bool false, .bool false, .bool false, .bool false, .bool false, .bool false, .bool false, .bool false, .bool false, .bool false, .bool false, .bool false, .bool false, .bool false, .bool false, .bool false, .bool false, .bool false, .bool false, .bool false, .bool false, .bool false, .bool false, .bool false, .bool false, .bool false, .bool false, .bool false, .bool false, .bool false, .bool false, .bool false, .bool false, .bool false, .bool false, .bool false, .bool false, .bool false, .bool false, .bool false, .bool false, .bool false, .bool false, .bool false, .bool false, .bool false, .bool false, .bool false, .bool false, .bool false, .bool false, .bool false, .bool false, .bool false, .bool false, .bool false, .bool false, .bool false, .bool false, .bool false, .bool false, .bool false, .bool false, .bool false, .bool false, .bool false, .bool false, .bool false, .bool false, .bool false, .bool false, .bool false, .bool false, .bool false, .bool false, .bool false, .bool false, .bool false, .bool false, .bool false, .bool false, .bool false, .bool false, .bool false, .bool false, .bool false, .bool false, .bool false, .bool false, .bool false, .bool false, .bool false, .bool false, .bool false, .bool false, .bool false, .bool false, .bool false] 0 l_11))
 (cond ((AV.pureL (List.take 128 (List.drop 0 (splice [.bool false, .bool false, .bool false, .bool false, .bool false, .bool false, .bool false, .bool false, .bool false, .bool false, .bool false, .bool false, .bool false, .bool false, .bool false, .bool false, .bool false, .bool false, .bool false, .bool false, .bool false, .bool false, .bool false, .bool false, .bool false, .bool false, .bool false, .bool false, .bool false, .bool false, .bool false, .bool false, .bool false, .bool false, .bool false, .bool false, .bool false, .bool false, .bool false, .bool false, .bool false, .bool false, .bool false, .bool false, .bool false, .bool false, .bool false, .bool false, .bool false, .bool false, .bool false, .bool false, .bool false, .bool false, .bool false, .bool false, .bool false, .bool false, .bool false, .bool false, .bool false, .bool false, .bool false, .bool false, .bool false, .bool false, .bool false, .bool false, .bool false, .bool false, .bool false, .bool false, .bool false, .bool false, .bool false, .bool false, .bool false, .bool false, .bool false, .bool false, .bool false, .bool false, .bool false, .bool false, .bool false, .bool false, .bool false, .bool false, .bool false, .bool false, .bool false, .bool false, .bool false, .bool false, .bool false, .bool false, .bool false, .bool false, .bool false, .bool false, .bool false, .bool false, .bool false, .bool false, .bool false, .bool false, .bool false, .bool false, .bool false, .bool false, .bool false, .bool false, .bool false, .bool false, .bool false, .bool false, .bool false, .bool false, .bool false, .bool false, .bool false, .bool false, .bool false, .bool false, .bool false, .bool false, .bool false, .bool false] 0 l_11)))) && true)
 ((cp F_ref01_wide [.agg (List.take 128 (List.drop 0 (splice [.bool false, .bool false, .bool false, .bool false, .bool false, .bool false, .bool false, .bool false, .bool false, .bool false, .bool false, .bool false, .bool false, .bool false, .bool false, .bool false, .bool false, .bool false, .bool false, .bool false, .bool false, .bool false, .bool false, .bool false, .bool false, .bool false, .bool false, .bool false, .bool false, .bool false, .bool false, .bool false, .bool false, .bool false, .bool false, .bool false, .bool false, .bool false, .bool false, .bool false, .bool false, .bool false, .bool false, .bool false, .bool false, .bool false, .bool false, .bool false, .bool false, .bool false, .bool false, .bool false, .bool false, .bool false, .bool false, .bool false, .bool false, .bool false, .bool false, .bool false, .bool false, .bool false, .bool false, .bool false, .bool false, .bool false, .bool false, .bool false, .bool false, .bool false, .bool false, .bool false, .bool false, .bool false, .bool false, .bool false, .bool false, .bool false, .bool false, .bool false, .bool false, .bool false, .bool false, .bool false, .bool false, .bool false, .bool false, .bool false, .bool false, .bool false, .bool false, .bool false, .bool false, .bool false, .bool false, .bool false, .bool false, .bool false, .bool false, .bool false, .bool false, .bool false, .bool false, .bool false, .bool false, .bool false, .bool false, .bool false, .bool false, .bool false, .bool false, .bool false, .bool false, .bool false, .bool false, .bool false, .bool false, .bool false, .bool false, .bool false, .bool false, .bool false, .bool false, .bool false, .bool false, .bool false, .bool false, .bool false] 0 l_11)))]).bind fun r_15 =>
 (AV.aggK r_15 fun l_16 =>
 (consK l_16 fun v_17 l_18 =>
 (AV.intK .u64 v_17 fun i_19 =>
 (consK l_18 fun v_20 l_21 =>
 (AV.intK .u64 v_20 fun i_22 =>
 (nilK l_21
 (some (.tup [.agg [.int .u64 i_19, .int .u64 i_22], .bool (!b_14)])))))))))
 none)
 none)
 none)
 none))))))))
 none)))
 none)))))
theorem eq_ref01_Sub (n : Nat) (a0_0 : Int) (a0_1 : Int) (a1_0 : Int) (a1_1 : Int) : CP C (n + 1) F_ref01_Sub [.agg [.int .u64 a0_0, .int .u64 a0_1], .agg [.int .u64 a1_0, .int .u64 a1_1]] = R_ref01_Sub (CP C n) n a0_0 a0_1 a1_0 a1_1 := by kernel_rfl
-- wide_Neg
def R_wide_Neg (cp : FuncId → List AV → Option AV) (_n : Nat) (a0_0 : Int) (a0_1 : Int) : Option AV :=
 ((cp F_wide_Sub [.agg [.int .u64 0, .int .u64 0], .agg [.int .u64 a0_0, .int .u64 a0_1]]).bind fun r_1 =>
 (AV.tupK r_1 fun l_2 =>
 (consK l_2 fun v_3 l_4 =>
 (AV.aggK v_3 fun l_5 =>
 (consK l_5 fun v_6 l_7 =>
 (AV.intK .u64 v_6 fun i_8 =>
 (consK l_7 fun v_9 l_10 =>
 (AV.intK .u64 v_9 fun i_11 =>
 (nilK l_10
 (consK l_4 fun v_12 l_13 =>
 (AV.boolK v_12 fun b_14 =>
 (nilK l_13
 (some (.agg [.int .u64 i_8, .int .u64 i_11]))))))))))))))
theorem eq_wide_Neg (n : Nat) (a0_0 : Int) (a0_1 : Int) : CP C (n + 1) F_wide_Neg [.agg [.int .u64 a0_0, .int .u64 a0_1]] = R_wide_Neg (CP C n) n a0_0 a0_1 := by kernel_rfl
-- ref01_Neg
def R_ref01_Neg (cp : FuncId → List AV → Option AV) (_n : Nat) (a0_0 : Int) (a0_1 : Int) : Option AV :=
 ((cp F_ref01_Sub [.agg [.int .u64 0, .int .u64 0], .agg [.int .u64 a0_0, .int .u64 a0_1]]).bind fun r_1 =>
 (AV.tupK r_1 fun l_2 =>
 (consK l_2 fun v_3 l_4 =>
 (AV.aggK v_3 fun l_5 =>
 (consK l_5 fun v_6 l_7 =>
 (AV.intK .u64 v_6 fun i_8 =>
 (consK l_7 fun v_9 l_10 =>
 (AV.intK .u64 v_9 fun i_11 =>
 (nilK l_10
 (consK l_4 fun v_12 l_13 =>
 (AV.boolK v_12 fun b_14 =>
 (nilK l_13
 (some (.agg [.int .u64 i_8, .int .u64 i_11]))))))))))))))
theorem eq_ref01_Neg (n : Nat) (a0_0 : Int) (a0_1 : Int) : CP C (n + 1) F_ref01_Neg [.agg [.int .u64 a0_0, .int .u64 a0_1]] = R_ref01_Neg (CP C n) n a0_0 a0_1 := by kernel_rfl
-- wide_Cmp
def R_wide_Cmp (cp : FuncId → List AV → Option AV) (_n : Nat) (a0_0 : Int) (a0_1 : Int) (a1_0 : Int) (a1_1 : Int) : Option AV :=
 (cond ((a0_0 == a1_0) && ((a0_1 == a1_1) && true))
 (some (.int .i64 0))
 ((cp F_wide_Sub [.agg [.int .u64 a0_0, .int .u64 a0_1], .agg [.int .u64 a1_0, .int .u64 a1_1]]).bind fun r_1 =>
 (AV.tupK r_1 fun l_2 =>
 (consK l_2 fun v_3 l_4 =>
 (AV.aggK v_3 fun l_5 =>
 (consK l_5 fun v_6 l_7 =>
 (AV.intK .u64 v_6 fun i_8 =>
 (consK l_7 fun v_9 l_10 =>
 (AV.intK .u64 v_9 fun i_11 =>
 (nilK l_10
 (consK l_4 fun v_12 l_13 =>
 (AV.boolK v_12 fun b_14 =>
 (nilK l_13
 (cond b_14
 (some (.int .i64 (-1)))
 (some (.int .i64 1))))))))))))))))
theorem eq_wide_Cmp (n : Nat) (a0_0 : Int) (a0_1 : Int) (a1_0 : Int) (a1_1 : Int) : CP C (n + 1) F_wide_Cmp [.agg [.int .u64 a0_0, .int .u64 a0_1], .agg [.int .u64 a1_0, .int .u64 a1_1]] = R_wide_Cmp (CP C n) n a0_0 a0_1 a1_0 a1_1 := by kernel_rfl
-- ref01_Cmp
def R_ref01_Cmp (cp : FuncId → List AV → Option AV) (_n : Nat) (a0_0 : Int) (a0_1 : Int) (a1_0 : Int) (a1_1 : Int) : Option AV :=
 (cond ((a0_0 == a1_0) && ((a0_1 == a1_1) && true))
 (some (.int .i64 0))
 (cond (decide (a0_0 < a1_0))
 (some (.int .i64 (-1)))
 (cond (a0_0 == a1_0)
 (cond (decide (a0_1 < a1_1))
 (some (.int .i64 (-1)))
 (some (.int .i64 1)))
 (some (.int .i64 1)))))
theorem eq_ref01_Cmp (n : Nat) (a0_0 : Int) (a0_1 : Int) (a1_0 : Int) (a1_1 : Int) : CP C (n + 1) F_ref01_Cmp [.agg [.int .u64 a0_0, .int .u64 a0_1], .agg [.int .u64 a1_0, .int .u64 a1_1]] = R_ref01_Cmp (CP C n) n a0_0 a0_1 a1_0 a1_1 := by kernel_rfl
-- wide_Signed
def R_wide_Signed (cp : FuncId → List AV → Option AV) (_n : Nat) (a0_0 : Int) (a0_1 : Int) (a1_0 : Int) (a1_1 : Int) : Option AV :=
 (bnd (IntKind.u64.wrap ((BitVec.ofInt 64 a0_0 ^^^ BitVec.ofInt 64 9223372036854775808).toNat : Int)) fun y_1 =>
 (bnd (IntKind.u64.wrap ((BitVec.ofInt 64 a1_0 ^^^ BitVec.ofInt 64 9223372036854775808).toNat : Int)) fun y_2 =>
 ((cp F_wide_Cmp [.agg [.int .u64 y_1, .int .u64 a0_1], .agg [.int .u64 y_2, .int .u64 a1_1]]).bind fun r_3 =>
 (AV.intK .i64 r_3 fun i_4 =>
 (some (.int .i64 i_4))))))
theorem eq_wide_Signed (n : Nat) (a0_0 : Int) (a0_1 : Int) (a1_0 : Int) (a1_1 : Int) : CP C (n + 1) F_wide_Signed [.agg [.int .u64 a0_0, .int .u64 a0_1], .agg [.int .u64 a1_0, .int .u64 a1_1]] = R_wide_Signed (CP C n) n a0_0 a0_1 a1_0 a1_1 := by kernel_rfl
-- ref01_Below
def R_ref01_Below (cp : FuncId → List AV → Option AV) (_n : Nat) (a0_0 : Int) (a0_1 : Int) : Option AV :=
 (some (.bool (decide (a0_0 ≥ 9223372036854775808))))
theorem eq_ref01_Below (n : Nat) (a0_0 : Int) (a0_1 : Int) : CP C (n + 1) F_ref01_Below [.agg [.int .u64 a0_0, .int .u64 a0_1]] = R_ref01_Below (CP C n) n a0_0 a0_1 := by kernel_rfl
-- ref01_Signed
def R_ref01_Signed (cp : FuncId → List AV → Option AV) (_n : Nat) (a0_0 : Int) (a0_1 : Int) (a1_0 : Int) (a1_1 : Int) : Option AV :=
 ((cp F_ref01_Below [.agg [.int .u64 a0_0, .int .u64 a0_1]]).bind fun r_1 =>
 (AV.boolK r_1 fun b_2 =>
 ((cp F_ref01_Below [.agg [.int .u64 a1_0, .int .u64 a1_1]]).bind fun r_3 =>
 (AV.boolK r_3 fun b_4 =>
 (cond (!(b_2 == b_4))
 ((cp F_ref01_Below [.agg [.int .u64 a0_0, .int .u64 a0_1]]).bind fun r_5 =>
 (AV.boolK r_5 fun b_6 =>
 (cond b_6
 (some (.int .i64 (-1)))
 (some (.int .i64 1)))))
 ((cp F_ref01_Cmp [.agg [.int .u64 a0_0, .int .u64 a0_1], .agg [.int .u64 a1_0, .int .u64 a1_1]]).bind fun r_7 =>
 (AV.intK .i64 r_7 fun i_8 =>
 (some (.int .i64 i_8)))))))))
theorem eq_ref01_Signed (n : Nat) (a0_0 : Int) (a0_1 : Int) (a1_0 : Int) (a1_1 : Int) : CP C (n + 1) F_ref01_Signed [.agg [.int .u64 a0_0, .int .u64 a0_1], .agg [.int .u64 a1_0, .int .u64 a1_1]] = R_ref01_Signed (CP C n) n a0_0 a0_1 a1_0 a1_1 := by kernel_rfl
-- law01_WideSums
def S_law01_WideSums_127 (b0 : Bool) : St := ⟨[.junk, .junk, .junk, .junk, .bool b0, .junk, .junk, .junk, .junk, .junk, .junk, .junk, .junk, .junk, .junk, .junk, .junk, .junk, .junk, .junk, .junk, .junk, .junk, .junk, .junk, .junk, .junk, .junk, .junk, .junk, .junk, .junk, .junk, .junk, .junk, .junk, .junk, .junk, .junk, .junk, .junk, .junk, .junk, .junk, .junk, .junk, .junk, .junk, .junk, .junk, .junk, .junk, .junk, .junk, .junk, .junk, .junk, .junk, .junk, .junk, .junk, .junk, .junk, .junk, .junk, .junk, .junk, .junk, .junk, .junk, .junk, .junk, .junk, .junk, .junk, .junk, .junk, .junk, .junk, .junk, .junk, .junk, .junk], [.dead, .dead, .dead, .dead, .dead, .dead]⟩
def T_law01_WideSums_127 (cp : FuncId → List AV → Option AV) (b0 : Bool) : Option AV :=
 (some (.bool b0))
theorem K_law01_WideSums_127 (j : Jump) (n : Nat) (b0 : Bool) : enter (topEnv C (CP C n) n F_law01_WideSums) (some j) (bodyOf C.P F_law01_WideSums) (endOf C.P F_law01_WideSums) [true, true, true, true, true, true] [] (S_law01_WideSums_127 b0) = T_law01_WideSums_127 (CP C n) b0 := by kernel_rfl
def J_law01_WideSums_127 (cp : FuncId → List AV → Option AV) (n : Nat) (b0 : Bool) : Option AV := T_law01_WideSums_127 cp b0
theorem JE_law01_WideSums_127 (n : Nat) (b0 : Bool) : jT (topEnv C (CP C n) n F_law01_WideSums) (bodyOf C.P F_law01_WideSums) (endOf C.P F_law01_WideSums) [true, true, true, true, true, true] [] (S_law01_WideSums_127 b0) = J_law01_WideSums_127 (CP C n) n b0 :=
  (jT_eq _ _ _ _ _ _).trans ((K_law01_WideSums_127 _ n b0).trans (rfl))
def T_law01_WideSums_1 (cp : FuncId → List AV → Option AV) (a0_0 : Int) (a0_1 : Int) (a1_0 : Int) (a1_1 : Int) (j127 : Bool → Option AV) : Option AV :=
 ((cp F_wide_Add [.agg [.int .u64 a0_0, .int .u64 a0_1], .agg [.int .u64 a1_0, .int .u64 a1_1]]).bind fun r_1 =>
 (AV.tupK r_1 fun l_2 =>
 (consK l_2 fun v_3 l_4 =>
 (AV.aggK v_3 fun l_5 =>
 (consK l_5 fun v_6 l_7 =>
 (AV.intK .u64 v_6 fun i_8 =>
 (consK l_7 fun v_9 l_10 =>
 (AV.intK .u64 v_9 fun i_11 =>
 (nilK l_10
 (consK l_4 fun v_12 l_13 =>
 (AV.boolK v_12 fun b_14 =>
 (nilK l_13
 ((cp F_ref01_Add [.agg [.int .u64 a0_0, .int .u64 a0_1], .agg [.int .u64 a1_0, .int .u64 a1_1]]).bind fun r_15 =>
 (AV.tupK r_15 fun l_16 =>
 (consK l_16 fun v_17 l_18 =>
 (AV.aggK v_17 fun l_19 =>
 (consK l_19 fun v_20 l_21 =>
 (AV.intK .u64 v_20 fun i_22 =>
 (consK l_21 fun v_23 l_24 =>
 (AV.intK .u64 v_23 fun i_25 =>
 (nilK l_24
 (consK l_18 fun v_26 l_27 =>
 (AV.boolK v_26 fun b_28 =>
 (nilK l_27
 ((cp F_wide_Sub [.agg [.int .u64 a0_0, .int .u64 a0_1], .agg [.int .u64 a1_0, .int .u64 a1_1]]).bind fun r_29 =>
 (AV.tupK r_29 fun l_30 =>
 (consK l_30 fun v_31 l_32 =>
 (AV.aggK v_31 fun l_33 =>
 (consK l_33 fun v_34 l_35 =>
 (AV.intK .u64 v_34 fun i_36 =>
 (consK l_35 fun v_37 l_38 =>
 (AV.intK .u64 v_37 fun i_39 =>
 (nilK l_38
 (consK l_32 fun v_40 l_41 =>
 (AV.boolK v_40 fun b_42 =>
 (nilK l_41
 ((cp F_ref01_Sub [.agg [.int .u64 a0_0, .int .u64 a0_1], .agg [.int .u64 a1_0, .int .u64 a1_1]]).bind fun r_43 =>
 (AV.tupK r_43 fun l_44 =>
 (consK l_44 fun v_45 l_46 =>
 (AV.aggK v_45 fun l_47 =>
 (consK l_47 fun v_48 l_49 =>
 (AV.intK .u64 v_48 fun i_50 =>
 (consK l_49 fun v_51 l_52 =>
 (AV.intK .u64 v_51 fun i_53 =>
 (nilK l_52
 (consK l_46 fun v_54 l_55 =>
 (AV.boolK v_54 fun b_56 =>
 (nilK l_55
 (cond ((i_8 == i_22) && ((i_11 == i_25) && true))
 (cond (b_14 == b_28)
 (cond ((i_36 == i_50) && ((i_39 == i_53) && true))
 (cond (b_42 == b_56)
 ((cp F_wide_Neg [.agg [.int .u64 a0_0, .int .u64 a0_1]]).bind fun r_57 =>
 (AV.aggK r_57 fun l_58 =>
 (consK l_58 fun v_59 l_60 =>
 (AV.intK .u64 v_59 fun i_61 =>
 (consK l_60 fun v_62 l_63 =>
 (AV.intK .u64 v_62 fun i_64 =>
 (nilK l_63
 ((cp F_ref01_Neg [.agg [.int .u64 a0_0, .int .u64 a0_1]]).bind fun r_65 =>
 (AV.aggK r_65 fun l_66 =>
 (consK l_66 fun v_67 l_68 =>
 (AV.intK .u64 v_67 fun i_69 =>
 (consK l_68 fun v_70 l_71 =>
 (AV.intK .u64 v_70 fun i_72 =>
 (nilK l_71
 (cond ((i_61 == i_69) && ((i_64 == i_72) && true))
 ((cp F_wide_Cmp [.agg [.int .u64 a0_0, .int .u64 a0_1], .agg [.int .u64 a1_0, .int .u64 a1_1]]).bind fun r_73 =>
 (AV.intK .i64 r_73 fun i_74 =>
 ((cp F_ref01_Cmp [.agg [.int .u64 a0_0, .int .u64 a0_1], .agg [.int .u64 a1_0, .int .u64 a1_1]]).bind fun r_75 =>
 (AV.intK .i64 r_75 fun i_76 =>
 (cond (i_74 == i_76)
 ((cp F_wide_Signed [.agg [.int .u64 a0_0, .int .u64 a0_1], .agg [.int .u64 a1_0, .int .u64 a1_1]]).bind fun r_77 =>
 (AV.intK .i64 r_77 fun i_78 =>
 ((cp F_ref01_Signed [.agg [.int .u64 a0_0, .int .u64 a0_1], .agg [.int .u64 a1_0, .int .u64 a1_1]]).bind fun r_79 =>
 (AV.intK .i64 r_79 fun i_80 =>
 (cond (i_78 == i_80)
 ((cp F_law01_awake []).bind fun r_81 =>
 (AV.boolK r_81 fun b_82 =>
 (j127 b_82)))
 (j127 false))))))
 (j127 false))))))
 (j127 false))))))))))))))))
 (j127 false))
 (j127 false))
 (j127 false))
 (j127 false))))))))))))))))))))))))))))))))))))))))))))))))))
theorem K_law01_WideSums_1 (j : Jump) (n : Nat) (a0_0 : Int) (a0_1 : Int) (a1_0 : Int) (a1_1 : Int) : ex (topEnv C (CP C n) n F_law01_WideSums) (some j) (bodyOf C.P F_law01_WideSums) 1 [] [] (endOf C.P F_law01_WideSums) (startOf C.P F_law01_WideSums [.agg [.int .u64 a0_0, .int .u64 a0_1], .agg [.int .u64 a1_0, .int .u64 a1_1]]) = T_law01_WideSums_1 (CP C n) a0_0 a0_1 a1_0 a1_1 (fun b0 => j [true, true, true, true, true, true] [] (S_law01_WideSums_127 b0)) := by kernel_rfl
def R_law01_WideSums (cp : FuncId → List AV → Option AV) (n : Nat) (a0_0 : Int) (a0_1 : Int) (a1_0 : Int) (a1_1 : Int) : Option AV := T_law01_WideSums_1 cp a0_0 a0_1 a1_0 a1_1 (J_law01_WideSums_127 cp n)
theorem eq_law01_WideSums (n : Nat) (a0_0 : Int) (a0_1 : Int) (a1_0 : Int) (a1_1 : Int) : CP C (n + 1) F_law01_WideSums [.agg [.int .u64 a0_0, .int .u64 a0_1], .agg [.int .u64 a1_0, .int .u64 a1_1]] = R_law01_WideSums (CP C n) n a0_0 a0_1 a1_0 a1_1 :=
  (CP_pure C n F_law01_WideSums _ (by kernel_rfl) (by kernel_rfl)).trans ((K_law01_WideSums_1 _ n a0_0 a0_1 a1_0 a1_1).trans (congrArg (T_law01_WideSums_1 (CP C n) a0_0 a0_1 a1_0 a1_1) (funext fun b0 => (JE_law01_WideSums_127 n) b0)))
-- math_bits_Len64
def S_math_bits_Len64_31 (x0 : Int) (x1 : Int) : St := ⟨[.int .u64 x0, .junk, .int .i64 x1, .junk, .junk, .junk, .junk, .junk, .junk, .junk, .junk, .junk, .junk, .junk, .junk, .junk, .junk, .junk, .junk, .junk, .junk, .junk, .junk, .junk, .junk], []⟩
def T_math_bits_Len64_31 (cp : FuncId → List AV → Option AV) (x0 : Int) (x1 : Int) : Option AV :=
 (cond (decide (0 ≤ (IntKind.u8.wrap x0)))
 (match (ByteArray.mk #[0, 1, 2, 2, 3, 3, 3, 3, 4, 4, 4, 4, 4, 4, 4, 4, 5, 5, 5, 5, 5, 5, 5, 5, 5, 5, 5, 5, 5, 5, 5, 5, 6, 6, 6, 6, 6, 6, 6, 6, 6, 6, 6, 6, 6, 6, 6, 6, 6, 6, 6, 6, 6, 6, 6, 6, 6, 6, 6, 6, 6, 6, 6, 6, 7, 7, 7, 7, 7, 7, 7, 7, 7, 7, 7, 7, 7, 7, 7, 7, 7, 7, 7, 7, 7, 7, 7, 7, 7, 7, 7, 7, 7, 7, 7, 7, 7, 7, 7, 7, 7, 7, 7, 7, 7, 7, 7, 7, 7, 7, 7, 7, 7, 7, 7, 7, 7, 7, 7, 7, 7, 7, 7, 7, 7, 7, 7, 7, 8, 8, 8, 8, 8, 8, 8, 8, 8, 8, 8, 8, 8, 8, 8, 8, 8, 8, 8, 8, 8, 8, 8, 8, 8, 8, 8, 8, 8, 8, 8, 8, 8, 8, 8, 8, 8, 8, 8, 8, 8, 8, 8, 8, 8, 8, 8, 8, 8, 8, 8, 8, 8, 8, 8, 8, 8, 8, 8, 8, 8, 8, 8, 8, 8, 8, 8, 8, 8, 8, 8, 8, 8, 8, 8, 8, 8, 8, 8, 8, 8, 8, 8, 8, 8, 8, 8, 8, 8, 8, 8, 8, 8, 8, 8, 8, 8, 8, 8, 8, 8, 8, 8, 8, 8, 8, 8, 8, 8, 8, 8, 8, 8, 8, 8, 8, 8, 8, 8, 8, 8, 8, 8, 8, 8, 8, 8, 8])[(Int.toNat (IntKind.u8.wrap x0))]? with
 | some c_1 => (bnd (IntKind.i64.wrap (x1 + (IntKind.i64.wrap ((c_1.toNat : Nat) : Int)))) fun y_2 =>
 (some (.int .i64 y_2)))
 | none => none)
 none)
theorem K_math_bits_Len64_31 (j : Jump) (n : Nat) (x0 : Int) (x1 : Int) : enter (topEnv C (CP C n) n F_math_bits_Len64) (some j) (bodyOf C.P F_math_bits_Len64) (endOf C.P F_math_bits_Len64) [true, true, true, true] [] (S_math_bits_Len64_31 x0 x1) = T_math_bits_Len64_31 (CP C n) x0 x1 := by kernel_rfl
def J_math_bits_Len64_31 (cp : FuncId → List AV → Option AV) (n : Nat) (x0 : Int) (x1 : Int) : Option AV := T_math_bits_Len64_31 cp x0 x1
theorem JE_math_bits_Len64_31 (n : Nat) (x0 : Int) (x1 : Int) : jT (topEnv C (CP C n) n F_math_bits_Len64) (bodyOf C.P F_math_bits_Len64) (endOf C.P F_math_bits_Len64) [true, true, true, true] [] (S_math_bits_Len64_31 x0 x1) = J_math_bits_Len64_31 (CP C n) n x0 x1 :=
  (jT_eq _ _ _ _ _ _).trans ((K_math_bits_Len64_31 _ n x0 x1).trans (rfl))
def T_math_bits_Len64_1 (cp : FuncId → List AV → Option AV) (a0 : Int) (j31 : Int → Int → Option AV) : Option AV :=
 (cond (decide (a0 ≥ 4294967296))
 (cond (decide ((Int.fdiv a0 4294967296) ≥ 65536))
 (cond (decide ((Int.fdiv (Int.fdiv a0 4294967296) 65536) ≥ 256))
 (j31 (Int.fdiv (Int.fdiv (Int.fdiv a0 4294967296) 65536) 256) 56)
 (j31 (Int.fdiv (Int.fdiv a0 4294967296) 65536) 48))
 (cond (decide ((Int.fdiv a0 4294967296) ≥ 256))
 (j31 (Int.fdiv (Int.fdiv a0 4294967296) 256) 40)
 (j31 (Int.fdiv a0 4294967296) 32)))
 (cond (decide (a0 ≥ 65536))
 (cond (decide ((Int.fdiv a0 65536) ≥ 256))
 (j31 (Int.fdiv (Int.fdiv a0 65536) 256) 24)
 (j31 (Int.fdiv a0 65536) 16))
 (cond (decide (a0 ≥ 256))
 (j31 (Int.fdiv a0 256) 8)
 (j31 a0 0))))
theorem K_math_bits_Len64_1 (j : Jump) (n : Nat) (a0 : Int) : ex (topEnv C (CP C n) n F_math_bits_Len64) (some j) (bodyOf C.P F_math_bits_Len64) 1 [] [] (endOf C.P F_math_bits_Len64) (startOf C.P F_math_bits_Len64 [.int .u64 a0]) = T_math_bits_Len64_1 (CP C n) a0 (fun x0 x1 => j [true, true, true, true] [] (S_math_bits_Len64_31 x0 x1)) := by kernel_rfl
def R_math_bits_Len64 (cp : FuncId → List AV → Option AV) (n : Nat) (a0 : Int) : Option AV := T_math_bits_Len64_1 cp a0 (J_math_bits_Len64_31 cp n)
theorem eq_math_bits_Len64 (n : Nat) (a0 : Int) : CP C (n + 1) F_math_bits_Len64 [.int .u64 a0] = R_math_bits_Len64 (CP C n) n a0 :=
  (CP_pure C n F_math_bits_Len64 _ (by kernel_rfl) (by kernel_rfl)).trans ((K_math_bits_Len64_1 _ n a0).trans (congrArg (T_math_bits_Len64_1 (CP C n) a0) (funext fun x0 => (funext fun x1 => (JE_math_bits_Len64_31 n) x0 x1))))
-- math_bits_LeadingZeros64
def R_math_bits_LeadingZeros64 (cp : FuncId → List AV → Option AV) (_n : Nat) (a0 : Int) : Option AV :=
 ((cp F_math_bits_Len64 [.int .u64 a0]).bind fun r_1 =>
 (AV.intK .i64 r_1 fun i_2 =>
 (some (.int .i64 (IntKind.i64.wrap (64 - i_2))))))
theorem eq_math_bits_LeadingZeros64 (n : Nat) (a0 : Int) : CP C (n + 1) F_math_bits_LeadingZeros64 [.int .u64 a0] = R_math_bits_LeadingZeros64 (CP C n) n a0 := by kernel_rfl
-- math_bits_Div64
def S_math_bits_Div64_262136 (x0 : Int) (x1 : Int) (x2 : Int) (x3 : Int) (x4 : Int) (x5 : Int) (x6 : Int) (x7 : Int) (x8 : Int) : St := ⟨[.junk, .junk, .int .u64 x0, .junk, .junk, .junk, .junk, .junk, .int .u64 x1, .int .u64 x2, .int .u64 x3, .int .u64 x4, .junk, .int .u64 x5, .int .u64 x6, .int .u64 x7, .int .u64 x8, .junk, .junk, .junk, .junk, .junk, .junk, .junk, .junk, .junk, .junk, .junk, .junk, .junk, .junk, .junk, .junk, .junk, .junk, .junk, .junk, .junk, .junk, .junk, .junk, .junk, .junk, .junk, .junk, .junk, .junk, .junk, .junk, .junk, .junk, .junk, .junk, .junk, .junk, .junk, .junk, .junk, .junk, .junk, .junk, .junk, .junk, .junk, .junk, .junk, .junk, .junk, .junk, .junk, .junk, .junk, .junk, .junk, .junk, .junk, .junk, .junk, .junk, .junk, .junk, .junk, .junk, .junk, .junk, .junk, .junk, .junk, .junk, .junk, .junk, .junk, .junk, .junk, .junk, .junk, .junk, .junk, .junk, .junk, .junk, .junk, .junk, .junk, .junk, .junk, .junk, .junk, .junk, .junk, .junk, .junk, .junk, .junk, .junk, .junk, .junk, .junk, .junk, .junk, .junk, .junk, .junk, .junk, .junk, .junk, .junk, .junk, .junk, .junk, .junk, .junk, .junk, .junk, .junk], []⟩
def S_math_bits_Div64_4194296 (x0 : Int) (x1 : Int) (x2 : Int) (x3 : Int) (x4 : Int) (x5 : Int) (x6 : Int) (x7 : Int) (x8 : Int) : St := ⟨[.junk, .junk, .int .u64 x0, .junk, .junk, .junk, .junk, .junk, .int .u64 x1, .int .u64 x2, .int .u64 x3, .junk, .junk, .junk, .int .u64 x4, .int .u64 x5, .int .u64 x6, .int .u64 x7, .int .u64 x8, .junk, .junk, .junk, .junk, .junk, .junk, .junk, .junk, .junk, .junk, .junk, .junk, .junk, .junk, .junk, .junk, .junk, .junk, .junk, .junk, .junk, .junk, .junk, .junk, .junk, .junk, .junk, .junk, .junk, .junk, .junk, .junk, .junk, .junk, .junk, .junk, .junk, .junk, .junk, .junk, .junk, .junk, .junk, .junk, .junk, .junk, .junk, .junk, .junk, .junk, .junk, .junk, .junk, .junk, .junk, .junk, .junk, .junk, .junk, .junk, .junk, .junk, .junk, .junk, .junk, .junk, .junk, .junk, .junk, .junk, .junk, .junk, .junk, .junk, .junk, .junk, .junk, .junk, .junk, .junk, .junk, .junk, .junk, .junk, .junk, .junk, .junk, .junk, .junk, .junk, .junk, .junk, .junk, .junk, .junk, .junk, .junk, .junk, .junk, .junk, .junk, .junk, .junk, .junk, .junk, .junk, .junk, .junk, .junk, .junk, .junk, .junk, .junk, .junk, .junk, .junk], []⟩
def T_math_bits_Div64_4194296 (cp : FuncId → List AV → Option AV) (x0 : Int) (x1 : Int) (x2 : Int) (x3 : Int) (x4 : Int) (x5 : Int) (x6 : Int) (x7 : Int) (x8 : Int) (r4194296 : Int → Int → Int → Int → Int → Int → Int → Int → Int → Option AV) : Option AV :=
 (cond (decide (x8 ≥ 4294967296))
 (cond (decide ((IntKind.u64.wrap (x6 + x2)) ≥ 4294967296))
 (bnd (IntKind.u64.wrap ((IntKind.u64.wrap (x5 * 4294967296)) + (IntKind.u64.wrap (x8 - 1)))) fun y_1 =>
 (bnd (IntKind.u64.wrap ((IntKind.u64.wrap (x7 * 4294967296)) + x4)) fun y_2 =>
 (bnd (IntKind.u64.wrap (y_2 - (IntKind.u64.wrap ((IntKind.u64.wrap (x8 - 1)) * x0)))) fun y_3 =>
 (cond (decide (x1 < 0))
 none
 (some (.tup [.int .u64 y_1, .int .u64 (Int.fdiv y_3 (2 ^ (min (Int.toNat x1) 64)))]))))))
 (r4194296 x0 x1 x2 x3 x4 x5 (IntKind.u64.wrap (x6 + x2)) x7 (IntKind.u64.wrap (x8 - 1))))
 (bnd (IntKind.u64.wrap ((IntKind.u64.wrap (4294967296 * x6)) + x4)) fun y_4 =>
 (cond (decide ((IntKind.u64.wrap (x8 * x3)) > y_4))
 (cond (decide ((IntKind.u64.wrap (x6 + x2)) ≥ 4294967296))
 (bnd (IntKind.u64.wrap ((IntKind.u64.wrap (x5 * 4294967296)) + (IntKind.u64.wrap (x8 - 1)))) fun y_5 =>
 (bnd (IntKind.u64.wrap ((IntKind.u64.wrap (x7 * 4294967296)) + x4)) fun y_6 =>
 (bnd (IntKind.u64.wrap (y_6 - (IntKind.u64.wrap ((IntKind.u64.wrap (x8 - 1)) * x0)))) fun y_7 =>
 (cond (decide (x1 < 0))
 none
 (some (.tup [.int .u64 y_5, .int .u64 (Int.fdiv y_7 (2 ^ (min (Int.toNat x1) 64)))]))))))
 (r4194296 x0 x1 x2 x3 x4 x5 (IntKind.u64.wrap (x6 + x2)) x7 (IntKind.u64.wrap (x8 - 1))))
 (bnd (IntKind.u64.wrap ((IntKind.u64.wrap (x5 * 4294967296)) + x8)) fun y_8 =>
 (bnd (IntKind.u64.wrap ((IntKind.u64.wrap (x7 * 4294967296)) + x4)) fun y_9 =>
 (cond (decide (x1 < 0))
 none
 (bnd (Int.fdiv (IntKind.u64.wrap (y_9 - (IntKind.u64.wrap (x8 * x0)))) (2 ^ (min (Int.toNat x1) 64))) fun y_10 =>
 (some (.tup [.int .u64 y_8, .int .u64 y_10])))))))))
theorem K_math_bits_Div64_4194296 (j : Jump) (n : Nat) (m4194296 : Nat) (x0 : Int) (x1 : Int) (x2 : Int) (x3 : Int) (x4 : Int) (x5 : Int) (x6 : Int) (x7 : Int) (x8 : Int) : enter (topEnv C (CP C n) n F_math_bits_Div64) (some j) (bodyOf C.P F_math_bits_Div64) (endOf C.P F_math_bits_Div64) [false, false, false, true, true, true, true, true, true, true, true, true, true, true, true, true, true, true, true, true, true] [(m4194296 + 1)] (S_math_bits_Div64_4194296 x0 x1 x2 x3 x4 x5 x6 x7 x8) = T_math_bits_Div64_4194296 (CP C n) x0 x1 x2 x3 x4 x5 x6 x7 x8 (fun x0 x1 x2 x3 x4 x5 x6 x7 x8 => j [false, false, false, true, true, true, true, true, true, true, true, true, true, true, true, true, true, true, true, true, true] [m4194296] (S_math_bits_Div64_4194296 x0 x1 x2 x3 x4 x5 x6 x7 x8)) := by kernel_rfl
def J_math_bits_Div64_4194296 (cp : FuncId → List AV → Option AV) (n : Nat) : Nat → Int → Int → Int → Int → Int → Int → Int → Int → Int → Option AV
  | 0 => (fun x0 x1 x2 x3 x4 x5 x6 x7 x8 => none)
  | m + 1 => (fun x0 x1 x2 x3 x4 x5 x6 x7 x8 => T_math_bits_Div64_4194296 cp x0 x1 x2 x3 x4 x5 x6 x7 x8 (J_math_bits_Div64_4194296 cp n m))
theorem Js_math_bits_Div64_4194296 (cp : FuncId → List AV → Option AV) (n : Nat) (m : Nat) (x0 : Int) (x1 : Int) (x2 : Int) (x3 : Int) (x4 : Int) (x5 : Int) (x6 : Int) (x7 : Int) (x8 : Int) : J_math_bits_Div64_4194296 cp n (m + 1) x0 x1 x2 x3 x4 x5 x6 x7 x8 = T_math_bits_Div64_4194296 cp x0 x1 x2 x3 x4 x5 x6 x7 x8 (J_math_bits_Div64_4194296 cp n m) := of_eq_true (eq_self _)
theorem JE_math_bits_Div64_4194296 (n : Nat) : ∀ (m : Nat) (x0 : Int) (x1 : Int) (x2 : Int) (x3 : Int) (x4 : Int) (x5 : Int) (x6 : Int) (x7 : Int) (x8 : Int), jT (topEnv C (CP C n) n F_math_bits_Div64) (bodyOf C.P F_math_bits_Div64) (endOf C.P F_math_bits_Div64) [false, false, false, true, true, true, true, true, true, true, true, true, true, true, true, true, true, true, true, true, true] [m] (S_math_bits_Div64_4194296 x0 x1 x2 x3 x4 x5 x6 x7 x8) = J_math_bits_Div64_4194296 (CP C n) n m x0 x1 x2 x3 x4 x5 x6 x7 x8
  | 0, x0, x1, x2, x3, x4, x5, x6, x7, x8 => (jT_eq _ _ _ _ _ _).trans (by kernel_rfl)
  | m + 1, x0, x1, x2, x3, x4, x5, x6, x7, x8 => (jT_eq _ _ _ _ _ _).trans ((K_math_bits_Div64_4194296 _ n m x0 x1 x2 x3 x4 x5 x6 x7 x8).trans (congrArg (T_math_bits_Div64_4194296 (CP C n) x0 x1 x2 x3 x4 x5 x6 x7 x8) (funext fun x0 => (funext fun x1 => (funext fun x2 => (funext fun x3 => (funext fun x4 => (funext fun x5 => (funext fun x6 => (funext fun x7 => (funext fun x8 => (JE_math_bits_Div64_4194296 n m) x0 x1 x2 x3 x4 x5 x6 x7 x8)))))))))))
def T_math_bits_Div64_262136 (cp : FuncId → List AV → Option AV) (x0 : Int) (x1 : Int) (x2 : Int) (x3 : Int) (x4 : Int) (x5 : Int) (x6 : Int) (x7 : Int) (x8 : Int) (j4194296 : Int → Int → Int → Int → Int → Int → Int → Int → Int → Option AV) (r262136 : Int → Int → Int → Int → Int → Int → Int → Int → Int → Option AV) : Option AV :=
 (cond (decide (x7 ≥ 4294967296))
 (cond (decide ((IntKind.u64.wrap (x8 + x2)) ≥ 4294967296))
 (bnd (IntKind.u64.wrap ((IntKind.u64.wrap (x4 * 4294967296)) + x5)) fun y_1 =>
 (bnd (IntKind.u64.wrap (y_1 - (IntKind.u64.wrap ((IntKind.u64.wrap (x7 - 1)) * x0)))) fun y_2 =>
 (cond (decide (x2 = 0))
 none
 (bnd (IntKind.u64.wrap ((IntKind.u64.wrap (Int.tdiv y_2 x2)) * x2)) fun y_3 =>
 (j4194296 x0 x1 x2 x3 x6 (IntKind.u64.wrap (x7 - 1)) (IntKind.u64.wrap (y_2 - y_3)) y_2 (IntKind.u64.wrap (Int.tdiv y_2 x2)))))))
 (r262136 x0 x1 x2 x3 x4 x5 x6 (IntKind.u64.wrap (x7 - 1)) (IntKind.u64.wrap (x8 + x2))))
 (bnd (IntKind.u64.wrap ((IntKind.u64.wrap (4294967296 * x8)) + x5)) fun y_4 =>
 (cond (decide ((IntKind.u64.wrap (x7 * x3)) > y_4))
 (cond (decide ((IntKind.u64.wrap (x8 + x2)) ≥ 4294967296))
 (bnd (IntKind.u64.wrap ((IntKind.u64.wrap (x4 * 4294967296)) + x5)) fun y_5 =>
 (bnd (IntKind.u64.wrap (y_5 - (IntKind.u64.wrap ((IntKind.u64.wrap (x7 - 1)) * x0)))) fun y_6 =>
 (cond (decide (x2 = 0))
 none
 (bnd (IntKind.u64.wrap ((IntKind.u64.wrap (Int.tdiv y_6 x2)) * x2)) fun y_7 =>
 (j4194296 x0 x1 x2 x3 x6 (IntKind.u64.wrap (x7 - 1)) (IntKind.u64.wrap (y_6 - y_7)) y_6 (IntKind.u64.wrap (Int.tdiv y_6 x2)))))))
 (r262136 x0 x1 x2 x3 x4 x5 x6 (IntKind.u64.wrap (x7 - 1)) (IntKind.u64.wrap (x8 + x2))))
 (bnd (IntKind.u64.wrap ((IntKind.u64.wrap (x4 * 4294967296)) + x5)) fun y_8 =>
 (cond (decide (x2 = 0))
 none
 (bnd (IntKind.u64.wrap (Int.tdiv (IntKind.u64.wrap (y_8 - (IntKind.u64.wrap (x7 * x0)))) x2)) fun y_9 =>
 (bnd (IntKind.u64.wrap ((IntKind.u64.wrap (y_8 - (IntKind.u64.wrap (x7 * x0)))) - (IntKind.u64.wrap (y_9 * x2)))) fun y_10 =>
 (j4194296 x0 x1 x2 x3 x6 x7 y_10 (IntKind.u64.wrap (y_8 - (IntKind.u64.wrap (x7 * x0)))) y_9))))))))
theorem K_math_bits_Div64_262136 (j : Jump) (n : Nat) (m262136 : Nat) (x0 : Int) (x1 : Int) (x2 : Int) (x3 : Int) (x4 : Int) (x5 : Int) (x6 : Int) (x7 : Int) (x8 : Int) : enter (topEnv C (CP C n) n F_math_bits_Div64) (some j) (bodyOf C.P F_math_bits_Div64) (endOf C.P F_math_bits_Div64) [false, false, false, true, true, true, true, true, true, true, true, true, true, true, true, true, true] [(m262136 + 1)] (S_math_bits_Div64_262136 x0 x1 x2 x3 x4 x5 x6 x7 x8) = T_math_bits_Div64_262136 (CP C n) x0 x1 x2 x3 x4 x5 x6 x7 x8 (fun x0 x1 x2 x3 x4 x5 x6 x7 x8 => j [false, false, false, true, true, true, true, true, true, true, true, true, true, true, true, true, true, true, true, true, true] [(n + 300)] (S_math_bits_Div64_4194296 x0 x1 x2 x3 x4 x5 x6 x7 x8)) (fun x0 x1 x2 x3 x4 x5 x6 x7 x8 => j [false, false, false, true, true, true, true, true, true, true, true, true, true, true, true, true, true] [m262136] (S_math_bits_Div64_262136 x0 x1 x2 x3 x4 x5 x6 x7 x8)) := by kernel_rfl
def J_math_bits_Div64_262136 (cp : FuncId → List AV → Option AV) (n : Nat) : Nat → Int → Int → Int → Int → Int → Int → Int → Int → Int → Option AV
  | 0 => (fun x0 x1 x2 x3 x4 x5 x6 x7 x8 => none)
  | m + 1 => (fun x0 x1 x2 x3 x4 x5 x6 x7 x8 => T_math_bits_Div64_262136 cp x0 x1 x2 x3 x4 x5 x6 x7 x8 (J_math_bits_Div64_4194296 cp n (n + 300)) (J_math_bits_Div64_262136 cp n m))
theorem Js_math_bits_Div64_262136 (cp : FuncId → List AV → Option AV) (n : Nat) (m : Nat) (x0 : Int) (x1 : Int) (x2 : Int) (x3 : Int) (x4 : Int) (x5 : Int) (x6 : Int) (x7 : Int) (x8 : Int) : J_math_bits_Div64_262136 cp n (m + 1) x0 x1 x2 x3 x4 x5 x6 x7 x8 = T_math_bits_Div64_262136 cp x0 x1 x2 x3 x4 x5 x6 x7 x8 (J_math_bits_Div64_4194296 cp n (n + 300)) (J_math_bits_Div64_262136 cp n m) := of_eq_true (eq_self _)
theorem JE_math_bits_Div64_262136 (n : Nat) : ∀ (m : Nat) (x0 : Int) (x1 : Int) (x2 : Int) (x3 : Int) (x4 : Int) (x5 : Int) (x6 : Int) (x7 : Int) (x8 : Int), jT (topEnv C (CP C n) n F_math_bits_Div64) (bodyOf C.P F_math_bits_Div64) (endOf C.P F_math_bits_Div64) [false, false, false, true, true, true, true, true, true, true, true, true, true, true, true, true, true] [m] (S_math_bits_Div64_262136 x0 x1 x2 x3 x4 x5 x6 x7 x8) = J_math_bits_Div64_262136 (CP C n) n m x0 x1 x2 x3 x4 x5 x6 x7 x8
  | 0, x0, x1, x2, x3, x4, x5, x6, x7, x8 => (jT_eq _ _ _ _ _ _).trans (by kernel_rfl)
  | m + 1, x0, x1, x2, x3, x4, x5, x6, x7, x8 => (jT_eq _ _ _ _ _ _).trans ((K_math_bits_Div64_262136 _ n m x0 x1 x2 x3 x4 x5 x6 x7 x8).trans (congr (congrArg (T_math_bits_Div64_262136 (CP C n) x0 x1 x2 x3 x4 x5 x6 x7 x8) (funext fun x0 => (funext fun x1 => (funext fun x2 => (funext fun x3 => (funext fun x4 => (funext fun x5 => (funext fun x6 => (funext fun x7 => (funext fun x8 => (JE_math_bits_Div64_4194296 n (n + 300)) x0 x1 x2 x3 x4 x5 x6 x7 x8)))))))))) (funext fun x0 => (funext fun x1 => (funext fun x2 => (funext fun x3 => (funext fun x4 => (funext fun x5 => (funext fun x6 => (funext fun x7 => (funext fun x8 => (JE_math_bits_Div64_262136 n m) x0 x1 x2 x3 x4 x5 x6 x7 x8)))))))))))
def T_math_bits_Div64_1 (cp : FuncId → List AV → Option AV) (a0 : Int) (a1 : Int) (a2 : Int) (j262136 : Int → Int → Int → Int → Int → Int → Int → Int → Int → Option AV) : Option AV :=
 (cond (a2 == 0)
 none
 (cond (decide (a2 ≤ a0))
 none
 (cond (a0 == 0)
 (cond (decide (a2 = 0))
 none
 (cond (decide (a2 = 0))
 none
 (some (.tup [.int .u64 (IntKind.u64.wrap (Int.tdiv a1 a2)), .int .u64 (Int.tmod a1 a2)]))))
 ((cp F_math_bits_LeadingZeros64 [.int .u64 a2]).bind fun r_1 =>
 (AV.intK .i64 r_1 fun i_2 =>
 (cond (decide ((IntKind.u64.wrap i_2) < 0))
 none
 (bnd (IntKind.u64.wrap (a2 * (2 ^ (min (Int.toNat (IntKind.u64.wrap i_2)) 64)))) fun y_3 =>
 (bnd (IntKind.u64.wrap ((BitVec.ofInt 64 y_3 &&& BitVec.ofInt 64 4294967295).toNat : Int)) fun y_4 =>
 (cond (decide ((IntKind.u64.wrap i_2) < 0))
 none
 (bnd (IntKind.u64.wrap (a0 * (2 ^ (min (Int.toNat (IntKind.u64.wrap i_2)) 64)))) fun y_5 =>
 (cond (decide ((IntKind.u64.wrap (64 - (IntKind.u64.wrap i_2))) < 0))
 none
 (bnd (Int.fdiv a1 (2 ^ (min (Int.toNat (IntKind.u64.wrap (64 - (IntKind.u64.wrap i_2)))) 64))) fun y_6 =>
 (bnd (IntKind.u64.wrap ((BitVec.ofInt 64 y_5 ||| BitVec.ofInt 64 y_6).toNat : Int)) fun y_7 =>
 (cond (decide ((IntKind.u64.wrap i_2) < 0))
 none
 (bnd (IntKind.u64.wrap (a1 * (2 ^ (min (Int.toNat (IntKind.u64.wrap i_2)) 64)))) fun y_8 =>
 (bnd (IntKind.u64.wrap ((BitVec.ofInt 64 y_8 &&& BitVec.ofInt 64 4294967295).toNat : Int)) fun y_9 =>
 (cond (decide ((Int.fdiv y_3 4294967296) = 0))
 none
 (bnd (IntKind.u64.wrap ((IntKind.u64.wrap (Int.tdiv y_7 (Int.fdiv y_3 4294967296))) * (Int.fdiv y_3 4294967296))) fun y_10 =>
 (j262136 y_3 (IntKind.u64.wrap i_2) (Int.fdiv y_3 4294967296) y_4 y_7 (Int.fdiv y_8 4294967296) y_9 (IntKind.u64.wrap (Int.tdiv y_7 (Int.fdiv y_3 4294967296))) (IntKind.u64.wrap (y_7 - y_10)))))))))))))))))))))
theorem K_math_bits_Div64_1 (j : Jump) (n : Nat) (a0 : Int) (a1 : Int) (a2 : Int) : ex (topEnv C (CP C n) n F_math_bits_Div64) (some j) (bodyOf C.P F_math_bits_Div64) 1 [] [] (endOf C.P F_math_bits_Div64) (startOf C.P F_math_bits_Div64 [.int .u64 a0, .int .u64 a1, .int .u64 a2]) = T_math_bits_Div64_1 (CP C n) a0 a1 a2 (fun x0 x1 x2 x3 x4 x5 x6 x7 x8 => j [false, false, false, true, true, true, true, true, true, true, true, true, true, true, true, true, true] [(n + 300)] (S_math_bits_Div64_262136 x0 x1 x2 x3 x4 x5 x6 x7 x8)) := by kernel_rfl
def R_math_bits_Div64 (cp : FuncId → List AV → Option AV) (n : Nat) (a0 : Int) (a1 : Int) (a2 : Int) : Option AV := T_math_bits_Div64_1 cp a0 a1 a2 (J_math_bits_Div64_262136 cp n (n + 300))
theorem eq_math_bits_Div64 (n : Nat) (a0 : Int) (a1 : Int) (a2 : Int) : CP C (n + 1) F_math_bits_Div64 [.int .u64 a0, .int .u64 a1, .int .u64 a2] = R_math_bits_Div64 (CP C n) n a0 a1 a2 :=
  (CP_pure C n F_math_bits_Div64 _ (by kernel_rfl) (by kernel_rfl)).trans ((K_math_bits_Div64_1 _ n a0 a1 a2).trans (congrArg (T_math_bits_Div64_1 (CP C n) a0 a1 a2) (funext fun x0 => (funext fun x1 => (funext fun x2 => (funext fun x3 => (funext fun x4 => (funext fun x5 => (funext fun x6 => (funext fun x7 => (funext fun x8 => (JE_math_bits_Div64_262136 n (n + 300)) x0 x1 x2 x3 x4 x5 x6 x7 x8)))))))))))
-- wide_Div
def R_wide_Div (cp : FuncId → List AV → Option AV) (_n : Nat) (a0_0 : Int) (a0_1 : Int) (a1 : Int) : Option AV :=
 (cond (a1 == 0)
 (some (.tup [.agg [.int .u64 0, .int .u64 0], .int .u64 0, .int .i64 5]))
 (cond (decide (a1 = 0))
 none
 ((cp F_math_bits_Div64 [.int .u64 (Int.tmod a0_0 a1), .int .u64 a0_1, .int .u64 a1]).bind fun r_1 =>
 (AV.tupK r_1 fun l_2 =>
 (consK l_2 fun v_3 l_4 =>
 (AV.intK .u64 v_3 fun i_5 =>
 (consK l_4 fun v_6 l_7 =>
 (AV.intK .u64 v_6 fun i_8 =>
 (nilK l_7
 (cond (decide (a1 = 0))
 none
 (some (.tup [.agg [.int .u64 (IntKind.u64.wrap (Int.tdiv a0_0 a1)), .int .u64 i_5], .int .u64 i_8, .int .i64 0]))))))))))))
theorem eq_wide_Div (n : Nat) (a0_0 : Int) (a0_1 : Int) (a1 : Int) : CP C (n + 1) F_wide_Div [.agg [.int .u64 a0_0, .int .u64 a0_1], .int .u64 a1] = R_wide_Div (CP C n) n a0_0 a0_1 a1 := by kernel_rfl
-- ref01_Div
def S_ref01_Div_1012 (x0 : Int) (x1 : Int) (x2 : Int) (l3 : List AV) (l4 : List AV) : St := ⟨[.junk, .int .u64 x0, .junk, .junk, .ptr (some (1, 0)), .junk, .junk, .ptr (some (2, 0)), .ptr (some (3, 0)), .int .u64 x1, .int .i64 x2, .junk, .junk, .junk, .junk, .junk, .junk, .junk, .junk, .junk, .junk, .junk, .junk, .junk, .junk, .junk, .junk, .junk, .junk, .junk, .junk, .junk, .junk, .junk, .junk, .junk, .junk, .junk, .junk, .junk, .junk, .junk, .junk, .junk], [.dead, .cells 24 [.int .u64 0, .int .u64 0], .cells 54 l3, .cells 54 l4]⟩
def T_ref01_Div_1012 (cp : FuncId → List AV → Option AV) (x0 : Int) (x1 : Int) (x2 : Int) (l3 : List AV) (l4 : List AV) (r1012 : Int → Int → Int → List AV → List AV → Option AV) : Option AV :=
 (cond (decide (x2 ≥ 0))
 (cond ((decide (0 ≤ x2)) && (decide (x2 < 128)))
 (cond (fits (0 + ((Int.toNat x2) * 1)) 1 l3)
 (AV.boolK (nth l3 (0 + ((Int.toNat x2) * 1))) fun b_1 =>
 (cond b_1
 (bnd (IntKind.u64.wrap ((BitVec.ofInt 64 (IntKind.u64.wrap (x1 * 2)) ||| BitVec.ofInt 64 1).toNat : Int)) fun y_2 =>
 (cond (decide (x1 ≥ 9223372036854775808))
 (cond ((decide (0 ≤ x2)) && (decide (x2 < 128)))
 (cond (fits (0 + ((Int.toNat x2) * 1)) 1 l4)
 (r1012 x0 (IntKind.u64.wrap (y_2 - x0)) (IntKind.i64.wrap (x2 - 1)) l3 (splice l4 (0 + ((Int.toNat x2) * 1)) [.bool true]))
 none)
 none)
 (cond (decide (y_2 ≥ x0))
 (cond ((decide (0 ≤ x2)) && (decide (x2 < 128)))
 (cond (fits (0 + ((Int.toNat x2) * 1)) 1 l4)
 (r1012 x0 (IntKind.u64.wrap (y_2 - x0)) (IntKind.i64.wrap (x2 - 1)) l3 (splice l4 (0 + ((Int.toNat x2) * 1)) [.bool true]))
 none)
 none)
 (r1012 x0 y_2 (IntKind.i64.wrap (x2 - 1)) l3 l4))))
 (cond (decide (x1 ≥ 9223372036854775808))
 (cond ((decide (0 ≤ x2)) && (decide (x2 < 128)))
 (cond (fits (0 + ((Int.toNat x2) * 1)) 1 l4)
 (r1012 x0 (IntKind.u64.wrap ((IntKind.u64.wrap (x1 * 2)) - x0)) (IntKind.i64.wrap (x2 - 1)) l3 (splice l4 (0 + ((Int.toNat x2) * 1)) [.bool true]))
 none)
 none)
 (cond (decide ((IntKind.u64.wrap (x1 * 2)) ≥ x0))
 (cond ((decide (0 ≤ x2)) && (decide (x2 < 128)))
 (cond (fits (0 + ((Int.toNat x2) * 1)) 1 l4)
 (r1012 x0 (IntKind.u64.wrap ((IntKind.u64.wrap (x1 * 2)) - x0)) (IntKind.i64.wrap (x2 - 1)) l3 (splice l4 (0 + ((Int.toNat x2) * 1)) [.bool true]))
 none)
 none)
 (r1012 x0 (IntKind.u64.wrap (x1 * 2)) (IntKind.i64.wrap (x2 - 1)) l3 l4)))))
 none)
 none)
 (cond (fits 0 128 l4)
 (cond ((AV.pureL (List.take 128 (List.drop 0 l4))) && true)
 ((cp F_ref01_wide [.agg (List.take 128 (List.drop 0 l4))]).bind fun r_3 =>
 (AV.aggK r_3 fun l_4 =>
 (consK l_4 fun v_5 l_6 =>
 (AV.intK .u64 v_5 fun i_7 =>
 (consK l_6 fun v_8 l_9 =>
 (AV.intK .u64 v_8 fun i_10 =>
 (nilK l_9
 (some (.tup [.agg [.int .u64 i_7, .int .u64 i_10], .int .u64 x1, .int .i64 0])))))))))
 none)
 none))
theorem K_ref01_Div_1012 (j : Jump) (n : Nat) (m1012 : Nat) (x0 : Int) (x1 : Int) (x2 : Int) (l3 : List AV) (l4 : List AV) : enter (topEnv C (CP C n) n F_ref01_Div) (some j) (bodyOf C.P F_ref01_Div) (endOf C.P F_ref01_Div) [false, false, true, false, true, true, true, true, true] [(m1012 + 1)] (S_ref01_Div_1012 x0 x1 x2 l3 l4) = T_ref01_Div_1012 (CP C n) x0 x1 x2 l3 l4 (fun x0 x1 x2 l3 l4 => j [false, false, true, false, true, true, true, true, true] [m1012] (S_ref01_Div_1012 x0 x1 x2 l3 l4)) := by kernel_rfl
def J_ref01_Div_1012 (cp : FuncId → List AV → Option AV) (n : Nat) : Nat → Int → Int → Int → List AV → List AV → Option AV
  | 0 => (fun x0 x1 x2 l3 l4 => none)
  | m + 1 => (fun x0 x1 x2 l3 l4 => T_ref01_Div_1012 cp x0 x1 x2 l3 l4 (J_ref01_Div_1012 cp n m))
theorem Js_ref01_Div_1012 (cp : FuncId → List AV → Option AV) (n : Nat) (m : Nat) (x0 : Int) (x1 : Int) (x2 : Int) (l3 : List AV) (l4 : List AV) : J_ref01_Div_1012 cp n (m + 1) x0 x1 x2 l3 l4 = T_ref01_Div_1012 cp x0 x1 x2 l3 l4 (J_ref01_Div_1012 cp n m) := of_eq_true (eq_self _)
theorem JE_ref01_Div_1012 (n : Nat) : ∀ (m : Nat) (x0 : Int) (x1 : Int) (x2 : Int) (l3 : List AV) (l4 : List AV), jT (topEnv C (CP C n) n F_ref01_Div) (bodyOf C.P F_ref01_Div) (endOf C.P F_ref01_Div) [false, false, true, false, true, true, true, true, true] [m] (S_ref01_Div_1012 x0 x1 x2 l3 l4) = J_ref01_Div_1012 (CP C n) n m x0 x1 x2 l3 l4
  | 0, x0, x1, x2, l3, l4 => (jT_eq _ _ _ _ _ _).trans (by kernel_rfl)
  | m + 1, x0, x1, x2, l3, l4 => (jT_eq _ _ _ _ _ _).trans ((K_ref01_Div_1012 _ n m x0 x1 x2 l3 l4).trans (congrArg (T_ref01_Div_1012 (CP C n) x0 x1 x2 l3 l4) (funext fun x0 => (funext fun x1 => (funext fun x2 => (funext fun l3 => (funext fun l4 => (JE_ref01_Div_1012 n m) x0 x1 x2 l3 l4)))))))
def T_ref01_Div_1 (cp : FuncId → List AV → Option AV) (a0_0 : Int) (a0_1 : Int) (a1 : Int) (j1012 : Int → Int → Int → List AV → List AV → Option AV) : Option AV :=
 (cond (a1 == 0)
 (some (.tup [.agg [.int .u64 0, .int .u64 0], .int .u64 0, .int .i64 5]))
 ((cp F_ref01_bits [.agg [.int .u64 a0_0, .int .u64 a0_1]]).bind fun r_1 =>
 (AV.aggK r_1 fun l_2 =>
 (cond (lenIs l_2 128)
 (cond (cellsOk l_2)
 (j1012 a1 0 127 (splice [.bool false, .bool false, .bool false, .bool false, .bool false, .bool false, .bool false, .bool false, .bool false, .bool false, .bool false, .bool false, .bool false, .bool false, .bool false, .bool false, .bool false, .bool false, .bool false, .bool false, .bool false, .bool false, .bool false, .bool false, .bool false, .bool false, .bool false, .bool false, .bool false, .bool false, .bool false, .bool false, .bool false, .bool false, .bool false, .bool false, .bool false, .bool false, .bool false, .bool false, .bool false, .bool false, .bool false, .bool false, .bool false, .bool false, .bool false, .bool false, .bool false, .bool false, .bool false, .bool false, .bool false, .bool false, .bool false, .bool false, .bool false, .bool false, .bool false, .bool false, .bool false, .bool false, .bool false, .bool false, .bool false, .bool false, .bool false, .bool false, .bool false, .bool false, .bool false, .bool false, .bool false, .bool false, .bool false, .bool false, .bool false, .bool false, .bool false, .bool false, .bool false, .bool false, .bool false, .bool false, .bool false, .bool false, .bool false, .bool false, .bool false, .bool false, .bool false, .bool false, .bool false, .bool false, .bool false, .bool false, .bool false, .bool false, .bool false, .bool false, .bool false, .bool false, .bool false, .bool false, .bool false, .bool false, .bool false, .bool false, .bool false, .bool false, .bool false, .bool false, .bool false, .bool false, .bool false, .bool false, .bool false, .bool false, .bool false, .bool false, .bool false, .bool false, .bool false, .bool false, .bool false, .bool false, .bool false, .bool false] 0 l_2) [.bool false, .bool false, .bool false, .bool false, .bool false, .bool false, .bool false, .bool false, .bool false, .bool false, .bool false, .bool false, .bool false, .bool false, .bool false, .bool false, .bool false, .bool false, .bool false, .bool false, .bool false, .bool false, .bool false, .bool false, .bool false, .bool false, .bool false, .bool false, .bool false, .bool false, .bool false, .bool false, .bool false, .bool false, .bool false, .bool false, .bool false, .bool false, .bool false, .bool false, .bool false, .bool false, .bool false, .bool false, .bool false, .bool false, .bool false, .bool false, .bool false, .bool false, .bool false, .bool false, .bool false, .bool false, .bool false, .bool false, .bool false, .bool false, .bool false, .bool false, .bool false, .bool false, .bool false, .bool false, .bool false, .bool false, .bool false, .bool false, .bool false, .bool false, .bool false, .bool false, .bool false, .bool false, .bool false, .bool false, .bool false, .bool false, .bool false, .bool false, .bool false, .bool false, .bool false, .bool false, .bool false, .bool false, .bool false, .bool false, .bool false, .bool false, .bool false, .bool false, .bool false, .bool false, .bool false, .bool false, .bool false, .bool false, .bool false, .bool false, .bool false, .bool false, .bool false, .bool false, .bool false, .bool false, .bool false, .bool false, .bool false, .bool false, .bool false, .bool false, .bool false, .bool false, .bool false, .bool false, .bool false, .bool false, .bool false, .bool false, .bool false, .bool false, .bool false, .bool false, .bool false, .bool false, .bool false, .bool false])
 none)
 none))))
theorem K_ref01_Div_1 (j : Jump) (n : Nat) (a0_0 : Int) (a0_1 : Int) (a1 : Int) : ex (topEnv C (CP C n) n F_ref01_Div) (some j) (bodyOf C.P F_ref01_Div) 1 [] [] (endOf C.P F_ref01_Div) (startOf C.P F_ref01_Div [.agg [.int .u64 a0_0, .int .u64 a0_1], .int .u64 a1]) = T_ref01_Div_1 (CP C n) a0_0 a0_1 a1 (fun x0 x1 x2 l3 l4 => j [false, false, true, false, true, true, true, true, true] [(n + 300)] (S_ref01_Div_1012 x0 x1 x2 l3 l4)) := by kernel_rfl
def R_ref01_Div (cp : FuncId → List AV → Option AV) (n : Nat) (a0_0 : Int) (a0_1 : Int) (a1 : Int) : Option AV := T_ref01_Div_1 cp a0_0 a0_1 a1 (J_ref01_Div_1012 cp n (n + 300))
theorem eq_ref01_Div (n : Nat) (a0_0 : Int) (a0_1 : Int) (a1 : Int) : CP C (n + 1) F_ref01_Div [.agg [.int .u64 a0_0, .int .u64 a0_1], .int .u64 a1] = R_ref01_Div (CP C n) n a0_0 a0_1 a1 :=
  (CP_pure C n F_ref01_Div _ (by kernel_rfl) (by kernel_rfl)).trans ((K_ref01_Div_1 _ n a0_0 a0_1 a1).trans (congrArg (T_ref01_Div_1 (CP C n) a0_0 a0_1 a1) (funext fun x0 => (funext fun x1 => (funext fun x2 => (funext fun l3 => (funext fun l4 => (JE_ref01_Div_1012 n (n + 300)) x0 x1 x2 l3 l4)))))))
-- math_bits_Mul64
def R_math_bits_Mul64 (cp : FuncId → List AV → Option AV) (_n : Nat) (a0 : Int) (a1 : Int) : Option AV :=
 (bnd (IntKind.u64.wrap ((BitVec.ofInt 64 a0 &&& BitVec.ofInt 64 4294967295).toNat : Int)) fun y_1 =>
 (bnd (IntKind.u64.wrap ((BitVec.ofInt 64 a1 &&& BitVec.ofInt 64 4294967295).toNat : Int)) fun y_2 =>
 (bnd (IntKind.u64.wrap ((IntKind.u64.wrap ((Int.fdiv a0 4294967296) * y_2)) + (Int.fdiv (IntKind.u64.wrap (y_1 * y_2)) 4294967296))) fun y_3 =>
 (bnd (IntKind.u64.wrap ((BitVec.ofInt 64 y_3 &&& BitVec.ofInt 64 4294967295).toNat : Int)) fun y_4 =>
 (bnd (IntKind.u64.wrap (y_4 + (IntKind.u64.wrap (y_1 * (Int.fdiv a1 4294967296))))) fun y_5 =>
 (bnd (IntKind.u64.wrap ((Int.fdiv a0 4294967296) * (Int.fdiv a1 4294967296))) fun y_6 =>
 (bnd (IntKind.u64.wrap ((IntKind.u64.wrap (y_6 + (Int.fdiv y_3 4294967296))) + (Int.fdiv y_5 4294967296))) fun y_7 =>
 (some (.tup [.int .u64 y_7, .int .u64 (IntKind.u64.wrap (a0 * a1))])))))))))
theorem eq_math_bits_Mul64 (n : Nat) (a0 : Int) (a1 : Int) : CP C (n + 1) F_math_bits_Mul64 [.int .u64 a0, .int .u64 a1] = R_math_bits_Mul64 (CP C n) n a0 a1 := by kernel_rfl
-- wide_Mul
def R_wide_Mul (cp : FuncId → List AV → Option AV) (_n : Nat) (a0 : Int) (a1 : Int) : Option AV :=
 ((cp F_math_bits_Mul64 [.int .u64 a0, .int .u64 a1]).bind fun r_1 =>
 (AV.tupK r_1 fun l_2 =>
 (consK l_2 fun v_3 l_4 =>
 (AV.intK .u64 v_3 fun i_5 =>
 (consK l_4 fun v_6 l_7 =>
 (AV.intK .u64 v_6 fun i_8 =>
 (nilK l_7
 (some (.agg [.int .u64 i_5, .int .u64 i_8])))))))))
theorem eq_wide_Mul (n : Nat) (a0 : Int) (a1 : Int) : CP C (n + 1) F_wide_Mul [.int .u64 a0, .int .u64 a1] = R_wide_Mul (CP C n) n a0 a1 := by kernel_rfl
-- ref01_Mul
def S_ref01_Mul_116 (x0 : Int) (x1 : Int) (x2 : Int) (l3 : List AV) : St := ⟨[.int .u64 x0, .int .u64 x1, .junk, .junk, .ptr (some (0, 0)), .ptr (some (1, 0)), .ptr (some (2, 0)), .int .i64 x2, .junk, .junk, .junk, .junk, .junk, .junk, .junk, .junk, .junk, .junk, .junk, .junk, .junk, .junk, .junk, .junk, .junk, .junk, .junk, .junk, .junk, .junk, .junk, .junk, .junk, .junk, .junk, .junk, .junk, .junk, .junk, .junk, .junk, .junk, .junk, .junk, .junk, .junk, .junk, .junk, .junk, .junk, .junk], [.cells 24 [.int .u64 0, .int .u64 0], .cells 54 [.bool false, .bool false, .bool false, .bool false, .bool false, .bool false, .bool false, .bool false, .bool false, .bool false, .bool false, .bool false, .bool false, .bool false, .bool false, .bool false, .bool false, .bool false, .bool false, .bool false, .bool false, .bool false, .bool false, .bool false, .bool false, .bool false, .bool false, .bool false, .bool false, .bool false, .bool false, .bool false, .bool false, .bool false, .bool false, .bool false, .bool false, .bool false, .bool false, .bool false, .bool false, .bool false, .bool false, .bool false, .bool false, .bool false, .bool false, .bool false, .bool false, .bool false, .bool false, .bool false, .bool false, .bool false, .bool false, .bool false, .bool false, .bool false, .bool false, .bool false, .bool false, .bool false, .bool false, .bool false, .bool false, .bool false, .bool false, .bool false, .bool false, .bool false, .bool false, .bool false, .bool false, .bool false, .bool false, .bool false, .bool false, .bool false, .bool false, .bool false, .bool false, .bool false, .bool false, .bool false, .bool false, .bool false, .bool false, .bool false, .bool false, .bool false, .bool false, .bool false, .bool false, .bool false, .bool false, .bool false, .bool false, .bool false, .bool false, .bool false, .bool false, .bool false, .bool false, .bool false, .bool false, .bool false, .bool false, .bool false, .bool false, .bool false, .bool false, .bool false, .bool false, .bool false, .bool false, .bool false, .bool false, .bool false, .bool false, .bool false, .bool false, .bool false, .bool false, .bool false, .bool false, .bool false, .bool false, .bool false], .cells 54 l3]⟩
def S_ref01_Mul_244 (x0 : Int) (x1 : Int) (l2 : List AV) (l3 : List AV) : St := ⟨[.junk, .int .u64 x0, .junk, .junk, .ptr (some (0, 0)), .ptr (some (1, 0)), .ptr (some (2, 0)), .junk, .int .i64 x1, .junk, .junk, .junk, .junk, .junk, .junk, .junk, .junk, .junk, .junk, .junk, .junk, .junk, .junk, .junk, .junk, .junk, .junk, .junk, .junk, .junk, .junk, .junk, .junk, .junk, .junk, .junk, .junk, .junk, .junk, .junk, .junk, .junk, .junk, .junk, .junk, .junk, .junk, .junk, .junk, .junk, .junk], [.cells 24 [.int .u64 0, .int .u64 0], .cells 54 l2, .cells 54 l3]⟩
def S_ref01_Mul_62612 (x0 : Int) (x1 : Int) (x2 : Int) (l3 : List AV) (l4 : List AV) : St := ⟨[.junk, .int .u64 x0, .junk, .junk, .ptr (some (0, 0)), .ptr (some (1, 0)), .ptr (some (2, 0)), .junk, .int .i64 x1, .int .i64 x2, .junk, .junk, .junk, .junk, .junk, .junk, .junk, .junk, .junk, .junk, .junk, .junk, .junk, .junk, .junk, .junk, .junk, .junk, .junk, .junk, .junk, .junk, .junk, .junk, .junk, .junk, .junk, .junk, .junk, .junk, .junk, .junk, .junk, .junk, .junk, .junk, .junk, .junk, .junk, .junk, .junk], [.cells 24 [.int .u64 0, .int .u64 0], .cells 54 l3, .cells 54 l4]⟩
def T_ref01_Mul_62612 (cp : FuncId → List AV → Option AV) (x0 : Int) (x1 : Int) (x2 : Int) (l3 : List AV) (l4 : List AV) (r62612 : Int → Int → Int → List AV → List AV → Option AV) (r244 : Int → Int → List AV → List AV → Option AV) : Option AV :=
 (cond (decide (x2 > 0))
 (cond ((decide (0 ≤ (IntKind.i64.wrap (x2 - 1)))) && (decide ((IntKind.i64.wrap (x2 - 1)) < 128)))
 (cond (fits (0 + ((Int.toNat (IntKind.i64.wrap (x2 - 1))) * 1)) 1 l4)
 (cond ((decide (0 ≤ x2)) && (decide (x2 < 128)))
 (cond (lenIs (cellsOf (nth l4 (0 + ((Int.toNat (IntKind.i64.wrap (x2 - 1))) * 1)))) 1)
 (cond (cellsOk (cellsOf (nth l4 (0 + ((Int.toNat (IntKind.i64.wrap (x2 - 1))) * 1)))))
 (cond (fits (0 + ((Int.toNat x2) * 1)) 1 l4)
 (r62612 x0 x1 (IntKind.i64.wrap (x2 - 1)) l3 (splice l4 (0 + ((Int.toNat x2) * 1)) (cellsOf (nth l4 (0 + ((Int.toNat (IntKind.i64.wrap (x2 - 1))) * 1))))))
 none)
 none)
 none)
 none)
 none)
 none)
 (cond (fits 0 1 l4)
 (r244 x0 (IntKind.i64.wrap (x1 + 1)) l3 (splice l4 0 [.bool false]))
 none))
theorem K_ref01_Mul_62612 (j : Jump) (n : Nat) (m62612 : Nat) (m244 : Nat) (x0 : Int) (x1 : Int) (x2 : Int) (l3 : List AV) (l4 : List AV) : enter (topEnv C (CP C n) n F_ref01_Mul) (some j) (bodyOf C.P F_ref01_Mul) (endOf C.P F_ref01_Mul) [false, false, true, false, true, false, false, true, false, false, true, false, true, true, true] [(m62612 + 1), m244] (S_ref01_Mul_62612 x0 x1 x2 l3 l4) = T_ref01_Mul_62612 (CP C n) x0 x1 x2 l3 l4 (fun x0 x1 x2 l3 l4 => j [false, false, true, false, true, false, false, true, false, false, true, false, true, true, true] [m62612, m244] (S_ref01_Mul_62612 x0 x1 x2 l3 l4)) (fun x0 x1 l2 l3 => j [false, false, true, false, true, true, true] [m244] (S_ref01_Mul_244 x0 x1 l2 l3)) := by kernel_rfl
def J_ref01_Mul_62612 (cp : FuncId → List AV → Option AV) (n : Nat) (r244 : Int → Int → List AV → List AV → Option AV) : Nat → Int → Int → Int → List AV → List AV → Option AV
  | 0 => (fun x0 x1 x2 l3 l4 => none)
  | m + 1 => (fun x0 x1 x2 l3 l4 => T_ref01_Mul_62612 cp x0 x1 x2 l3 l4 (J_ref01_Mul_62612 cp n r244 m) r244)
theorem Js_ref01_Mul_62612 (cp : FuncId → List AV → Option AV) (n : Nat) (r244 : Int → Int → List AV → List AV → Option AV) (m : Nat) (x0 : Int) (x1 : Int) (x2 : Int) (l3 : List AV) (l4 : List AV) : J_ref01_Mul_62612 cp n r244 (m + 1) x0 x1 x2 l3 l4 = T_ref01_Mul_62612 cp x0 x1 x2 l3 l4 (J_ref01_Mul_62612 cp n r244 m) r244 := of_eq_true (eq_self _)
theorem JE_ref01_Mul_62612 (n : Nat) (m244 : Nat) (r244 : Int → Int → List AV → List AV → Option AV) (h244 : ∀ (x0 : Int) (x1 : Int) (l2 : List AV) (l3 : List AV), jT (topEnv C (CP C n) n F_ref01_Mul) (bodyOf C.P F_ref01_Mul) (endOf C.P F_ref01_Mul) [false, false, true, false, true, true, true] [m244] (S_ref01_Mul_244 x0 x1 l2 l3) = r244 x0 x1 l2 l3) : ∀ (m : Nat) (x0 : Int) (x1 : Int) (x2 : Int) (l3 : List AV) (l4 : List AV), jT (topEnv C (CP C n) n F_ref01_Mul) (bodyOf C.P F_ref01_Mul) (endOf C.P F_ref01_Mul) [false, false, true, false, true, false, false, true, false, false, true, false, true, true, true] [m, m244] (S_ref01_Mul_62612 x0 x1 x2 l3 l4) = J_ref01_Mul_62612 (CP C n) n r244 m x0 x1 x2 l3 l4
  | 0, x0, x1, x2, l3, l4 => (jT_eq _ _ _ _ _ _).trans (by kernel_rfl)
  | m + 1, x0, x1, x2, l3, l4 => (jT_eq _ _ _ _ _ _).trans ((K_ref01_Mul_62612 _ n m m244 x0 x1 x2 l3 l4).trans (congr (congrArg (T_ref01_Mul_62612 (CP C n) x0 x1 x2 l3 l4) (funext fun x0 => (funext fun x1 => (funext fun x2 => (funext fun l3 => (funext fun l4 => (JE_ref01_Mul_62612 n m244 r244 h244 m) x0 x1 x2 l3 l4)))))) (funext fun x0 => (funext fun x1 => (funext fun l2 => (funext fun l3 => h244 x0 x1 l2 l3))))))
def T_ref01_Mul_244 (cp : FuncId → List AV → Option AV) (x0 : Int) (x1 : Int) (l2 : List AV) (l3 : List AV) (j62612 : Int → Int → Int → List AV → List AV → Option AV) : Option AV :=
 (cond (decide (x1 < 64))
 (cond (decide ((IntKind.u64.wrap x1) < 0))
 none
 (bnd (Int.fdiv x0 (2 ^ (min (Int.toNat (IntKind.u64.wrap x1)) 64))) fun y_1 =>
 (bnd (IntKind.u64.wrap ((BitVec.ofInt 64 y_1 &&& BitVec.ofInt 64 1).toNat : Int)) fun y_2 =>
 (cond (y_2 == 1)
 (cond (fits 0 128 l2)
 (cond (fits 0 128 l3)
 (cond ((AV.pureL (List.take 128 (List.drop 0 l2))) && ((AV.pureL (List.take 128 (List.drop 0 l3))) && true))
 ((cp F_ref01_sum [.agg (List.take 128 (List.drop 0 l2)), .agg (List.take 128 (List.drop 0 l3)), .bool false]).bind fun r_3 =>
 (AV.tupK r_3 fun l_4 =>
 (consK l_4 fun v_5 l_6 =>
 (AV.aggK v_5 fun l_7 =>
 (consK l_6 fun v_8 l_9 =>
 (AV.boolK v_8 fun b_10 =>
 (nilK l_9
 (cond (lenIs l_7 128)
 (cond (cellsOk l_7)
 (cond (fits 0 128 l2)
 (j62612 x0 x1 127 (splice l2 0 l_7) l3)
 none)
 none)
 none))))))))
 none)
 none)
 none)
 (j62612 x0 x1 127 l2 l3)))))
 (cond (fits 0 128 l2)
 (cond ((AV.pureL (List.take 128 (List.drop 0 l2))) && true)
 ((cp F_ref01_wide [.agg (List.take 128 (List.drop 0 l2))]).bind fun r_11 =>
 (AV.aggK r_11 fun l_12 =>
 (consK l_12 fun v_13 l_14 =>
 (AV.intK .u64 v_13 fun i_15 =>
 (consK l_14 fun v_16 l_17 =>
 (AV.intK .u64 v_16 fun i_18 =>
 (nilK l_17
 (some (.agg [.int .u64 i_15, .int .u64 i_18])))))))))
 none)
 none))
theorem K_ref01_Mul_244 (j : Jump) (n : Nat) (m244 : Nat) (x0 : Int) (x1 : Int) (l2 : List AV) (l3 : List AV) : enter (topEnv C (CP C n) n F_ref01_Mul) (some j) (bodyOf C.P F_ref01_Mul) (endOf C.P F_ref01_Mul) [false, false, true, false, true, true, true] [(m244 + 1)] (S_ref01_Mul_244 x0 x1 l2 l3) = T_ref01_Mul_244 (CP C n) x0 x1 l2 l3 (fun x0 x1 x2 l3 l4 => j [false, false, true, false, true, false, false, true, false, false, true, false, true, true, true] [(n + 300), m244] (S_ref01_Mul_62612 x0 x1 x2 l3 l4)) := by kernel_rfl
def J_ref01_Mul_244 (cp : FuncId → List AV → Option AV) (n : Nat) : Nat → Int → Int → List AV → List AV → Option AV
  | 0 => (fun x0 x1 l2 l3 => none)
  | m + 1 => (fun x0 x1 l2 l3 => T_ref01_Mul_244 cp x0 x1 l2 l3 (J_ref01_Mul_62612 cp n (J_ref01_Mul_244 cp n m) (n + 300)))
theorem Js_ref01_Mul_244 (cp : FuncId → List AV → Option AV) (n : Nat) (m : Nat) (x0 : Int) (x1 : Int) (l2 : List AV) (l3 : List AV) : J_ref01_Mul_244 cp n (m + 1) x0 x1 l2 l3 = T_ref01_Mul_244 cp x0 x1 l2 l3 (J_ref01_Mul_62612 cp n (J_ref01_Mul_244 cp n m) (n + 300)) := of_eq_true (eq_self _)
theorem JE_ref01_Mul_244 (n : Nat) : ∀ (m : Nat) (x0 : Int) (x1 : Int) (l2 : List AV) (l3 : List AV), jT (topEnv C (CP C n) n F_ref01_Mul) (bodyOf C.P F_ref01_Mul) (endOf C.P F_ref01_Mul) [false, false, true, false, true, true, true] [m] (S_ref01_Mul_244 x0 x1 l2 l3) = J_ref01_Mul_244 (CP C n) n m x0 x1 l2 l3
  | 0, x0, x1, l2, l3 => (jT_eq _ _ _ _ _ _).trans (by kernel_rfl)
  | m + 1, x0, x1, l2, l3 => (jT_eq _ _ _ _ _ _).trans ((K_ref01_Mul_244 _ n m x0 x1 l2 l3).trans (congrArg (T_ref01_Mul_244 (CP C n) x0 x1 l2 l3) (funext fun x0 => (funext fun x1 => (funext fun x2 => (funext fun l3 => (funext fun l4 => (JE_ref01_Mul_62612 n m (J_ref01_Mul_244 (CP C n) n m) (JE_ref01_Mul_244 n m) (n + 300)) x0 x1 x2 l3 l4)))))))
def T_ref01_Mul_116 (cp : FuncId → List AV → Option AV) (x0 : Int) (x1 : Int) (x2 : Int) (l3 : List AV) (r116 : Int → Int → Int → List AV → Option AV) (j244 : Int → Int → List AV → List AV → Option AV) : Option AV :=
 (cond (decide (x2 < 64))
 (cond (decide ((IntKind.u64.wrap x2) < 0))
 none
 (bnd (Int.fdiv x0 (2 ^ (min (Int.toNat (IntKind.u64.wrap x2)) 64))) fun y_1 =>
 (bnd (IntKind.u64.wrap ((BitVec.ofInt 64 y_1 &&& BitVec.ofInt 64 1).toNat : Int)) fun y_2 =>
 (cond ((decide (0 ≤ x2)) && (decide (x2 < 128)))
 (cond (fits (0 + ((Int.toNat x2) * 1)) 1 l3)
 (r116 x0 x1 (IntKind.i64.wrap (x2 + 1)) (splice l3 (0 + ((Int.toNat x2) * 1)) [.bool (y_2 == 1)]))
 none)
 none))))
 (j244 x1 0 [.bool false, .bool false, .bool false, .bool false, .bool false, .bool false, .bool false, .bool false, .bool false, .bool false, .bool false, .bool false, .bool false, .bool false, .bool false, .bool false, .bool false, .bool false, .bool false, .bool false, .bool false, .bool false, .bool false, .bool false, .bool false, .bool false, .bool false, .bool false, .bool false, .bool false, .bool false, .bool false, .bool false, .bool false, .bool false, .bool false, .bool false, .bool false, .bool false, .bool false, .bool false, .bool false, .bool false, .bool false, .bool false, .bool false, .bool false, .bool false, .bool false, .bool false, .bool false, .bool false, .bool false, .bool false, .bool false, .bool false, .bool false, .bool false, .bool false, .bool false, .bool false, .bool false, .bool false, .bool false, .bool false, .bool false, .bool false, .bool false, .bool false, .bool false, .bool false, .bool false, .bool false, .bool false, .bool false, .bool false, .bool false, .bool false, .bool false, .bool false, .bool false, .bool false, .bool false, .bool false, .bool false, .bool false, .bool false, .bool false, .bool false, .bool false, .bool false, .bool false, .bool false, .bool false, .bool false, .bool false, .bool false, .bool false, .bool false, .bool false, .bool false, .bool false, .bool false, .bool false, .bool false, .bool false, .bool false, .bool false, .bool false, .bool false, .bool false, .bool false, .bool false, .bool false, .bool false, .bool false, .bool false, .bool false, .bool false, .bool false, .bool false, .bool false, .bool false, .bool false, .bool false, .bool false, .bool false, .bool false] l3))
theorem K_ref01_Mul_116 (j : Jump) (n : Nat) (m116 : Nat) (x0 : Int) (x1 : Int) (x2 : Int) (l3 : List AV) : enter (topEnv C (CP C n) n F_ref01_Mul) (some j) (bodyOf C.P F_ref01_Mul) (endOf C.P F_ref01_Mul) [false, false, true, false, true, true] [(m116 + 1)] (S_ref01_Mul_116 x0 x1 x2 l3) = T_ref01_Mul_116 (CP C n) x0 x1 x2 l3 (fun x0 x1 x2 l3 => j [false, false, true, false, true, true] [m116] (S_ref01_Mul_116 x0 x1 x2 l3)) (fun x0 x1 l2 l3 => j [false, false, true, false, true, true, true] [(n + 300)] (S_ref01_Mul_244 x0 x1 l2 l3)) := by kernel_rfl
def J_ref01_Mul_116 (cp : FuncId → List AV → Option AV) (n : Nat) : Nat → Int → Int → Int → List AV → Option AV
  | 0 => (fun x0 x1 x2 l3 => none)
  | m + 1 => (fun x0 x1 x2 l3 => T_ref01_Mul_116 cp x0 x1 x2 l3 (J_ref01_Mul_116 cp n m) (J_ref01_Mul_244 cp n (n + 300)))
theorem Js_ref01_Mul_116 (cp : FuncId → List AV → Option AV) (n : Nat) (m : Nat) (x0 : Int) (x1 : Int) (x2 : Int) (l3 : List AV) : J_ref01_Mul_116 cp n (m + 1) x0 x1 x2 l3 = T_ref01_Mul_116 cp x0 x1 x2 l3 (J_ref01_Mul_116 cp n m) (J_ref01_Mul_244 cp n (n + 300)) := of_eq_true (eq_self _)
theorem JE_ref01_Mul_116 (n : Nat) : ∀ (m : Nat) (x0 : Int) (x1 : Int) (x2 : Int) (l3 : List AV), jT (topEnv C (CP C n) n F_ref01_Mul) (bodyOf C.P F_ref01_Mul) (endOf C.P F_ref01_Mul) [false, false, true, false, true, true] [m] (S_ref01_Mul_116 x0 x1 x2 l3) = J_ref01_Mul_116 (CP C n) n m x0 x1 x2 l3
  | 0, x0, x1, x2, l3 => (jT_eq _ _ _ _ _ _).trans (by kernel_rfl)
  | m + 1, x0, x1, x2, l3 => (jT_eq _ _ _ _ _ _).trans ((K_ref01_Mul_116 _ n m x0 x1 x2 l3).trans (congr (congrArg (T_ref01_Mul_116 (CP C n) x0 x1 x2 l3) (funext fun x0 => (funext fun x1 => (funext fun x2 => (funext fun l3 => (JE_ref01_Mul_116 n m) x0 x1 x2 l3))))) (funext fun x0 => (funext fun x1 => (funext fun l2 => (funext fun l3 => (JE_ref01_Mul_244 n (n + 300)) x0 x1 l2 l3))))))
def T_ref01_Mul_1 (cp : FuncId → List AV → Option AV) (a0 : Int) (a1 : Int) (j116 : Int → Int → Int → List AV → Option AV) : Option AV :=
 (j116 a0 a1 0 [.bool false, .bool false, .bool false, .bool false, .bool false, .bool false, .bool false, .bool false, .bool false, .bool false, .bool false, .bool false, .bool false, .bool false, .bool false, .bool false, .bool false, .bool false, .bool false, .bool false, .bool false, .bool false, .bool false, .bool false, .bool false, .bool false, .bool false, .bool false, .bool false, .bool false, .bool false, .bool false, .bool false, .bool false, .bool false, .bool false, .bool false, .bool false, .bool false, .bool false, .bool false, .bool false, .bool false, .bool false, .bool false, .bool false, .bool false, .bool false, .bool false, .bool false, .bool false, .bool false, .bool false, .bool false, .bool false, .bool false, .bool false, .bool false, .bool false, .bool false, .bool false, .bool false, .bool false, .bool false, .bool false, .bool false, .bool false, .bool false, .bool false, .bool false, .bool false, .bool false, .bool false, .bool false, .bool false, .bool false, .bool false, .bool false, .bool false, .bool false, .bool false, .bool false, .bool false, .bool false, .bool false, .bool false, .bool false, .bool false, .bool false, .bool false, .bool false, .bool false, .bool false, .bool false, .bool false, .bool false, .bool false, .bool false, .bool false, .bool false, .bool false, .bool false, .bool false, .bool false, .bool false, .bool false, .bool false, .bool false, .bool false, .bool false, .bool false, .bool false, .bool false, .bool false, .bool false, .bool false, .bool false, .bool false, .bool false, .bool false, .bool false, .bool false, .bool false, .bool false, .bool false, .bool false, .bool false, .bool false])
theorem K_ref01_Mul_1 (j : Jump) (n : Nat) (a0 : Int) (a1 : Int) : ex (topEnv C (CP C n) n F_ref01_Mul) (some j) (bodyOf C.P F_ref01_Mul) 1 [] [] (endOf C.P F_ref01_Mul) (startOf C.P F_ref01_Mul [.int .u64 a0, .int .u64 a1]) = T_ref01_Mul_1 (CP C n) a0 a1 (fun x0 x1 x2 l3 => j [false, false, true, false, true, true] [(n + 300)] (S_ref01_Mul_116 x0 x1 x2 l3)) := by kernel_rfl
def R_ref01_Mul (cp : FuncId → List AV → Option AV) (n : Nat) (a0 : Int) (a1 : Int) : Option AV := T_ref01_Mul_1 cp a0 a1 (J_ref01_Mul_116 cp n (n + 300))
theorem eq_ref01_Mul (n : Nat) (a0 : Int) (a1 : Int) : CP C (n + 1) F_ref01_Mul [.int .u64 a0, .int .u64 a1] = R_ref01_Mul (CP C n) n a0 a1 :=
  (CP_pure C n F_ref01_Mul _ (by kernel_rfl) (by kernel_rfl)).trans ((K_ref01_Mul_1 _ n a0 a1).trans (congrArg (T_ref01_Mul_1 (CP C n) a0 a1) (funext fun x0 => (funext fun x1 => (funext fun x2 => (funext fun l3 => (JE_ref01_Mul_116 n (n + 300)) x0 x1 x2 l3))))))
-- law01_WideMuls
def R_law01_WideMuls (cp : FuncId → List AV → Option AV) (_n : Nat) (a0_0 : Int) (a0_1 : Int) (a1 : Int) (a2 : Int) : Option AV :=
 ((cp F_wide_Div [.agg [.int .u64 a0_0, .int .u64 a0_1], .int .u64 a1]).bind fun r_1 =>
 (AV.tupK r_1 fun l_2 =>
 (consK l_2 fun v_3 l_4 =>
 (AV.aggK v_3 fun l_5 =>
 (consK l_5 fun v_6 l_7 =>
 (AV.intK .u64 v_6 fun i_8 =>
 (consK l_7 fun v_9 l_10 =>
 (AV.intK .u64 v_9 fun i_11 =>
 (nilK l_10
 (consK l_4 fun v_12 l_13 =>
 (AV.intK .u64 v_12 fun i_14 =>
 (consK l_13 fun v_15 l_16 =>
 (AV.intK .i64 v_15 fun i_17 =>
 (nilK l_16
 ((cp F_ref01_Div [.agg [.int .u64 a0_0, .int .u64 a0_1], .int .u64 a1]).bind fun r_18 =>
 (AV.tupK r_18 fun l_19 =>
 (consK l_19 fun v_20 l_21 =>
 (AV.aggK v_20 fun l_22 =>
 (consK l_22 fun v_23 l_24 =>
 (AV.intK .u64 v_23 fun i_25 =>
 (consK l_24 fun v_26 l_27 =>
 (AV.intK .u64 v_26 fun i_28 =>
 (nilK l_27
 (consK l_21 fun v_29 l_30 =>
 (AV.intK .u64 v_29 fun i_31 =>
 (consK l_30 fun v_32 l_33 =>
 (AV.intK .i64 v_32 fun i_34 =>
 (nilK l_33
 ((cp F_wide_Mul [.int .u64 a1, .int .u64 a2]).bind fun r_35 =>
 (AV.aggK r_35 fun l_36 =>
 (consK l_36 fun v_37 l_38 =>
 (AV.intK .u64 v_37 fun i_39 =>
 (consK l_38 fun v_40 l_41 =>
 (AV.intK .u64 v_40 fun i_42 =>
 (nilK l_41
 ((cp F_ref01_Mul [.int .u64 a1, .int .u64 a2]).bind fun r_43 =>
 (AV.aggK r_43 fun l_44 =>
 (consK l_44 fun v_45 l_46 =>
 (AV.intK .u64 v_45 fun i_47 =>
 (consK l_46 fun v_48 l_49 =>
 (AV.intK .u64 v_48 fun i_50 =>
 (nilK l_49
 (cond ((i_39 == i_47) && ((i_42 == i_50) && true))
 (cond ((i_8 == i_25) && ((i_11 == i_28) && true))
 (cond (i_14 == i_31)
 (cond (i_17 == i_34)
 ((cp F_law01_awake []).bind fun r_51 =>
 (AV.boolK r_51 fun b_52 =>
 (some (.bool b_52))))
 (some (.bool false)))
 (some (.bool false)))
 (some (.bool false)))
 (some (.bool false)))))))))))))))))))))))))))))))))))))))))))))
theorem eq_law01_WideMuls (n : Nat) (a0_0 : Int) (a0_1 : Int) (a1 : Int) (a2 : Int) : CP C (n + 1) F_law01_WideMuls [.agg [.int .u64 a0_0, .int .u64 a0_1], .int .u64 a1, .int .u64 a2] = R_law01_WideMuls (CP C n) n a0_0 a0_1 a1 a2 := by kernel_rfl
-- wide_Of
def R_wide_Of (cp : FuncId → List AV → Option AV) (_n : Nat) (a0 : Int) : Option AV :=
 (some (.agg [.int .u64 (IntKind.u64.wrap (Int.fdiv a0 9223372036854775808)), .int .u64 (IntKind.u64.wrap a0)]))
theorem eq_wide_Of (n : Nat) (a0 : Int) : CP C (n + 1) F_wide_Of [.int .i64 a0] = R_wide_Of (CP C n) n a0 := by kernel_rfl
-- wide_Int
def R_wide_Int (cp : FuncId → List AV → Option AV) (_n : Nat) (a0_0 : Int) (a0_1 : Int) : Option AV :=
 ((cp F_wide_Of [.int .i64 (IntKind.i64.wrap a0_1)]).bind fun r_1 =>
 (AV.aggK r_1 fun l_2 =>
 (consK l_2 fun v_3 l_4 =>
 (AV.intK .u64 v_3 fun i_5 =>
 (consK l_4 fun v_6 l_7 =>
 (AV.intK .u64 v_6 fun i_8 =>
 (nilK l_7
 (cond (!((i_5 == a0_0) && ((i_8 == a0_1) && true)))
 (some (.tup [.int .i64 0, .int .i64 8]))
 (some (.tup [.int .i64 (IntKind.i64.wrap a0_1), .int .i64 0]))))))))))
theorem eq_wide_Int (n : Nat) (a0_0 : Int) (a0_1 : Int) : CP C (n + 1) F_wide_Int [.agg [.int .u64 a0_0, .int .u64 a0_1]] = R_wide_Int (CP C n) n a0_0 a0_1 := by kernel_rfl
-- ref01_Of
def R_ref01_Of (cp : FuncId → List AV → Option AV) (_n : Nat) (a0 : Int) : Option AV :=
 (cond (decide (a0 < 0))
 (some (.agg [.int .u64 18446744073709551615, .int .u64 (IntKind.u64.wrap a0)]))
 (some (.agg [.int .u64 0, .int .u64 (IntKind.u64.wrap a0)])))
theorem eq_ref01_Of (n : Nat) (a0 : Int) : CP C (n + 1) F_ref01_Of [.int .i64 a0] = R_ref01_Of (CP C n) n a0 := by kernel_rfl
-- ref01_Int
def R_ref01_Int (cp : FuncId → List AV → Option AV) (_n : Nat) (a0_0 : Int) (a0_1 : Int) : Option AV :=
 ((cp F_ref01_Of [.int .i64 (IntKind.i64.wrap a0_1)]).bind fun r_1 =>
 (AV.aggK r_1 fun l_2 =>
 (consK l_2 fun v_3 l_4 =>
 (AV.intK .u64 v_3 fun i_5 =>
 (consK l_4 fun v_6 l_7 =>
 (AV.intK .u64 v_6 fun i_8 =>
 (nilK l_7
 (cond (!((i_5 == a0_0) && ((i_8 == a0_1) && true)))
 (some (.tup [.int .i64 0, .int .i64 8]))
 (some (.tup [.int .i64 (IntKind.i64.wrap a0_1), .int .i64 0]))))))))))
theorem eq_ref01_Int (n : Nat) (a0_0 : Int) (a0_1 : Int) : CP C (n + 1) F_ref01_Int [.agg [.int .u64 a0_0, .int .u64 a0_1]] = R_ref01_Int (CP C n) n a0_0 a0_1 := by kernel_rfl
-- law01_WideInts
def R_law01_WideInts (cp : FuncId → List AV → Option AV) (_n : Nat) (a0 : Int) (a1_0 : Int) (a1_1 : Int) : Option AV :=
 ((cp F_wide_Of [.int .i64 a0]).bind fun r_1 =>
 (AV.aggK r_1 fun l_2 =>
 (consK l_2 fun v_3 l_4 =>
 (AV.intK .u64 v_3 fun i_5 =>
 (consK l_4 fun v_6 l_7 =>
 (AV.intK .u64 v_6 fun i_8 =>
 (nilK l_7
 ((cp F_wide_Int [.agg [.int .u64 i_5, .int .u64 i_8]]).bind fun r_9 =>
 (AV.tupK r_9 fun l_10 =>
 (consK l_10 fun v_11 l_12 =>
 (AV.intK .i64 v_11 fun i_13 =>
 (consK l_12 fun v_14 l_15 =>
 (AV.intK .i64 v_14 fun i_16 =>
 (nilK l_15
 ((cp F_wide_Int [.agg [.int .u64 a1_0, .int .u64 a1_1]]).bind fun r_17 =>
 (AV.tupK r_17 fun l_18 =>
 (consK l_18 fun v_19 l_20 =>
 (AV.intK .i64 v_19 fun i_21 =>
 (consK l_20 fun v_22 l_23 =>
 (AV.intK .i64 v_22 fun i_24 =>
 (nilK l_23
 ((cp F_ref01_Int [.agg [.int .u64 a1_0, .int .u64 a1_1]]).bind fun r_25 =>
 (AV.tupK r_25 fun l_26 =>
 (consK l_26 fun v_27 l_28 =>
 (AV.intK .i64 v_27 fun i_29 =>
 (consK l_28 fun v_30 l_31 =>
 (AV.intK .i64 v_30 fun i_32 =>
 (nilK l_31
 (cond (i_13 == a0)
 (cond (i_16 == 0)
 ((cp F_wide_Of [.int .i64 a0]).bind fun r_33 =>
 (AV.aggK r_33 fun l_34 =>
 (consK l_34 fun v_35 l_36 =>
 (AV.intK .u64 v_35 fun i_37 =>
 (consK l_36 fun v_38 l_39 =>
 (AV.intK .u64 v_38 fun i_40 =>
 (nilK l_39
 ((cp F_ref01_Of [.int .i64 a0]).bind fun r_41 =>
 (AV.aggK r_41 fun l_42 =>
 (consK l_42 fun v_43 l_44 =>
 (AV.intK .u64 v_43 fun i_45 =>
 (consK l_44 fun v_46 l_47 =>
 (AV.intK .u64 v_46 fun i_48 =>
 (nilK l_47
 (cond ((i_37 == i_45) && ((i_40 == i_48) && true))
 (cond (i_21 == i_29)
 (cond (i_24 == i_32)
 ((cp F_law01_awake []).bind fun r_49 =>
 (AV.boolK r_49 fun b_50 =>
 (some (.bool b_50))))
 (some (.bool false)))
 (some (.bool false)))
 (some (.bool false)))))))))))))))))
 (some (.bool false)))
 (some (.bool false)))))))))))))))))))))))))))))))
theorem eq_law01_WideInts (n : Nat) (a0 : Int) (a1_0 : Int) (a1_1 : Int) : CP C (n + 1) F_law01_WideInts [.int .i64 a0, .agg [.int .u64 a1_0, .int .u64 a1_1]] = R_law01_WideInts (CP C n) n a0 a1_0 a1_1 := by kernel_rfl
-- law01_WideBack
def S_law01_WideBack_2047 (b0 : Bool) : St := ⟨[.junk, .junk, .junk, .junk, .junk, .junk, .bool b0, .junk, .junk, .junk, .junk, .junk, .junk, .junk, .junk, .junk, .junk, .junk, .junk, .junk, .junk, .junk, .junk, .junk, .junk, .junk, .junk, .junk, .junk, .junk, .junk, .junk, .junk, .junk, .junk, .junk, .junk, .junk, .junk, .junk, .junk, .junk, .junk, .junk, .junk, .junk, .junk, .junk, .junk, .junk, .junk, .junk, .junk, .junk, .junk, .junk, .junk, .junk, .junk, .junk, .junk, .junk, .junk, .junk, .junk, .junk, .junk, .junk, .junk, .junk, .junk, .junk, .junk, .junk, .junk, .junk, .junk, .junk, .junk, .junk, .junk, .junk, .junk, .junk, .junk, .junk, .junk, .junk, .junk, .junk, .junk, .junk, .junk, .junk, .junk, .junk, .junk, .junk, .junk, .junk, .junk, .junk], [.dead, .dead, .dead, .dead, .dead, .dead, .dead, .dead, .dead]⟩
def T_law01_WideBack_2047 (cp : FuncId → List AV → Option AV) (b0 : Bool) : Option AV :=
 (some (.bool b0))
theorem K_law01_WideBack_2047 (j : Jump) (n : Nat) (b0 : Bool) : enter (topEnv C (CP C n) n F_law01_WideBack) (some j) (bodyOf C.P F_law01_WideBack) (endOf C.P F_law01_WideBack) [true, true, true, true, true, true, true, true, true, true] [] (S_law01_WideBack_2047 b0) = T_law01_WideBack_2047 (CP C n) b0 := by kernel_rfl
def J_law01_WideBack_2047 (cp : FuncId → List AV → Option AV) (n : Nat) (b0 : Bool) : Option AV := T_law01_WideBack_2047 cp b0
theorem JE_law01_WideBack_2047 (n : Nat) (b0 : Bool) : jT (topEnv C (CP C n) n F_law01_WideBack) (bodyOf C.P F_law01_WideBack) (endOf C.P F_law01_WideBack) [true, true, true, true, true, true, true, true, true, true] [] (S_law01_WideBack_2047 b0) = J_law01_WideBack_2047 (CP C n) n b0 :=
  (jT_eq _ _ _ _ _ _).trans ((K_law01_WideBack_2047 _ n b0).trans (rfl))
def T_law01_WideBack_1 (cp : FuncId → List AV → Option AV) (a0_0 : Int) (a0_1 : Int) (a1 : Int) (a2_0 : Int) (a2_1 : Int) (j2047 : Bool → Option AV) : Option AV :=
 ((cp F_wide_Div [.agg [.int .u64 a0_0, .int .u64 a0_1], .int .u64 a1]).bind fun r_1 =>
 (AV.tupK r_1 fun l_2 =>
 (consK l_2 fun v_3 l_4 =>
 (AV.aggK v_3 fun l_5 =>
 (consK l_5 fun v_6 l_7 =>
 (AV.intK .u64 v_6 fun i_8 =>
 (consK l_7 fun v_9 l_10 =>
 (AV.intK .u64 v_9 fun i_11 =>
 (nilK l_10
 (consK l_4 fun v_12 l_13 =>
 (AV.intK .u64 v_12 fun i_14 =>
 (consK l_13 fun v_15 l_16 =>
 (AV.intK .i64 v_15 fun i_17 =>
 (nilK l_16
 (cond (a1 == 0)
 (cond (i_17 == 5)
 ((cp F_law01_awake []).bind fun r_18 =>
 (AV.boolK r_18 fun b_19 =>
 (some (.bool b_19))))
 (some (.bool false)))
 ((cp F_wide_Mul [.int .u64 i_11, .int .u64 a1]).bind fun r_20 =>
 (AV.aggK r_20 fun l_21 =>
 (consK l_21 fun v_22 l_23 =>
 (AV.intK .u64 v_22 fun i_24 =>
 (consK l_23 fun v_25 l_26 =>
 (AV.intK .u64 v_25 fun i_27 =>
 (nilK l_26
 ((cp F_wide_Mul [.int .u64 i_8, .int .u64 a1]).bind fun r_28 =>
 (AV.aggK r_28 fun l_29 =>
 (consK l_29 fun v_30 l_31 =>
 (AV.intK .u64 v_30 fun i_32 =>
 (consK l_31 fun v_33 l_34 =>
 (AV.intK .u64 v_33 fun i_35 =>
 (nilK l_34
 ((cp F_wide_Add [.agg [.int .u64 i_24, .int .u64 i_27], .agg [.int .u64 i_35, .int .u64 0]]).bind fun r_36 =>
 (AV.tupK r_36 fun l_37 =>
 (consK l_37 fun v_38 l_39 =>
 (AV.aggK v_38 fun l_40 =>
 (consK l_40 fun v_41 l_42 =>
 (AV.intK .u64 v_41 fun i_43 =>
 (consK l_42 fun v_44 l_45 =>
 (AV.intK .u64 v_44 fun i_46 =>
 (nilK l_45
 (consK l_39 fun v_47 l_48 =>
 (AV.boolK v_47 fun b_49 =>
 (nilK l_48
 ((cp F_wide_Add [.agg [.int .u64 i_43, .int .u64 i_46], .agg [.int .u64 0, .int .u64 i_14]]).bind fun r_50 =>
 (AV.tupK r_50 fun l_51 =>
 (consK l_51 fun v_52 l_53 =>
 (AV.aggK v_52 fun l_54 =>
 (consK l_54 fun v_55 l_56 =>
 (AV.intK .u64 v_55 fun i_57 =>
 (consK l_56 fun v_58 l_59 =>
 (AV.intK .u64 v_58 fun i_60 =>
 (nilK l_59
 (consK l_53 fun v_61 l_62 =>
 (AV.boolK v_61 fun b_63 =>
 (nilK l_62
 ((cp F_wide_Add [.agg [.int .u64 a0_0, .int .u64 a0_1], .agg [.int .u64 a2_0, .int .u64 a2_1]]).bind fun r_64 =>
 (AV.tupK r_64 fun l_65 =>
 (consK l_65 fun v_66 l_67 =>
 (AV.aggK v_66 fun l_68 =>
 (consK l_68 fun v_69 l_70 =>
 (AV.intK .u64 v_69 fun i_71 =>
 (consK l_70 fun v_72 l_73 =>
 (AV.intK .u64 v_72 fun i_74 =>
 (nilK l_73
 (consK l_67 fun v_75 l_76 =>
 (AV.boolK v_75 fun b_77 =>
 (nilK l_76
 ((cp F_wide_Sub [.agg [.int .u64 i_71, .int .u64 i_74], .agg [.int .u64 a2_0, .int .u64 a2_1]]).bind fun r_78 =>
 (AV.tupK r_78 fun l_79 =>
 (consK l_79 fun v_80 l_81 =>
 (AV.aggK v_80 fun l_82 =>
 (consK l_82 fun v_83 l_84 =>
 (AV.intK .u64 v_83 fun i_85 =>
 (consK l_84 fun v_86 l_87 =>
 (AV.intK .u64 v_86 fun i_88 =>
 (nilK l_87
 (consK l_81 fun v_89 l_90 =>
 (AV.boolK v_89 fun b_91 =>
 (nilK l_90
 (cond (i_17 == 0)
 (cond (decide (i_14 < a1))
 (cond (i_32 == 0)
 (cond (!b_49)
 (cond (!b_63)
 (cond ((i_57 == a0_0) && ((i_60 == a0_1) && true))
 (cond ((i_85 == a0_0) && ((i_88 == a0_1) && true))
 ((cp F_law01_awake []).bind fun r_92 =>
 (AV.boolK r_92 fun b_93 =>
 (j2047 b_93)))
 (j2047 false))
 (j2047 false))
 (j2047 false))
 (j2047 false))
 (j2047 false))
 (j2047 false))
 (j2047 false)))))))))))))))))))))))))))))))))))))))))))))))))))))))))))))))))))))))))))))))
theorem K_law01_WideBack_1 (j : Jump) (n : Nat) (a0_0 : Int) (a0_1 : Int) (a1 : Int) (a2_0 : Int) (a2_1 : Int) : ex (topEnv C (CP C n) n F_law01_WideBack) (some j) (bodyOf C.P F_law01_WideBack) 1 [] [] (endOf C.P F_law01_WideBack) (startOf C.P F_law01_WideBack [.agg [.int .u64 a0_0, .int .u64 a0_1], .int .u64 a1, .agg [.int .u64 a2_0, .int .u64 a2_1]]) = T_law01_WideBack_1 (CP C n) a0_0 a0_1 a1 a2_0 a2_1 (fun b0 => j [true, true, true, true, true, true, true, true, true, true] [] (S_law01_WideBack_2047 b0)) := by kernel_rfl
def R_law01_WideBack (cp : FuncId → List AV → Option AV) (n : Nat) (a0_0 : Int) (a0_1 : Int) (a1 : Int) (a2_0 : Int) (a2_1 : Int) : Option AV := T_law01_WideBack_1 cp a0_0 a0_1 a1 a2_0 a2_1 (J_law01_WideBack_2047 cp n)
theorem eq_law01_WideBack (n : Nat) (a0_0 : Int) (a0_1 : Int) (a1 : Int) (a2_0 : Int) (a2_1 : Int) : CP C (n + 1) F_law01_WideBack [.agg [.int .u64 a0_0, .int .u64 a0_1], .int .u64 a1, .agg [.int .u64 a2_0, .int .u64 a2_1]] = R_law01_WideBack (CP C n) n a0_0 a0_1 a1 a2_0 a2_1 :=
  (CP_pure C n F_law01_WideBack _ (by kernel_rfl) (by kernel_rfl)).trans ((K_law01_WideBack_1 _ n a0_0 a0_1 a1 a2_0 a2_1).trans (congrArg (T_law01_WideBack_1 (CP C n) a0_0 a0_1 a1 a2_0 a2_1) (funext fun b0 => (JE_law01_WideBack_2047 n) b0)))
-- wide_Text
def S_wide_Text_252 (s0 : ByteArray) (x1 : Int) (x2 : Int) (x3 : Int) (l4 : List AV) : St := ⟨[.junk, .ptr (some (0, 0)), .junk, .str s0, .ptr (some (1, 0)), .int .i64 x1, .junk, .junk, .junk, .junk, .junk, .junk, .junk, .junk, .junk, .junk, .junk, .junk, .junk, .junk, .junk, .junk, .junk, .junk, .junk, .junk, .junk, .junk, .junk, .junk, .junk, .junk, .junk], [.cells 24 [.int .u64 x2, .int .u64 x3], .cells 61 l4]⟩
def T_wide_Text_252 (cp : FuncId → List AV → Option AV) (s0 : ByteArray) (x1 : Int) (x2 : Int) (x3 : Int) (l4 : List AV) (r252 : ByteArray → Int → Int → Int → List AV → Option AV) : Option AV :=
 ((cp F_wide_Div [.agg [.int .u64 x2, .int .u64 x3], .int .u64 10]).bind fun r_1 =>
 (AV.tupK r_1 fun l_2 =>
 (consK l_2 fun v_3 l_4 =>
 (AV.aggK v_3 fun l_5 =>
 (consK l_5 fun v_6 l_7 =>
 (AV.intK .u64 v_6 fun i_8 =>
 (consK l_7 fun v_9 l_10 =>
 (AV.intK .u64 v_9 fun i_11 =>
 (nilK l_10
 (consK l_4 fun v_12 l_13 =>
 (AV.intK .u64 v_12 fun i_14 =>
 (consK l_13 fun v_15 l_16 =>
 (AV.intK .i64 v_15 fun i_17 =>
 (nilK l_16
 (cond ((decide (0 ≤ (IntKind.i64.wrap (x1 - 1)))) && (decide ((IntKind.i64.wrap (x1 - 1)) < 40)))
 (cond (fits (0 + ((Int.toNat (IntKind.i64.wrap (x1 - 1))) * 1)) 1 l4)
 (cond ((i_8 == 0) && ((i_11 == 0) && true))
 (cond ((decide (0 ≤ (IntKind.i64.wrap (x1 - 1)))) && (decide ((IntKind.i64.wrap (x1 - 1)) ≤ 40)))
 (cond (Nat.beq 40 (Int.toNat (IntKind.i64.wrap (x1 - 1))))
 (cond (fits 0 (40 - (Int.toNat (IntKind.i64.wrap (x1 - 1)))) (splice l4 (0 + ((Int.toNat (IntKind.i64.wrap (x1 - 1))) * 1)) [.int .u8 (IntKind.u8.wrap (48 + (IntKind.u8.wrap i_14)))]))
 (match bytesOf (List.take (40 - (Int.toNat (IntKind.i64.wrap (x1 - 1)))) (List.drop 0 (splice l4 (0 + ((Int.toNat (IntKind.i64.wrap (x1 - 1))) * 1)) [.int .u8 (IntKind.u8.wrap (48 + (IntKind.u8.wrap i_14)))]))) (some .empty) with
 | some s_18 => (cond (decide (((ByteArray.size s0 + ByteArray.size s_18 : Nat) : Int) > IntKind.i64.max))
 none
 (some (.str (s0 ++ s_18))))
 | none => none)
 none)
 (cond (fits (0 + ((Int.toNat (IntKind.i64.wrap (x1 - 1))) * 1)) (40 - (Int.toNat (IntKind.i64.wrap (x1 - 1)))) (splice l4 (0 + ((Int.toNat (IntKind.i64.wrap (x1 - 1))) * 1)) [.int .u8 (IntKind.u8.wrap (48 + (IntKind.u8.wrap i_14)))]))
 (match bytesOf (List.take (40 - (Int.toNat (IntKind.i64.wrap (x1 - 1)))) (List.drop (0 + ((Int.toNat (IntKind.i64.wrap (x1 - 1))) * 1)) (splice l4 (0 + ((Int.toNat (IntKind.i64.wrap (x1 - 1))) * 1)) [.int .u8 (IntKind.u8.wrap (48 + (IntKind.u8.wrap i_14)))]))) (some .empty) with
 | some s_19 => (cond (decide (((ByteArray.size s0 + ByteArray.size s_19 : Nat) : Int) > IntKind.i64.max))
 none
 (some (.str (s0 ++ s_19))))
 | none => none)
 none))
 none)
 (r252 s0 (IntKind.i64.wrap (x1 - 1)) i_8 i_11 (splice l4 (0 + ((Int.toNat (IntKind.i64.wrap (x1 - 1))) * 1)) [.int .u8 (IntKind.u8.wrap (48 + (IntKind.u8.wrap i_14)))])))
 none)
 none)))))))))))))))
theorem K_wide_Text_252 (j : Jump) (n : Nat) (m252 : Nat) (s0 : ByteArray) (x1 : Int) (x2 : Int) (x3 : Int) (l4 : List AV) : enter (topEnv C (CP C n) n F_wide_Text) (some j) (bodyOf C.P F_wide_Text) (endOf C.P F_wide_Text) [false, false, true, true, true, true, true] [(m252 + 1)] (S_wide_Text_252 s0 x1 x2 x3 l4) = T_wide_Text_252 (CP C n) s0 x1 x2 x3 l4 (fun s0 x1 x2 x3 l4 => j [false, false, true, true, true, true, true] [m252] (S_wide_Text_252 s0 x1 x2 x3 l4)) := by kernel_rfl
def J_wide_Text_252 (cp : FuncId → List AV → Option AV) (n : Nat) : Nat → ByteArray → Int → Int → Int → List AV → Option AV
  | 0 => (fun s0 x1 x2 x3 l4 => none)
  | m + 1 => (fun s0 x1 x2 x3 l4 => T_wide_Text_252 cp s0 x1 x2 x3 l4 (J_wide_Text_252 cp n m))
theorem Js_wide_Text_252 (cp : FuncId → List AV → Option AV) (n : Nat) (m : Nat) (s0 : ByteArray) (x1 : Int) (x2 : Int) (x3 : Int) (l4 : List AV) : J_wide_Text_252 cp n (m + 1) s0 x1 x2 x3 l4 = T_wide_Text_252 cp s0 x1 x2 x3 l4 (J_wide_Text_252 cp n m) := of_eq_true (eq_self _)
theorem JE_wide_Text_252 (n : Nat) : ∀ (m : Nat) (s0 : ByteArray) (x1 : Int) (x2 : Int) (x3 : Int) (l4 : List AV), jT (topEnv C (CP C n) n F_wide_Text) (bodyOf C.P F_wide_Text) (endOf C.P F_wide_Text) [false, false, true, true, true, true, true] [m] (S_wide_Text_252 s0 x1 x2 x3 l4) = J_wide_Text_252 (CP C n) n m s0 x1 x2 x3 l4
  | 0, s0, x1, x2, x3, l4 => (jT_eq _ _ _ _ _ _).trans (by kernel_rfl)
  | m + 1, s0, x1, x2, x3, l4 => (jT_eq _ _ _ _ _ _).trans ((K_wide_Text_252 _ n m s0 x1 x2 x3 l4).trans (congrArg (T_wide_Text_252 (CP C n) s0 x1 x2 x3 l4) (funext fun s0 => (funext fun x1 => (funext fun x2 => (funext fun x3 => (funext fun l4 => (JE_wide_Text_252 n m) s0 x1 x2 x3 l4)))))))
def T_wide_Text_1 (cp : FuncId → List AV → Option AV) (a0_0 : Int) (a0_1 : Int) (j252 : ByteArray → Int → Int → Int → List AV → Option AV) : Option AV :=
 (cond (decide (a0_0 ≥ 9223372036854775808))
 ((cp F_wide_Neg [.agg [.int .u64 a0_0, .int .u64 a0_1]]).bind fun r_1 =>
 (AV.aggK r_1 fun l_2 =>
 (consK l_2 fun v_3 l_4 =>
 (AV.intK .u64 v_3 fun i_5 =>
 (consK l_4 fun v_6 l_7 =>
 (AV.intK .u64 v_6 fun i_8 =>
 (nilK l_7
 (j252 (ByteArray.mk #[45]) 40 i_5 i_8 [.int .u8 0, .int .u8 0, .int .u8 0, .int .u8 0, .int .u8 0, .int .u8 0, .int .u8 0, .int .u8 0, .int .u8 0, .int .u8 0, .int .u8 0, .int .u8 0, .int .u8 0, .int .u8 0, .int .u8 0, .int .u8 0, .int .u8 0, .int .u8 0, .int .u8 0, .int .u8 0, .int .u8 0, .int .u8 0, .int .u8 0, .int .u8 0, .int .u8 0, .int .u8 0, .int .u8 0, .int .u8 0, .int .u8 0, .int .u8 0, .int .u8 0, .int .u8 0, .int .u8 0, .int .u8 0, .int .u8 0, .int .u8 0, .int .u8 0, .int .u8 0, .int .u8 0, .int .u8 0]))))))))
 (j252 (ByteArray.mk #[]) 40 a0_0 a0_1 [.int .u8 0, .int .u8 0, .int .u8 0, .int .u8 0, .int .u8 0, .int .u8 0, .int .u8 0, .int .u8 0, .int .u8 0, .int .u8 0, .int .u8 0, .int .u8 0, .int .u8 0, .int .u8 0, .int .u8 0, .int .u8 0, .int .u8 0, .int .u8 0, .int .u8 0, .int .u8 0, .int .u8 0, .int .u8 0, .int .u8 0, .int .u8 0, .int .u8 0, .int .u8 0, .int .u8 0, .int .u8 0, .int .u8 0, .int .u8 0, .int .u8 0, .int .u8 0, .int .u8 0, .int .u8 0, .int .u8 0, .int .u8 0, .int .u8 0, .int .u8 0, .int .u8 0, .int .u8 0]))
theorem K_wide_Text_1 (j : Jump) (n : Nat) (a0_0 : Int) (a0_1 : Int) : ex (topEnv C (CP C n) n F_wide_Text) (some j) (bodyOf C.P F_wide_Text) 1 [] [] (endOf C.P F_wide_Text) (startOf C.P F_wide_Text [.agg [.int .u64 a0_0, .int .u64 a0_1]]) = T_wide_Text_1 (CP C n) a0_0 a0_1 (fun s0 x1 x2 x3 l4 => j [false, false, true, true, true, true, true] [(n + 300)] (S_wide_Text_252 s0 x1 x2 x3 l4)) := by kernel_rfl
def R_wide_Text (cp : FuncId → List AV → Option AV) (n : Nat) (a0_0 : Int) (a0_1 : Int) : Option AV := T_wide_Text_1 cp a0_0 a0_1 (J_wide_Text_252 cp n (n + 300))
theorem eq_wide_Text (n : Nat) (a0_0 : Int) (a0_1 : Int) : CP C (n + 1) F_wide_Text [.agg [.int .u64 a0_0, .int .u64 a0_1]] = R_wide_Text (CP C n) n a0_0 a0_1 :=
  (CP_pure C n F_wide_Text _ (by kernel_rfl) (by kernel_rfl)).trans ((K_wide_Text_1 _ n a0_0 a0_1).trans (congrArg (T_wide_Text_1 (CP C n) a0_0 a0_1) (funext fun s0 => (funext fun x1 => (funext fun x2 => (funext fun x3 => (funext fun l4 => (JE_wide_Text_252 n (n + 300)) s0 x1 x2 x3 l4)))))))
-- internal_stringslite_HasPrefix
def R_internal_stringslite_HasPrefix (cp : FuncId → List AV → Option AV) (_n : Nat) (a0 : ByteArray) (a1 : ByteArray) : Option AV :=
 (cond (decide (((ByteArray.size a0 : Nat) : Int) ≥ ((ByteArray.size a1 : Nat) : Int)))
 (cond ((decide (0 ≤ ((ByteArray.size a1 : Nat) : Int))) && (decide (((ByteArray.size a1 : Nat) : Int) ≤ (((ByteArray.size a0) : Nat) : Int))))
 (some (.bool ((ByteArray.toList (ByteArray.extract a0 0 (Int.toNat ((ByteArray.size a1 : Nat) : Int)))) == (ByteArray.toList a1))))
 none)
 (some (.bool false)))
theorem eq_internal_stringslite_HasPrefix (n : Nat) (a0 : ByteArray) (a1 : ByteArray) : CP C (n + 1) F_internal_stringslite_HasPrefix [.str a0, .str a1] = R_internal_stringslite_HasPrefix (CP C n) n a0 a1 := by kernel_rfl
-- internal_stringslite_CutPrefix
def R_internal_stringslite_CutPrefix (cp : FuncId → List AV → Option AV) (_n : Nat) (a0 : ByteArray) (a1 : ByteArray) : Option AV :=
 ((cp F_internal_stringslite_HasPrefix [.str a0, .str a1]).bind fun r_1 =>
 (AV.boolK r_1 fun b_2 =>
 (cond (!b_2)
 (some (.tup [.str a0, .bool false]))
 (cond ((decide (0 ≤ ((ByteArray.size a1 : Nat) : Int))) && (decide (((ByteArray.size a1 : Nat) : Int) ≤ (((ByteArray.size a0) : Nat) : Int))))
 (some (.tup [.str (ByteArray.extract a0 (Int.toNat ((ByteArray.size a1 : Nat) : Int)) (ByteArray.size a0)), .bool true]))
 none))))
theorem eq_internal_stringslite_CutPrefix (n : Nat) (a0 : ByteArray) (a1 : ByteArray) : CP C (n + 1) F_internal_stringslite_CutPrefix [.str a0, .str a1] = R_internal_stringslite_CutPrefix (CP C n) n a0 a1 := by kernel_rfl
-- strings_CutPrefix
def R_strings_CutPrefix (cp : FuncId → List AV → Option AV) (_n : Nat) (a0 : ByteArray) (a1 : ByteArray) : Option AV :=
 ((cp F_internal_stringslite_CutPrefix [.str a0, .str a1]).bind fun r_1 =>
 (AV.tupK r_1 fun l_2 =>
 (consK l_2 fun v_3 l_4 =>
 (AV.strK v_3 fun s_5 =>
 (consK l_4 fun v_6 l_7 =>
 (AV.boolK v_6 fun b_8 =>
 (nilK l_7
 (some (.tup [.str s_5, .bool b_8])))))))))
theorem eq_strings_CutPrefix (n : Nat) (a0 : ByteArray) (a1 : ByteArray) : CP C (n + 1) F_strings_CutPrefix [.str a0, .str a1] = R_strings_CutPrefix (CP C n) n a0 a1 := by kernel_rfl
-- wide_Parse
def S_wide_Parse_4084 (s0 : ByteArray) (b1 : Bool) (x2 : Int) (x3 : Int) (x4 : Int) (x5 : Int) (x6 : Int) (x7 : Int) : St := ⟨[.junk, .junk, .ptr (some (0, 0)), .junk, .str s0, .bool b1, .ptr (some (1, 0)), .ptr (some (2, 0)), .junk, .junk, .junk, .junk, .junk, .junk, .junk, .junk, .junk, .junk, .junk, .junk, .junk, .junk, .junk, .junk, .junk, .junk, .junk, .junk, .junk, .junk, .junk, .junk, .junk, .junk, .junk, .junk, .junk, .junk, .junk, .junk, .junk, .junk, .junk, .junk, .junk, .junk, .junk, .int .i64 x2, .int .i64 x3, .junk, .junk, .junk, .junk, .junk, .junk, .junk, .junk, .junk, .junk, .junk, .junk, .junk, .junk, .junk, .junk, .junk, .junk, .junk, .junk, .junk, .junk, .junk, .junk, .junk, .junk, .junk, .junk, .junk, .junk, .junk, .junk, .junk, .junk, .junk, .junk, .junk, .junk, .junk, .junk], [.cells 24 [.int .u64 0, .int .u64 0], .cells 24 [.int .u64 x4, .int .u64 x5], .cells 24 [.int .u64 x6, .int .u64 x7]]⟩
def T_wide_Parse_4084 (cp : FuncId → List AV → Option AV) (s0 : ByteArray) (b1 : Bool) (x2 : Int) (x3 : Int) (x4 : Int) (x5 : Int) (x6 : Int) (x7 : Int) (r4084 : ByteArray → Bool → Int → Int → Int → Int → Int → Int → Option AV) : Option AV :=
 (cond (decide (x3 < x2))
 (cond (decide (x6 > 1152921504606846976))
 (some (.tup [.agg [.int .u64 0, .int .u64 0], .int .i64 8]))
 ((cp F_wide_Mul [.int .u64 x7, .int .u64 10]).bind fun r_1 =>
 (AV.aggK r_1 fun l_2 =>
 (consK l_2 fun v_3 l_4 =>
 (AV.intK .u64 v_3 fun i_5 =>
 (consK l_4 fun v_6 l_7 =>
 (AV.intK .u64 v_6 fun i_8 =>
 (nilK l_7
 ((cp F_wide_Mul [.int .u64 x6, .int .u64 10]).bind fun r_9 =>
 (AV.aggK r_9 fun l_10 =>
 (consK l_10 fun v_11 l_12 =>
 (AV.intK .u64 v_11 fun i_13 =>
 (consK l_12 fun v_14 l_15 =>
 (AV.intK .u64 v_14 fun i_16 =>
 (nilK l_15
 (cond (decide (0 ≤ x3))
 (match s0[(Int.toNat x3)]? with
 | some c_17 => (bnd (IntKind.u64.wrap (IntKind.u8.wrap (((c_17.toNat : Nat) : Int) - 48))) fun y_18 =>
 ((cp F_wide_Add [.agg [.int .u64 (IntKind.u64.wrap (i_5 + i_16)), .int .u64 i_8], .agg [.int .u64 0, .int .u64 y_18]]).bind fun r_19 =>
 (AV.tupK r_19 fun l_20 =>
 (consK l_20 fun v_21 l_22 =>
 (AV.aggK v_21 fun l_23 =>
 (consK l_23 fun v_24 l_25 =>
 (AV.intK .u64 v_24 fun i_26 =>
 (consK l_25 fun v_27 l_28 =>
 (AV.intK .u64 v_27 fun i_29 =>
 (nilK l_28
 (consK l_22 fun v_30 l_31 =>
 (AV.boolK v_30 fun b_32 =>
 (nilK l_31
 ((cp F_wide_Cmp [.agg [.int .u64 i_26, .int .u64 i_29], .agg [.int .u64 x4, .int .u64 x5]]).bind fun r_33 =>
 (AV.intK .i64 r_33 fun i_34 =>
 (cond (decide (i_34 > 0))
 (some (.tup [.agg [.int .u64 0, .int .u64 0], .int .i64 8]))
 (r4084 s0 b1 x2 (IntKind.i64.wrap (x3 + 1)) x4 x5 i_26 i_29)))))))))))))))))
 | none => none)
 none))))))))))))))))
 (cond b1
 ((cp F_wide_Neg [.agg [.int .u64 x6, .int .u64 x7]]).bind fun r_35 =>
 (AV.aggK r_35 fun l_36 =>
 (consK l_36 fun v_37 l_38 =>
 (AV.intK .u64 v_37 fun i_39 =>
 (consK l_38 fun v_40 l_41 =>
 (AV.intK .u64 v_40 fun i_42 =>
 (nilK l_41
 (some (.tup [.agg [.int .u64 i_39, .int .u64 i_42], .int .i64 0])))))))))
 (some (.tup [.agg [.int .u64 x6, .int .u64 x7], .int .i64 0]))))
theorem K_wide_Parse_4084 (j : Jump) (n : Nat) (m4084 : Nat) (s0 : ByteArray) (b1 : Bool) (x2 : Int) (x3 : Int) (x4 : Int) (x5 : Int) (x6 : Int) (x7 : Int) : enter (topEnv C (CP C n) n F_wide_Parse) (some j) (bodyOf C.P F_wide_Parse) (endOf C.P F_wide_Parse) [false, false, true, false, true, true, true, true, true, true, true] [(m4084 + 1)] (S_wide_Parse_4084 s0 b1 x2 x3 x4 x5 x6 x7) = T_wide_Parse_4084 (CP C n) s0 b1 x2 x3 x4 x5 x6 x7 (fun s0 b1 x2 x3 x4 x5 x6 x7 => j [false, false, true, false, true, true, true, true, true, true, true] [m4084] (S_wide_Parse_4084 s0 b1 x2 x3 x4 x5 x6 x7)) := by kernel_rfl
def J_wide_Parse_4084 (cp : FuncId → List AV → Option AV) (n : Nat) : Nat → ByteArray → Bool → Int → Int → Int → Int → Int → Int → Option AV
  | 0 => (fun s0 b1 x2 x3 x4 x5 x6 x7 => none)
  | m + 1 => (fun s0 b1 x2 x3 x4 x5 x6 x7 => T_wide_Parse_4084 cp s0 b1 x2 x3 x4 x5 x6 x7 (J_wide_Parse_4084 cp n m))
theorem Js_wide_Parse_4084 (cp : FuncId → List AV → Option AV) (n : Nat) (m : Nat) (s0 : ByteArray) (b1 : Bool) (x2 : Int) (x3 : Int) (x4 : Int) (x5 : Int) (x6 : Int) (x7 : Int) : J_wide_Parse_4084 cp n (m + 1) s0 b1 x2 x3 x4 x5 x6 x7 = T_wide_Parse_4084 cp s0 b1 x2 x3 x4 x5 x6 x7 (J_wide_Parse_4084 cp n m) := of_eq_true (eq_self _)
theorem JE_wide_Parse_4084 (n : Nat) : ∀ (m : Nat) (s0 : ByteArray) (b1 : Bool) (x2 : Int) (x3 : Int) (x4 : Int) (x5 : Int) (x6 : Int) (x7 : Int), jT (topEnv C (CP C n) n F_wide_Parse) (bodyOf C.P F_wide_Parse) (endOf C.P F_wide_Parse) [false, false, true, false, true, true, true, true, true, true, true] [m] (S_wide_Parse_4084 s0 b1 x2 x3 x4 x5 x6 x7) = J_wide_Parse_4084 (CP C n) n m s0 b1 x2 x3 x4 x5 x6 x7
  | 0, s0, b1, x2, x3, x4, x5, x6, x7 => (jT_eq _ _ _ _ _ _).trans (by kernel_rfl)
  | m + 1, s0, b1, x2, x3, x4, x5, x6, x7 => (jT_eq _ _ _ _ _ _).trans ((K_wide_Parse_4084 _ n m s0 b1 x2 x3 x4 x5 x6 x7).trans (congrArg (T_wide_Parse_4084 (CP C n) s0 b1 x2 x3 x4 x5 x6 x7) (funext fun s0 => (funext fun b1 => (funext fun x2 => (funext fun x3 => (funext fun x4 => (funext fun x5 => (funext fun x6 => (funext fun x7 => (JE_wide_Parse_4084 n m) s0 b1 x2 x3 x4 x5 x6 x7))))))))))
def T_wide_Parse_1 (cp : FuncId → List AV → Option AV) (a0 : ByteArray) (j4084 : ByteArray → Bool → Int → Int → Int → Int → Int → Int → Option AV) : Option AV :=
 (cond (decide (((ByteArray.size a0 : Nat) : Int) > 64))
 (some (.tup [.agg [.int .u64 0, .int .u64 0], .int .i64 1]))
 ((cp F_strings_CutPrefix [.str a0, .str (ByteArray.mk #[45])]).bind fun r_1 =>
 (AV.tupK r_1 fun l_2 =>
 (consK l_2 fun v_3 l_4 =>
 (AV.strK v_3 fun s_5 =>
 (consK l_4 fun v_6 l_7 =>
 (AV.boolK v_6 fun b_8 =>
 (nilK l_7
 (cond ((ByteArray.toList s_5) == (ByteArray.toList (ByteArray.mk #[])))
 (some (.tup [.agg [.int .u64 0, .int .u64 0], .int .i64 2]))
 ((cp F_strings_Trim [.str s_5, .str (ByteArray.mk #[48, 49, 50, 51, 52, 53, 54, 55, 56, 57])]).bind fun r_9 =>
 (AV.strK r_9 fun s_10 =>
 (cond (!((ByteArray.toList s_10) == (ByteArray.toList (ByteArray.mk #[]))))
 (some (.tup [.agg [.int .u64 0, .int .u64 0], .int .i64 2]))
 (match s_5[0]? with
 | some c_11 => (cond (((c_11.toNat : Nat) : Int) == 48)
 (cond (!((ByteArray.toList a0) == (ByteArray.toList (ByteArray.mk #[48]))))
 (some (.tup [.agg [.int .u64 0, .int .u64 0], .int .i64 2]))
 (cond (!b_8)
 ((cp F_wide_Sub [.agg [.int .u64 9223372036854775808, .int .u64 0], .agg [.int .u64 0, .int .u64 1]]).bind fun r_12 =>
 (AV.tupK r_12 fun l_13 =>
 (consK l_13 fun v_14 l_15 =>
 (AV.aggK v_14 fun l_16 =>
 (consK l_16 fun v_17 l_18 =>
 (AV.intK .u64 v_17 fun i_19 =>
 (consK l_18 fun v_20 l_21 =>
 (AV.intK .u64 v_20 fun i_22 =>
 (nilK l_21
 (consK l_15 fun v_23 l_24 =>
 (AV.boolK v_23 fun b_25 =>
 (nilK l_24
 (j4084 s_5 b_8 ((ByteArray.size s_5 : Nat) : Int) 0 i_19 i_22 0 0)))))))))))))
 (j4084 s_5 b_8 ((ByteArray.size s_5 : Nat) : Int) 0 9223372036854775808 0 0 0)))
 (cond (!b_8)
 ((cp F_wide_Sub [.agg [.int .u64 9223372036854775808, .int .u64 0], .agg [.int .u64 0, .int .u64 1]]).bind fun r_26 =>
 (AV.tupK r_26 fun l_27 =>
 (consK l_27 fun v_28 l_29 =>
 (AV.aggK v_28 fun l_30 =>
 (consK l_30 fun v_31 l_32 =>
 (AV.intK .u64 v_31 fun i_33 =>
 (consK l_32 fun v_34 l_35 =>
 (AV.intK .u64 v_34 fun i_36 =>
 (nilK l_35
 (consK l_29 fun v_37 l_38 =>
 (AV.boolK v_37 fun b_39 =>
 (nilK l_38
 (j4084 s_5 b_8 ((ByteArray.size s_5 : Nat) : Int) 0 i_33 i_36 0 0)))))))))))))
 (j4084 s_5 b_8 ((ByteArray.size s_5 : Nat) : Int) 0 9223372036854775808 0 0 0)))
 | none => none)))))))))))))
theorem K_wide_Parse_1 (j : Jump) (n : Nat) (a0 : ByteArray) : ex (topEnv C (CP C n) n F_wide_Parse) (some j) (bodyOf C.P F_wide_Parse) 1 [] [] (endOf C.P F_wide_Parse) (startOf C.P F_wide_Parse [.str a0]) = T_wide_Parse_1 (CP C n) a0 (fun s0 b1 x2 x3 x4 x5 x6 x7 => j [false, false, true, false, true, true, true, true, true, true, true] [(n + 300)] (S_wide_Parse_4084 s0 b1 x2 x3 x4 x5 x6 x7)) := by kernel_rfl
def R_wide_Parse (cp : FuncId → List AV → Option AV) (n : Nat) (a0 : ByteArray) : Option AV := T_wide_Parse_1 cp a0 (J_wide_Parse_4084 cp n (n + 300))
theorem eq_wide_Parse (n : Nat) (a0 : ByteArray) : CP C (n + 1) F_wide_Parse [.str a0] = R_wide_Parse (CP C n) n a0 :=
  (CP_pure C n F_wide_Parse _ (by kernel_rfl) (by kernel_rfl)).trans ((K_wide_Parse_1 _ n a0).trans (congrArg (T_wide_Parse_1 (CP C n) a0) (funext fun s0 => (funext fun b1 => (funext fun x2 => (funext fun x3 => (funext fun x4 => (funext fun x5 => (funext fun x6 => (funext fun x7 => (JE_wide_Parse_4084 n (n + 300)) s0 b1 x2 x3 x4 x5 x6 x7))))))))))
-- ref01_Parse
def S_ref01_Parse_2036 (s0 : ByteArray) (b1 : Bool) (x2 : Int) : St := ⟨[.junk, .junk, .ptr (some (0, 0)), .junk, .str s0, .bool b1, .int .i64 x2, .junk, .junk, .junk, .junk, .junk, .junk, .junk, .junk, .junk, .junk, .junk, .junk, .junk, .junk, .junk, .junk, .junk, .junk, .junk, .junk, .junk, .junk, .junk, .junk, .junk, .junk, .junk, .junk, .junk, .junk, .junk, .junk, .junk, .junk, .junk, .junk, .junk, .junk, .junk, .junk, .junk, .junk, .junk, .junk, .junk, .junk, .junk, .junk, .junk, .junk, .junk, .junk, .junk, .junk, .junk, .junk, .junk, .junk, .junk, .junk, .junk, .junk, .junk, .junk, .junk, .junk, .junk, .junk, .junk, .junk, .junk, .junk, .junk, .junk, .junk, .junk, .junk, .junk, .junk, .junk, .junk, .junk, .junk, .junk, .junk, .junk, .junk, .junk, .junk, .junk, .junk, .junk, .junk, .junk, .junk, .junk, .junk, .junk, .junk, .junk, .junk, .junk, .junk, .junk, .junk, .junk, .junk, .junk, .junk, .junk, .junk, .junk, .junk, .junk, .junk, .junk, .junk, .junk, .junk, .junk, .junk, .junk, .junk, .junk, .junk, .junk, .junk, .junk, .junk, .junk, .junk], [.cells 24 [.int .u64 0, .int .u64 0]]⟩
def S_ref01_Parse_32756 (s0 : ByteArray) (b1 : Bool) (b2 : Bool) (x3 : Int) (x4 : Int) (x5 : Int) : St := ⟨[.junk, .junk, .ptr (some (0, 0)), .junk, .str s0, .bool b1, .junk, .ptr (some (1, 0)), .bool b2, .int .i64 x3, .junk, .junk, .junk, .junk, .junk, .junk, .junk, .junk, .junk, .junk, .junk, .junk, .junk, .junk, .junk, .junk, .junk, .junk, .junk, .junk, .junk, .junk, .junk, .junk, .junk, .junk, .junk, .junk, .junk, .junk, .junk, .junk, .junk, .junk, .junk, .junk, .junk, .junk, .junk, .junk, .junk, .junk, .junk, .junk, .junk, .junk, .junk, .junk, .junk, .junk, .junk, .junk, .junk, .junk, .junk, .junk, .junk, .junk, .junk, .junk, .junk, .junk, .junk, .junk, .junk, .junk, .junk, .junk, .junk, .junk, .junk, .junk, .junk, .junk, .junk, .junk, .junk, .junk, .junk, .junk, .junk, .junk, .junk, .junk, .junk, .junk, .junk, .junk, .junk, .junk, .junk, .junk, .junk, .junk, .junk, .junk, .junk, .junk, .junk, .junk, .junk, .junk, .junk, .junk, .junk, .junk, .junk, .junk, .junk, .junk, .junk, .junk, .junk, .junk, .junk, .junk, .junk, .junk, .junk, .junk, .junk, .junk, .junk, .junk, .junk, .junk, .junk, .junk], [.cells 24 [.int .u64 0, .int .u64 0], .cells 24 [.int .u64 x4, .int .u64 x5]]⟩
def T_ref01_Parse_32756 (cp : FuncId → List AV → Option AV) (s0 : ByteArray) (b1 : Bool) (b2 : Bool) (x3 : Int) (x4 : Int) (x5 : Int) (r32756 : ByteArray → Bool → Bool → Int → Int → Int → Option AV) : Option AV :=
 (cond (decide (x3 < ((ByteArray.size s0 : Nat) : Int)))
 ((cp F_ref01_Mul [.int .u64 x5, .int .u64 10]).bind fun r_1 =>
 (AV.aggK r_1 fun l_2 =>
 (consK l_2 fun v_3 l_4 =>
 (AV.intK .u64 v_3 fun i_5 =>
 (consK l_4 fun v_6 l_7 =>
 (AV.intK .u64 v_6 fun i_8 =>
 (nilK l_7
 ((cp F_ref01_Mul [.int .u64 x4, .int .u64 10]).bind fun r_9 =>
 (AV.aggK r_9 fun l_10 =>
 (consK l_10 fun v_11 l_12 =>
 (AV.intK .u64 v_11 fun i_13 =>
 (consK l_12 fun v_14 l_15 =>
 (AV.intK .u64 v_14 fun i_16 =>
 (nilK l_15
 ((cp F_ref01_Add [.agg [.int .u64 i_5, .int .u64 i_8], .agg [.int .u64 i_16, .int .u64 0]]).bind fun r_17 =>
 (AV.tupK r_17 fun l_18 =>
 (consK l_18 fun v_19 l_20 =>
 (AV.aggK v_19 fun l_21 =>
 (consK l_21 fun v_22 l_23 =>
 (AV.intK .u64 v_22 fun i_24 =>
 (consK l_23 fun v_25 l_26 =>
 (AV.intK .u64 v_25 fun i_27 =>
 (nilK l_26
 (consK l_20 fun v_28 l_29 =>
 (AV.boolK v_28 fun b_30 =>
 (nilK l_29
 (cond (decide (0 ≤ x3))
 (match s0[(Int.toNat x3)]? with
 | some c_31 => (bnd (IntKind.u64.wrap (IntKind.u8.wrap (((c_31.toNat : Nat) : Int) - 48))) fun y_32 =>
 ((cp F_ref01_Add [.agg [.int .u64 i_24, .int .u64 i_27], .agg [.int .u64 0, .int .u64 y_32]]).bind fun r_33 =>
 (AV.tupK r_33 fun l_34 =>
 (consK l_34 fun v_35 l_36 =>
 (AV.aggK v_35 fun l_37 =>
 (consK l_37 fun v_38 l_39 =>
 (AV.intK .u64 v_38 fun i_40 =>
 (consK l_39 fun v_41 l_42 =>
 (AV.intK .u64 v_41 fun i_43 =>
 (nilK l_42
 (consK l_36 fun v_44 l_45 =>
 (AV.boolK v_44 fun b_46 =>
 (nilK l_45
 (cond b2
 (r32756 s0 b1 true (IntKind.i64.wrap (x3 + 1)) i_40 i_43)
 (cond (i_13 != 0)
 (r32756 s0 b1 true (IntKind.i64.wrap (x3 + 1)) i_40 i_43)
 (cond b_30
 (r32756 s0 b1 true (IntKind.i64.wrap (x3 + 1)) i_40 i_43)
 (r32756 s0 b1 b_46 (IntKind.i64.wrap (x3 + 1)) i_40 i_43)))))))))))))))))
 | none => none)
 none)))))))))))))))))))))))))))
 (cond b2
 (some (.tup [.agg [.int .u64 0, .int .u64 0], .int .i64 8]))
 ((cp F_ref01_Cmp [.agg [.int .u64 x4, .int .u64 x5], .agg [.int .u64 9223372036854775808, .int .u64 0]]).bind fun r_47 =>
 (AV.intK .i64 r_47 fun i_48 =>
 (cond (decide (i_48 > 0))
 (some (.tup [.agg [.int .u64 0, .int .u64 0], .int .i64 8]))
 (cond (!b1)
 ((cp F_ref01_Cmp [.agg [.int .u64 x4, .int .u64 x5], .agg [.int .u64 9223372036854775808, .int .u64 0]]).bind fun r_49 =>
 (AV.intK .i64 r_49 fun i_50 =>
 (cond (i_50 == 0)
 (some (.tup [.agg [.int .u64 0, .int .u64 0], .int .i64 8]))
 (cond b1
 ((cp F_ref01_Neg [.agg [.int .u64 x4, .int .u64 x5]]).bind fun r_51 =>
 (AV.aggK r_51 fun l_52 =>
 (consK l_52 fun v_53 l_54 =>
 (AV.intK .u64 v_53 fun i_55 =>
 (consK l_54 fun v_56 l_57 =>
 (AV.intK .u64 v_56 fun i_58 =>
 (nilK l_57
 (some (.tup [.agg [.int .u64 i_55, .int .u64 i_58], .int .i64 0])))))))))
 (some (.tup [.agg [.int .u64 x4, .int .u64 x5], .int .i64 0]))))))
 (cond b1
 ((cp F_ref01_Neg [.agg [.int .u64 x4, .int .u64 x5]]).bind fun r_59 =>
 (AV.aggK r_59 fun l_60 =>
 (consK l_60 fun v_61 l_62 =>
 (AV.intK .u64 v_61 fun i_63 =>
 (consK l_62 fun v_64 l_65 =>
 (AV.intK .u64 v_64 fun i_66 =>
 (nilK l_65
 (some (.tup [.agg [.int .u64 i_63, .int .u64 i_66], .int .i64 0])))))))))
 (some (.tup [.agg [.int .u64 x4, .int .u64 x5], .int .i64 0])))))))))
theorem K_ref01_Parse_32756 (j : Jump) (n : Nat) (m32756 : Nat) (s0 : ByteArray) (b1 : Bool) (b2 : Bool) (x3 : Int) (x4 : Int) (x5 : Int) : enter (topEnv C (CP C n) n F_ref01_Parse) (some j) (bodyOf C.P F_ref01_Parse) (endOf C.P F_ref01_Parse) [false, false, true, false, true, true, true, true, true, true, true, true, true, true] [(m32756 + 1)] (S_ref01_Parse_32756 s0 b1 b2 x3 x4 x5) = T_ref01_Parse_32756 (CP C n) s0 b1 b2 x3 x4 x5 (fun s0 b1 b2 x3 x4 x5 => j [false, false, true, false, true, true, true, true, true, true, true, true, true, true] [m32756] (S_ref01_Parse_32756 s0 b1 b2 x3 x4 x5)) := by kernel_rfl
def J_ref01_Parse_32756 (cp : FuncId → List AV → Option AV) (n : Nat) : Nat → ByteArray → Bool → Bool → Int → Int → Int → Option AV
  | 0 => (fun s0 b1 b2 x3 x4 x5 => none)
  | m + 1 => (fun s0 b1 b2 x3 x4 x5 => T_ref01_Parse_32756 cp s0 b1 b2 x3 x4 x5 (J_ref01_Parse_32756 cp n m))
theorem Js_ref01_Parse_32756 (cp : FuncId → List AV → Option AV) (n : Nat) (m : Nat) (s0 : ByteArray) (b1 : Bool) (b2 : Bool) (x3 : Int) (x4 : Int) (x5 : Int) : J_ref01_Parse_32756 cp n (m + 1) s0 b1 b2 x3 x4 x5 = T_ref01_Parse_32756 cp s0 b1 b2 x3 x4 x5 (J_ref01_Parse_32756 cp n m) := of_eq_true (eq_self _)
theorem JE_ref01_Parse_32756 (n : Nat) : ∀ (m : Nat) (s0 : ByteArray) (b1 : Bool) (b2 : Bool) (x3 : Int) (x4 : Int) (x5 : Int), jT (topEnv C (CP C n) n F_ref01_Parse) (bodyOf C.P F_ref01_Parse) (endOf C.P F_ref01_Parse) [false, false, true, false, true, true, true, true, true, true, true, true, true, true] [m] (S_ref01_Parse_32756 s0 b1 b2 x3 x4 x5) = J_ref01_Parse_32756 (CP C n) n m s0 b1 b2 x3 x4 x5
  | 0, s0, b1, b2, x3, x4, x5 => (jT_eq _ _ _ _ _ _).trans (by kernel_rfl)
  | m + 1, s0, b1, b2, x3, x4, x5 => (jT_eq _ _ _ _ _ _).trans ((K_ref01_Parse_32756 _ n m s0 b1 b2 x3 x4 x5).trans (congrArg (T_ref01_Parse_32756 (CP C n) s0 b1 b2 x3 x4 x5) (funext fun s0 => (funext fun b1 => (funext fun b2 => (funext fun x3 => (funext fun x4 => (funext fun x5 => (JE_ref01_Parse_32756 n m) s0 b1 b2 x3 x4 x5))))))))
def T_ref01_Parse_2036 (cp : FuncId → List AV → Option AV) (s0 : ByteArray) (b1 : Bool) (x2 : Int) (r2036 : ByteArray → Bool → Int → Option AV) (j32756 : ByteArray → Bool → Bool → Int → Int → Int → Option AV) : Option AV :=
 (cond (decide (x2 < ((ByteArray.size s0 : Nat) : Int)))
 (cond (decide (0 ≤ x2))
 (match s0[(Int.toNat x2)]? with
 | some c_1 => (cond (decide (((c_1.toNat : Nat) : Int) < 48))
 (some (.tup [.agg [.int .u64 0, .int .u64 0], .int .i64 2]))
 (cond (decide (0 ≤ x2))
 (match s0[(Int.toNat x2)]? with
 | some c_2 => (cond (decide (((c_2.toNat : Nat) : Int) > 57))
 (some (.tup [.agg [.int .u64 0, .int .u64 0], .int .i64 2]))
 (r2036 s0 b1 (IntKind.i64.wrap (x2 + 1))))
 | none => none)
 none))
 | none => none)
 none)
 (cond (decide (((ByteArray.size s0 : Nat) : Int) > 39))
 (some (.tup [.agg [.int .u64 0, .int .u64 0], .int .i64 8]))
 (j32756 s0 b1 false 0 0 0)))
theorem K_ref01_Parse_2036 (j : Jump) (n : Nat) (m2036 : Nat) (s0 : ByteArray) (b1 : Bool) (x2 : Int) : enter (topEnv C (CP C n) n F_ref01_Parse) (some j) (bodyOf C.P F_ref01_Parse) (endOf C.P F_ref01_Parse) [false, false, true, false, true, true, true, true, true, true] [(m2036 + 1)] (S_ref01_Parse_2036 s0 b1 x2) = T_ref01_Parse_2036 (CP C n) s0 b1 x2 (fun s0 b1 x2 => j [false, false, true, false, true, true, true, true, true, true] [m2036] (S_ref01_Parse_2036 s0 b1 x2)) (fun s0 b1 b2 x3 x4 x5 => j [false, false, true, false, true, true, true, true, true, true, true, true, true, true] [(n + 300)] (S_ref01_Parse_32756 s0 b1 b2 x3 x4 x5)) := by kernel_rfl
def J_ref01_Parse_2036 (cp : FuncId → List AV → Option AV) (n : Nat) : Nat → ByteArray → Bool → Int → Option AV
  | 0 => (fun s0 b1 x2 => none)
  | m + 1 => (fun s0 b1 x2 => T_ref01_Parse_2036 cp s0 b1 x2 (J_ref01_Parse_2036 cp n m) (J_ref01_Parse_32756 cp n (n + 300)))
theorem Js_ref01_Parse_2036 (cp : FuncId → List AV → Option AV) (n : Nat) (m : Nat) (s0 : ByteArray) (b1 : Bool) (x2 : Int) : J_ref01_Parse_2036 cp n (m + 1) s0 b1 x2 = T_ref01_Parse_2036 cp s0 b1 x2 (J_ref01_Parse_2036 cp n m) (J_ref01_Parse_32756 cp n (n + 300)) := of_eq_true (eq_self _)
theorem JE_ref01_Parse_2036 (n : Nat) : ∀ (m : Nat) (s0 : ByteArray) (b1 : Bool) (x2 : Int), jT (topEnv C (CP C n) n F_ref01_Parse) (bodyOf C.P F_ref01_Parse) (endOf C.P F_ref01_Parse) [false, false, true, false, true, true, true, true, true, true] [m] (S_ref01_Parse_2036 s0 b1 x2) = J_ref01_Parse_2036 (CP C n) n m s0 b1 x2
  | 0, s0, b1, x2 => (jT_eq _ _ _ _ _ _).trans (by kernel_rfl)
  | m + 1, s0, b1, x2 => (jT_eq _ _ _ _ _ _).trans ((K_ref01_Parse_2036 _ n m s0 b1 x2).trans (congr (congrArg (T_ref01_Parse_2036 (CP C n) s0 b1 x2) (funext fun s0 => (funext fun b1 => (funext fun x2 => (JE_ref01_Parse_2036 n m) s0 b1 x2)))) (funext fun s0 => (funext fun b1 => (funext fun b2 => (funext fun x3 => (funext fun x4 => (funext fun x5 => (JE_ref01_Parse_32756 n (n + 300)) s0 b1 b2 x3 x4 x5))))))))
def T_ref01_Parse_1 (cp : FuncId → List AV → Option AV) (a0 : ByteArray) (j2036 : ByteArray → Bool → Int → Option AV) : Option AV :=
 (cond (decide (((ByteArray.size a0 : Nat) : Int) > 64))
 (some (.tup [.agg [.int .u64 0, .int .u64 0], .int .i64 1]))
 (cond (decide (((ByteArray.size a0 : Nat) : Int) > 0))
 (match a0[0]? with
 | some c_1 => (cond (((c_1.toNat : Nat) : Int) == 45)
 (cond (decide (1 ≤ (((ByteArray.size a0) : Nat) : Int)))
 (cond ((ByteArray.toList (ByteArray.extract a0 1 (ByteArray.size a0))) == (ByteArray.toList (ByteArray.mk #[])))
 (some (.tup [.agg [.int .u64 0, .int .u64 0], .int .i64 2]))
 (match (ByteArray.extract a0 1 (ByteArray.size a0))[0]? with
 | some c_2 => (cond (((c_2.toNat : Nat) : Int) == 48)
 (bnd ((ByteArray.size (ByteArray.extract a0 1 (ByteArray.size a0)) : Nat) : Int) fun y_3 =>
 (cond (decide (y_3 > 1))
 (some (.tup [.agg [.int .u64 0, .int .u64 0], .int .i64 2]))
 (cond (((c_1.toNat : Nat) : Int) == 45)
 (some (.tup [.agg [.int .u64 0, .int .u64 0], .int .i64 2]))
 (j2036 (ByteArray.extract a0 1 (ByteArray.size a0)) (((c_1.toNat : Nat) : Int) == 45) 0))))
 (j2036 (ByteArray.extract a0 1 (ByteArray.size a0)) (((c_1.toNat : Nat) : Int) == 45) 0))
 | none => none))
 none)
 (cond ((ByteArray.toList a0) == (ByteArray.toList (ByteArray.mk #[])))
 (some (.tup [.agg [.int .u64 0, .int .u64 0], .int .i64 2]))
 (match a0[0]? with
 | some c_4 => (cond (((c_4.toNat : Nat) : Int) == 48)
 (cond (decide (((ByteArray.size a0 : Nat) : Int) > 1))
 (some (.tup [.agg [.int .u64 0, .int .u64 0], .int .i64 2]))
 (cond (((c_1.toNat : Nat) : Int) == 45)
 (some (.tup [.agg [.int .u64 0, .int .u64 0], .int .i64 2]))
 (j2036 a0 (((c_1.toNat : Nat) : Int) == 45) 0)))
 (j2036 a0 (((c_1.toNat : Nat) : Int) == 45) 0))
 | none => none)))
 | none => none)
 (cond ((ByteArray.toList a0) == (ByteArray.toList (ByteArray.mk #[])))
 (some (.tup [.agg [.int .u64 0, .int .u64 0], .int .i64 2]))
 (match a0[0]? with
 | some c_5 => (cond (((c_5.toNat : Nat) : Int) == 48)
 (cond (decide (((ByteArray.size a0 : Nat) : Int) > 1))
 (some (.tup [.agg [.int .u64 0, .int .u64 0], .int .i64 2]))
 (j2036 a0 false 0))
 (j2036 a0 false 0))
 | none => none))))
theorem K_ref01_Parse_1 (j : Jump) (n : Nat) (a0 : ByteArray) : ex (topEnv C (CP C n) n F_ref01_Parse) (some j) (bodyOf C.P F_ref01_Parse) 1 [] [] (endOf C.P F_ref01_Parse) (startOf C.P F_ref01_Parse [.str a0]) = T_ref01_Parse_1 (CP C n) a0 (fun s0 b1 x2 => j [false, false, true, false, true, true, true, true, true, true] [(n + 300)] (S_ref01_Parse_2036 s0 b1 x2)) := by kernel_rfl
def R_ref01_Parse (cp : FuncId → List AV → Option AV) (n : Nat) (a0 : ByteArray) : Option AV := T_ref01_Parse_1 cp a0 (J_ref01_Parse_2036 cp n (n + 300))
theorem eq_ref01_Parse (n : Nat) (a0 : ByteArray) : CP C (n + 1) F_ref01_Parse [.str a0] = R_ref01_Parse (CP C n) n a0 :=
  (CP_pure C n F_ref01_Parse _ (by kernel_rfl) (by kernel_rfl)).trans ((K_ref01_Parse_1 _ n a0).trans (congrArg (T_ref01_Parse_1 (CP C n) a0) (funext fun s0 => (funext fun b1 => (funext fun x2 => (JE_ref01_Parse_2036 n (n + 300)) s0 b1 x2)))))
-- ref01_digits
def S_ref01_digits_28 (s0 : ByteArray) (x1 : Int) (x2 : Int) : St := ⟨[.junk, .ptr (some (0, 0)), .junk, .str s0, .junk, .junk, .junk, .junk, .junk, .junk, .junk, .junk, .junk, .junk, .junk, .junk, .junk, .junk, .junk, .junk, .junk, .junk, .junk, .junk, .junk], [.cells 24 [.int .u64 x1, .int .u64 x2]]⟩
def T_ref01_digits_28 (cp : FuncId → List AV → Option AV) (s0 : ByteArray) (x1 : Int) (x2 : Int) (r28 : ByteArray → Int → Int → Option AV) : Option AV :=
 ((cp F_ref01_Div [.agg [.int .u64 x1, .int .u64 x2], .int .u64 10]).bind fun r_1 =>
 (AV.tupK r_1 fun l_2 =>
 (consK l_2 fun v_3 l_4 =>
 (AV.aggK v_3 fun l_5 =>
 (consK l_5 fun v_6 l_7 =>
 (AV.intK .u64 v_6 fun i_8 =>
 (consK l_7 fun v_9 l_10 =>
 (AV.intK .u64 v_9 fun i_11 =>
 (nilK l_10
 (consK l_4 fun v_12 l_13 =>
 (AV.intK .u64 v_12 fun i_14 =>
 (consK l_13 fun v_15 l_16 =>
 (AV.intK .i64 v_15 fun i_17 =>
 (nilK l_16
 (match bytesOf [.int .u8 (IntKind.u8.wrap (IntKind.u64.wrap (48 + i_14)))] (some .empty) with
 | some s_18 => (cond (decide (((ByteArray.size s_18 + ByteArray.size s0 : Nat) : Int) > IntKind.i64.max))
 none
 (cond ((i_8 == 0) && ((i_11 == 0) && true))
 (some (.str (s_18 ++ s0)))
 (r28 (s_18 ++ s0) i_8 i_11)))
 | none => none)))))))))))))))
theorem K_ref01_digits_28 (j : Jump) (n : Nat) (m28 : Nat) (s0 : ByteArray) (x1 : Int) (x2 : Int) : enter (topEnv C (CP C n) n F_ref01_digits) (some j) (bodyOf C.P F_ref01_digits) (endOf C.P F_ref01_digits) [false, false, true, true] [(m28 + 1)] (S_ref01_digits_28 s0 x1 x2) = T_ref01_digits_28 (CP C n) s0 x1 x2 (fun s0 x1 x2 => j [false, false, true, true] [m28] (S_ref01_digits_28 s0 x1 x2)) := by kernel_rfl
def J_ref01_digits_28 (cp : FuncId → List AV → Option AV) (n : Nat) : Nat → ByteArray → Int → Int → Option AV
  | 0 => (fun s0 x1 x2 => none)
  | m + 1 => (fun s0 x1 x2 => T_ref01_digits_28 cp s0 x1 x2 (J_ref01_digits_28 cp n m))
theorem Js_ref01_digits_28 (cp : FuncId → List AV → Option AV) (n : Nat) (m : Nat) (s0 : ByteArray) (x1 : Int) (x2 : Int) : J_ref01_digits_28 cp n (m + 1) s0 x1 x2 = T_ref01_digits_28 cp s0 x1 x2 (J_ref01_digits_28 cp n m) := of_eq_true (eq_self _)
theorem JE_ref01_digits_28 (n : Nat) : ∀ (m : Nat) (s0 : ByteArray) (x1 : Int) (x2 : Int), jT (topEnv C (CP C n) n F_ref01_digits) (bodyOf C.P F_ref01_digits) (endOf C.P F_ref01_digits) [false, false, true, true] [m] (S_ref01_digits_28 s0 x1 x2) = J_ref01_digits_28 (CP C n) n m s0 x1 x2
  | 0, s0, x1, x2 => (jT_eq _ _ _ _ _ _).trans (by kernel_rfl)
  | m + 1, s0, x1, x2 => (jT_eq _ _ _ _ _ _).trans ((K_ref01_digits_28 _ n m s0 x1 x2).trans (congrArg (T_ref01_digits_28 (CP C n) s0 x1 x2) (funext fun s0 => (funext fun x1 => (funext fun x2 => (JE_ref01_digits_28 n m) s0 x1 x2)))))
def T_ref01_digits_1 (cp : FuncId → List AV → Option AV) (a0_0 : Int) (a0_1 : Int) (j28 : ByteArray → Int → Int → Option AV) : Option AV :=
 (j28 (ByteArray.mk #[]) a0_0 a0_1)
theorem K_ref01_digits_1 (j : Jump) (n : Nat) (a0_0 : Int) (a0_1 : Int) : ex (topEnv C (CP C n) n F_ref01_digits) (some j) (bodyOf C.P F_ref01_digits) 1 [] [] (endOf C.P F_ref01_digits) (startOf C.P F_ref01_digits [.agg [.int .u64 a0_0, .int .u64 a0_1]]) = T_ref01_digits_1 (CP C n) a0_0 a0_1 (fun s0 x1 x2 => j [false, false, true, true] [(n + 300)] (S_ref01_digits_28 s0 x1 x2)) := by kernel_rfl
def R_ref01_digits (cp : FuncId → List AV → Option AV) (n : Nat) (a0_0 : Int) (a0_1 : Int) : Option AV := T_ref01_digits_1 cp a0_0 a0_1 (J_ref01_digits_28 cp n (n + 300))
theorem eq_ref01_digits (n : Nat) (a0_0 : Int) (a0_1 : Int) : CP C (n + 1) F_ref01_digits [.agg [.int .u64 a0_0, .int .u64 a0_1]] = R_ref01_digits (CP C n) n a0_0 a0_1 :=
  (CP_pure C n F_ref01_digits _ (by kernel_rfl) (by kernel_rfl)).trans ((K_ref01_digits_1 _ n a0_0 a0_1).trans (congrArg (T_ref01_digits_1 (CP C n) a0_0 a0_1) (funext fun s0 => (funext fun x1 => (funext fun x2 => (JE_ref01_digits_28 n (n + 300)) s0 x1 x2)))))
-- ref01_Text
def R_ref01_Text (cp : FuncId → List AV → Option AV) (_n : Nat) (a0_0 : Int) (a0_1 : Int) : Option AV :=
 ((cp F_ref01_Below [.agg [.int .u64 a0_0, .int .u64 a0_1]]).bind fun r_1 =>
 (AV.boolK r_1 fun b_2 =>
 (cond b_2
 ((cp F_ref01_Neg [.agg [.int .u64 a0_0, .int .u64 a0_1]]).bind fun r_3 =>
 (AV.aggK r_3 fun l_4 =>
 (consK l_4 fun v_5 l_6 =>
 (AV.intK .u64 v_5 fun i_7 =>
 (consK l_6 fun v_8 l_9 =>
 (AV.intK .u64 v_8 fun i_10 =>
 (nilK l_9
 ((cp F_ref01_digits [.agg [.int .u64 i_7, .int .u64 i_10]]).bind fun r_11 =>
 (AV.strK r_11 fun s_12 =>
 (cond (decide (((ByteArray.size (ByteArray.mk #[45]) + ByteArray.size s_12 : Nat) : Int) > IntKind.i64.max))
 none
 (some (.str ((ByteArray.mk #[45]) ++ s_12)))))))))))))
 ((cp F_ref01_digits [.agg [.int .u64 a0_0, .int .u64 a0_1]]).bind fun r_13 =>
 (AV.strK r_13 fun s_14 =>
 (some (.str s_14)))))))
theorem eq_ref01_Text (n : Nat) (a0_0 : Int) (a0_1 : Int) : CP C (n + 1) F_ref01_Text [.agg [.int .u64 a0_0, .int .u64 a0_1]] = R_ref01_Text (CP C n) n a0_0 a0_1 := by kernel_rfl
-- law01_WideTexts
def R_law01_WideTexts (cp : FuncId → List AV → Option AV) (_n : Nat) (a0_0 : Int) (a0_1 : Int) (a1 : ByteArray) : Option AV :=
 ((cp F_wide_Text [.agg [.int .u64 a0_0, .int .u64 a0_1]]).bind fun r_1 =>
 (AV.strK r_1 fun s_2 =>
 ((cp F_wide_Parse [.str s_2]).bind fun r_3 =>
 (AV.tupK r_3 fun l_4 =>
 (consK l_4 fun v_5 l_6 =>
 (AV.aggK v_5 fun l_7 =>
 (consK l_7 fun v_8 l_9 =>
 (AV.intK .u64 v_8 fun i_10 =>
 (consK l_9 fun v_11 l_12 =>
 (AV.intK .u64 v_11 fun i_13 =>
 (nilK l_12
 (consK l_6 fun v_14 l_15 =>
 (AV.intK .i64 v_14 fun i_16 =>
 (nilK l_15
 ((cp F_wide_Parse [.str a1]).bind fun r_17 =>
 (AV.tupK r_17 fun l_18 =>
 (consK l_18 fun v_19 l_20 =>
 (AV.aggK v_19 fun l_21 =>
 (consK l_21 fun v_22 l_23 =>
 (AV.intK .u64 v_22 fun i_24 =>
 (consK l_23 fun v_25 l_26 =>
 (AV.intK .u64 v_25 fun i_27 =>
 (nilK l_26
 (consK l_20 fun v_28 l_29 =>
 (AV.intK .i64 v_28 fun i_30 =>
 (nilK l_29
 ((cp F_ref01_Parse [.str a1]).bind fun r_31 =>
 (AV.tupK r_31 fun l_32 =>
 (consK l_32 fun v_33 l_34 =>
 (AV.aggK v_33 fun l_35 =>
 (consK l_35 fun v_36 l_37 =>
 (AV.intK .u64 v_36 fun i_38 =>
 (consK l_37 fun v_39 l_40 =>
 (AV.intK .u64 v_39 fun i_41 =>
 (nilK l_40
 (consK l_34 fun v_42 l_43 =>
 (AV.intK .i64 v_42 fun i_44 =>
 (nilK l_43
 ((cp F_ref01_Text [.agg [.int .u64 a0_0, .int .u64 a0_1]]).bind fun r_45 =>
 (AV.strK r_45 fun s_46 =>
 (cond ((ByteArray.toList s_2) == (ByteArray.toList s_46))
 (cond ((i_10 == a0_0) && ((i_13 == a0_1) && true))
 (cond (i_16 == 0)
 (cond ((i_24 == i_38) && ((i_27 == i_41) && true))
 (cond (i_30 == i_44)
 (cond (i_30 != 0)
 ((cp F_law01_awake []).bind fun r_47 =>
 (AV.boolK r_47 fun b_48 =>
 (some (.bool b_48))))
 ((cp F_wide_Text [.agg [.int .u64 i_24, .int .u64 i_27]]).bind fun r_49 =>
 (AV.strK r_49 fun s_50 =>
 (cond ((ByteArray.toList s_50) == (ByteArray.toList a1))
 ((cp F_law01_awake []).bind fun r_51 =>
 (AV.boolK r_51 fun b_52 =>
 (some (.bool b_52))))
 (some (.bool false))))))
 (some (.bool false)))
 (some (.bool false)))
 (some (.bool false)))
 (some (.bool false)))
 (some (.bool false)))))))))))))))))))))))))))))))))))))))))))
theorem eq_law01_WideTexts (n : Nat) (a0_0 : Int) (a0_1 : Int) (a1 : ByteArray) : CP C (n + 1) F_law01_WideTexts [.agg [.int .u64 a0_0, .int .u64 a0_1], .str a1] = R_law01_WideTexts (CP C n) n a0_0 a0_1 a1 := by kernel_rfl
end Go.Proofs.YtbikcndldcfffaaDoor.Sim.S
