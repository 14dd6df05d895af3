/- Quotients and sums that tell when they overflow. Condition: none beyond what each theorem says. -/
import Derived.Test.YtiamacidfgkdkaaSpecChk
import Derived.Test.YtiamacidfgkdkaaSimFloor
set_option linter.unusedSimpArgs false
set_option linter.unusedVariables false
namespace Go.Proofs.Ytiamacidfgkdkaa.Sim.S
open Go

theorem sr_Floor (n : Nat) (z b : Int) (h : -170141183460469231731687303715884105728 ≤ z ∧ z < 170141183460469231731687303715884105728) (hb : b ≠ 0) (hb' : -9223372036854775808 ≤ b ∧ b ≤ 9223372036854775807) :
    CP C (n + 4) F_ref02_Floor [wI z, .int .i64 b] = some (.tup [wI (fd z b), .int .i64 (fm z b)]) := by
  by_cases hbp : 0 < b
  · rw [sp_ref02_Floor n z b h (by omega)]
    unfold fd fm
    rw [if_neg (show ¬ b < 0 by omega), if_neg (show ¬ b < 0 by omega)]
  have hbn : b < 0 := by omega
  have hrr : z.natAbs % b.natAbs < b.natAbs := Nat.mod_lt _ (by omega)
  have hq : z.natAbs / b.natAbs ≤ z.natAbs := Nat.div_le_self _ _
  rw [eq_ref02_Floor]
  unfold R_ref02_Floor T_ref02_Floor_1
  have fa := sp_ref02_Amount (n + 2) b (by omega)
  have fdd := sp_ref01_Div (n + 1) z.natAbs b.natAbs (by omega) (by omega) (by omega)
  have fb := sp_ref01_Below (n + 2) z (by omega)
  have db : decide (b < 0) = true := decide_eq_true hbn
  rw [fb]
  simp only [k_bind, k_bool]
  by_cases g : z < 0
  · have fn := sg_ref01_Neg n z
    rw [show wI (-z) = wv z.natAbs by unfold wI; rw [show (-z % 340282366920938463463374607431768211456).toNat = z.natAbs by omega]] at fn
    rw [decide_eq_true g, cond_true, fn]
    simp only [k_bind, k_agg, k_cons, k_int, k_nil]
    unfold J_ref02_Floor_15 T_ref02_Floor_15
    rw [fa]
    simp only [k_bind, k_int]
    rw [fdd]
    simp only [k_bind, k_tup, k_agg, k_cons, k_int, k_nil]
    rw [fb, decide_eq_true g, db]
    simp only [k_bind, k_bool]
    obtain ⟨f1, f2⟩ := fd_same hb (.inl ⟨g, hbn⟩)
    rw [f1, f2, if_pos hbn, ← wI_of (z.natAbs / b.natAbs) (by omega), show IntKind.i64.wrap (IntKind.u64.wrap (0 - ((z.natAbs % b.natAbs : Nat) : Int))) = -((z.natAbs % b.natAbs : Nat) : Int) by rw [IntKind.wrap_u64, IntKind.wrap_i64]; omega]
    rfl
  · have e0 : (z % 340282366920938463463374607431768211456).toNat = z.natAbs := by omega
    rw [decide_eq_false g, cond_false]
    unfold J_ref02_Floor_15 T_ref02_Floor_15
    rw [fa]
    simp only [k_bind, k_int]
    unfold wI at fb
    rw [e0] at fb ⊢
    rw [fdd]
    simp only [k_bind, k_tup, k_agg, k_cons, k_int, k_nil]
    rw [fb, decide_eq_false g, db]
    simp only [k_bind, k_bool]
    obtain ⟨f1, f2⟩ := fd_unlike (z := z) hb (.inl ⟨by omega, hbn⟩)
    rw [f1, f2, show ((false == true) = false) from rfl, cond_false]
    by_cases r0 : z.natAbs % b.natAbs = 0
    · rw [if_pos r0, if_pos r0, r0, show (((0 : Nat) : Int) == 0) = true from rfl, cond_true]
      have fn := sg_ref01_Neg n ((z.natAbs / b.natAbs : Nat) : Int)
      rw [← wI_of _ (by omega)] at fn
      rw [fn]
      simp only [k_bind, k_agg, k_cons, k_int, k_nil]
    · rw [if_neg r0, if_neg r0, if_pos hbn, show (((z.natAbs % b.natAbs : Nat) : Int) == 0) = false by rw [beq_eq_false_iff_ne]; omega, cond_false]
      have fA := sg_ref01_Add (n + 1) ((z.natAbs / b.natAbs : Nat) : Int) 1
      rw [← wI_of _ (by omega), show wI 1 = .agg [.int .u64 0, .int .u64 1] from rfl] at fA
      rw [fA]
      simp only [k_bind, k_tup, k_agg, k_cons, k_int, k_bool, k_nil, cond_true]
      rw [sg_ref01_Neg n]
      simp only [k_bind, k_agg, k_cons, k_int, k_nil]
      rw [bnd_eq _ (show _ = -((b.natAbs : Int) - ((z.natAbs % b.natAbs : Nat) : Int)) by rw [IntKind.wrap_u64, IntKind.wrap_u64, IntKind.wrap_i64]; omega)]
      rw [show -(((z.natAbs / b.natAbs : Nat) : Int) + 1) = -((z.natAbs / b.natAbs : Nat) : Int) - 1 by omega]
/-- A quotient, a rest and an error. -/
abbrev mdV (q r : Int) : AV := .tup [.int .i64 (if -9223372036854775808 ≤ q ∧ q ≤ 9223372036854775807 then q else 0), .int .i64 (if -9223372036854775808 ≤ q ∧ q ≤ 9223372036854775807 then r else 0), .int .i64 (if -9223372036854775808 ≤ q ∧ q ≤ 9223372036854775807 then 0 else 8)]
end Go.Proofs.Ytiamacidfgkdkaa.Sim.S
