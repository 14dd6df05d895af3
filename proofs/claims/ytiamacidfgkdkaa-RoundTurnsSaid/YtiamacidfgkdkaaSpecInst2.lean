/- Instants as numbers of 128 bits. Condition: none beyond what each theorem says. -/
import Derived.Test.YtiamacidfgkdkaaSpecInst
import Derived.Test.YtiamacidfgkdkaaSpecProg
set_option linter.unusedSimpArgs false
set_option linter.unusedVariables false
namespace Go.Proofs.Ytiamacidfgkdkaa.Sim.S
open Go

def wH (e z : Int) : Int := if e ≠ 0 then 0 else z
abbrev numV (e z : Int) : AV := .tup [wI (wH e z), .int .i64 e]
theorem numV_err {e : Int} (z : Int) (h : e ≠ 0) : numV e z = .tup [.agg [.int .u64 0, .int .u64 0], .int .i64 e] := by
  unfold numV wH; rw [if_pos h]; rfl
theorem numV_ok {e : Int} (z : Int) (h : e = 0) : numV e z = .tup [wI z, .int .i64 0] := by
  unfold numV wH; rw [if_neg (by omega), h]
theorem sp_instant_Nanos (k : Nat) (s x : Int) : CP C (k + 3) F_instant_Nanos [ins s x] = some (numV (iE s x) (s * 1000000000 + x)) := by
  rw [eq_instant_Nanos]
  unfold R_instant_Nanos
  rw [sp_instant_Check]
  simp only [k_bind, k_int]
  by_cases h : iE s x = 0
  · have h1 := h
    unfold iE at h1
    rw [numV_ok _ h, h, show ((0 : Int) != 0) = false from rfl, cond_false]
    rw [bnd_eq _ (show _ = (((s + 377705116800).toNat : Nat) : Int) by rw [w64 (by omega), IntKind.wrap_u64]; omega)]
    have fm := sp_wide_Mul k (s + 377705116800).toNat 1000000000 (by omega) (by omega)
    have fc := sp_wide_Mul k 377705116800 1000000000 (by omega) (by omega)
    rw [show ((1000000000 : Nat) : Int) = 1000000000 from rfl] at fm fc
    rw [show ((377705116800 : Nat) : Int) = 377705116800 from rfl] at fc
    rw [fm, fc, wI_of _ (by omega), wI_of (377705116800 * 1000000000) (by omega), sp_wide_Of (k + 1) x (by omega)]
    simp only [k_bind, k_tup, k_agg, k_cons, k_int, k_nil]
    rw [sg_wide_Add (k + 1)]
    simp only [k_bind, k_tup, k_agg, k_cons, k_int, k_nil, k_bool]
    rw [sg_wide_Sub (k + 1)]
    simp only [k_bind, k_tup, k_agg, k_cons, k_int, k_nil, k_bool]
    rw [show (((s + 377705116800).toNat * 1000000000 : Nat) : Int) + x - ((377705116800 * 1000000000 : Nat) : Int) = s * 1000000000 + x by omega]
  · rw [show (iE s x != 0) = true from bne_iff_ne.2 h, cond_true, numV_err _ h]
theorem sp_ref03_OfNanos (k : Nat) (z : Int) (h : -170141183460469231731687303715884105728 ≤ z ∧ z < 170141183460469231731687303715884105728) : CP C (k + 7) F_ref03_OfNanos [wI z] = some (insV z) := by
  rw [eq_ref03_OfNanos]
  unfold R_ref03_OfNanos
  rw [sp_instant k z h]
  simp only [k_bind, k_tup, k_agg, k_cons, k_int, k_nil]
theorem of15 (k : Nat) (q m : Int) (hq : -170141183460469231731687303715884105728 ≤ q ∧ q < 170141183460469231731687303715884105728) (hm : 0 ≤ m ∧ m < 1000000000) :
    J_instant_OfNanos_15 (CP C (k + 2)) (k + 2) m (((q % 340282366920938463463374607431768211456).toNat / 18446744073709551616 : Nat) : Int) (((q % 340282366920938463463374607431768211456).toNat % 18446744073709551616 : Nat) : Int) = some (insV (q * 1000000000 + m)) := by
  unfold J_instant_OfNanos_15 T_instant_OfNanos_15
  have hi := sp_wide_Int k q hq
  unfold wI wv at hi
  rw [hi]
  simp only [k_bind, k_tup, k_agg, k_cons, k_int, k_nil]
  by_cases g : -9223372036854775808 ≤ q ∧ q ≤ 9223372036854775807
  · rw [if_pos g, if_pos g, show ((0 : Int) != 0) = false from rfl, cond_false, sp_instant_New k q m g (by omega)]
    simp only [k_bind, k_tup, k_agg, k_cons, k_int, k_nil]
  · rw [if_neg g, if_neg g]
    have : ¬ qin (q * 1000000000 + m) := by unfold qin; omega
    unfold insV qS qN qE
    rw [if_neg this, if_neg this, if_neg this]
    rfl
theorem sp_instant_OfNanos (k : Nat) (z : Int) (h : -170141183460469231731687303715884105728 ≤ z ∧ z < 170141183460469231731687303715884105728) : CP C (k + 5) F_instant_OfNanos [wI z] = some (insV z) := by
  rw [eq_instant_OfNanos]
  unfold R_instant_OfNanos T_instant_OfNanos_1
  by_cases g : z < 0
  · rw [show decide ((((z % 340282366920938463463374607431768211456).toNat / 18446744073709551616 : Nat) : Int) ≥ 9223372036854775808) = true from decide_eq_true (by omega), Bool.not_true, cond_false]
    have hn := sp_wide_Neg (k + 2) (z % 340282366920938463463374607431768211456).toNat (by omega)
    rw [show (340282366920938463463374607431768211456 - (z % 340282366920938463463374607431768211456).toNat) % 340282366920938463463374607431768211456 = z.natAbs by omega] at hn
    rw [hn]
    simp only [k_bind, k_tup, k_agg, k_cons, k_int, k_nil]
    have hd := sp_wide_Div k z.natAbs 1000000000 (by omega) (by omega) (by omega)
    rw [show ((1000000000 : Nat) : Int) = 1000000000 from rfl] at hd
    rw [hd]
    simp only [k_bind, k_tup, k_agg, k_cons, k_int, k_nil]
    by_cases r : z.natAbs % 1000000000 = 0
    · rw [r, show (((0 : Nat) : Int) == 0) = true from rfl, cond_true]
      have hg := sg_wide_Neg (k + 2) ((z.natAbs / 1000000000 : Nat) : Int)
      rw [← wI_of _ (by omega)] at hg
      rw [hg]
      simp only [k_bind, k_tup, k_agg, k_cons, k_int, k_nil]
      rw [of15 (k + 2) _ 0 (by omega) (by omega), show -((z.natAbs / 1000000000 : Nat) : Int) * 1000000000 + 0 = z by omega]
    · rw [show (((z.natAbs % 1000000000 : Nat) : Int) == 0) = false by rw [beq_eq_false_iff_ne]; omega, cond_false]
      have ha := sg_wide_Add (k + 3) ((z.natAbs / 1000000000 : Nat) : Int) 1
      rw [← wI_of _ (by omega), show wI 1 = .agg [.int .u64 0, .int .u64 1] from rfl] at ha
      rw [ha]
      simp only [k_bind, k_tup, k_agg, k_cons, k_int, k_nil, k_bool]
      rw [sg_wide_Neg (k + 2)]
      simp only [k_bind, k_tup, k_agg, k_cons, k_int, k_nil, k_bool]
      rw [show IntKind.i64.wrap (IntKind.u64.wrap (1000000000 - ((z.natAbs % 1000000000 : Nat) : Int))) = 1000000000 - ((z.natAbs % 1000000000 : Nat) : Int) by rw [IntKind.wrap_u64, IntKind.wrap_i64]; omega]
      rw [of15 (k + 2) _ _ (by omega) (by omega), show -(((z.natAbs / 1000000000 : Nat) : Int) + 1) * 1000000000 + (1000000000 - ((z.natAbs % 1000000000 : Nat) : Int)) = z by omega]
  · rw [show decide ((((z % 340282366920938463463374607431768211456).toNat / 18446744073709551616 : Nat) : Int) ≥ 9223372036854775808) = false from decide_eq_false (by omega), Bool.not_false, cond_true]
    have hd := sp_wide_Div k z.natAbs 1000000000 (by omega) (by omega) (by omega)
    rw [show ((1000000000 : Nat) : Int) = 1000000000 from rfl] at hd
    rw [show (z % 340282366920938463463374607431768211456).toNat = z.natAbs by omega, hd]
    simp only [k_bind, k_tup, k_agg, k_cons, k_int, k_nil]
    rw [wI_of _ (by omega)] at *
    rw [w64 (by omega), show ((z.natAbs / 1000000000 / 18446744073709551616 : Nat) : Int) = ((((z.natAbs / 1000000000 : Nat) : Int) % 340282366920938463463374607431768211456).toNat / 18446744073709551616 : Nat) by omega,
      show ((z.natAbs / 1000000000 % 18446744073709551616 : Nat) : Int) = ((((z.natAbs / 1000000000 : Nat) : Int) % 340282366920938463463374607431768211456).toNat % 18446744073709551616 : Nat) by omega]
    rw [of15 (k + 2) _ _ (by omega) (by omega), show ((z.natAbs / 1000000000 : Nat) : Int) * 1000000000 + ((z.natAbs % 1000000000 : Nat) : Int) = z by omega]
end Go.Proofs.Ytiamacidfgkdkaa.Sim.S
