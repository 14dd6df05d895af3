/- Durations. Condition: none beyond what each theorem says. -/
import Derived.Test.YtiamacidfgkdkaaSpecInst2
import Derived.Test.YtiamacidfgkdkaaSpecChk2
set_option linter.unusedSimpArgs false
set_option linter.unusedVariables false
namespace Go.Proofs.Ytiamacidfgkdkaa.Sim.S
open Go

/-- Is a number of nanoseconds a duration? -/
def din (z : Int) : Prop := -1099511627776000000000 ≤ z ∧ z ≤ 1099511627776000000000
instance (z : Int) : Decidable (din z) := by unfold din; infer_instance
def duS (z : Int) : Int := if din z then z / 1000000000 else 0
def duN (z : Int) : Int := if din z then z % 1000000000 else 0
def duE (z : Int) : Int := if din z then 0 else 8
abbrev duV (z : Int) : AV := .tup [ins (duS z) (duN z), .int .i64 (duE z)]
theorem duV_ok {z : Int} (h : din z) : duV z = .tup [ins (z / 1000000000) (z % 1000000000), .int .i64 0] := by unfold duV duS duN duE; rw [if_pos h, if_pos h, if_pos h]
theorem duV_far {z : Int} (h : ¬ din z) : duV z = .tup [ins 0 0, .int .i64 8] := by unfold duV duS duN duE; rw [if_neg h, if_neg h, if_neg h]
theorem din_dE (z : Int) : dE (z / 1000000000) (z % 1000000000) = if din z then 0 else 8 := by unfold dE din; omega
def xS (e z : Int) : Int := if e ≠ 0 then 0 else duS z
def xN (e z : Int) : Int := if e ≠ 0 then 0 else duN z
def xE (e z : Int) : Int := if e ≠ 0 then e else duE z
/-- An error, or else the duration of a number. -/
abbrev dmV (e z : Int) : AV := .tup [ins (xS e z) (xN e z), .int .i64 (xE e z)]
theorem dmV_err {e : Int} (z : Int) (h : e ≠ 0) : dmV e z = .tup [ins 0 0, .int .i64 e] := by unfold dmV xS xN xE; rw [if_pos h, if_pos h, if_pos h]
theorem dmV_ok {e : Int} (z : Int) (h : e = 0) : dmV e z = duV z := by unfold dmV xS xN xE; rw [if_neg (by omega), if_neg (by omega), if_neg (by omega)]
theorem dE_zero {s n : Int} : dE s n = 0 ↔ (0 ≤ n ∧ n < 1000000000) ∧ din (s * 1000000000 + n) := by unfold dE din; omega
theorem du_of {s n : Int} (h : dE s n = 0) : duV (s * 1000000000 + n) = .tup [ins s n, .int .i64 0] := by
  obtain ⟨h1, h2⟩ := dE_zero.1 h
  rw [duV_ok h2, show (s * 1000000000 + n) / 1000000000 = s by omega, show (s * 1000000000 + n) % 1000000000 = n by omega]
/-- A number as a sign and an amount. -/
abbrev nb (b : Bool) (V : Nat) : AV := .agg [.bool b, .int .u64 ((V / 18446744073709551616 : Nat) : Int), .int .u64 ((V % 18446744073709551616 : Nat) : Int)]
def sgn (b : Bool) (V : Nat) : Int := if b then -(V : Int) else (V : Int)
theorem sp_dur_Check (k : Nat) (s n : Int) : CP C (k + 1) F_dur_Check [ins s n] = some (.int .i64 (dE s n)) := by
  rw [eq_dur_Check]
  unfold R_dur_Check dE
  simp only [k_int, k_anyInt, k_bool, k_str, k_agg, k_tup, k_cons, k_nil, k_bind, ↓c_not, ↓c_bne, ite_cond, Bool.and_eq_true, Bool.or_eq_true, beq_iff_eq, Bool.and_true, decide_eq_true_eq, Bool.false_eq_true, if_true, if_false, bne_self_eq_false, and_self, Int.reduceEq, Int.reduceLT, Int.reduceNeg, i_some, i_int, i_bool, i_agg, i_tup, i_cons, i_self, Option.some.injEq, AV.int.injEq, AV.bool.injEq, AV.agg.injEq, AV.tup.injEq, List.cons.injEq, true_and, and_true]
  omega
theorem sp_number_dur (k : Nat) (b : Bool) (V : Nat) (hV : V < 340282366920938463463374607431768211456) : CP C (k + 5) F_dur_number_dur [nb b V] = some (duV (sgn b V)) := by
  rw [eq_dur_number_dur]
  unfold R_dur_number_dur
  have hd := sp_wide_Div k V 1000000000 hV (by omega) (by omega)
  rw [show ((1000000000 : Nat) : Int) = 1000000000 from rfl] at hd
  rw [hd]
  simp only [k_bind, k_tup, k_agg, k_cons, k_int, k_nil]
  have far : ¬ din (V : Int) → ¬ din (sgn b V) := by unfold din sgn; cases b <;> simp <;> omega
  by_cases g1 : V / 1000000000 / 18446744073709551616 > 0
  · rw [decide_eq_true (show ((V / 1000000000 / 18446744073709551616 : Nat) : Int) > 0 by omega), cond_true, duV_far (far (by unfold din; omega))]
  rw [decide_eq_false (show ¬ ((V / 1000000000 / 18446744073709551616 : Nat) : Int) > 0 by omega), cond_false]
  by_cases g2 : V / 1000000000 % 18446744073709551616 > 1099511627776
  · rw [decide_eq_true (show ((V / 1000000000 % 18446744073709551616 : Nat) : Int) > 1099511627776 by omega), cond_true, duV_far (far (by unfold din; omega))]
  rw [decide_eq_false (show ¬ ((V / 1000000000 % 18446744073709551616 : Nat) : Int) > 1099511627776 by omega), cond_false]
  have hq : V / 1000000000 % 18446744073709551616 = V / 1000000000 := by omega
  rw [hq] at g2 ⊢
  have fin : ∀ z s n : Int, s = z / 1000000000 → n = z % 1000000000 → ((CP C (k + 4) F_dur_Check [ins s n]).bind fun r => AV.intK .i64 r fun i => (cond (i != 0) (some (AV.tup [.agg [.int .i64 0, .int .i64 0], .int .i64 i])) (some (AV.tup [ins s n, .int .i64 0])))) = some (duV z) := by
    intro z s n hs hn
    subst hs hn
    rw [sp_dur_Check (k + 3), din_dE]
    simp only [k_bind, k_int]
    by_cases h : din z
    · rw [if_pos h, duV_ok h]; rfl
    · rw [if_neg h, duV_far h]; rfl
  cases b
  · rw [cond_false, w64 (show -9223372036854775808 ≤ ((V / 1000000000 : Nat) : Int) ∧ ((V / 1000000000 : Nat) : Int) ≤ 9223372036854775807 by omega), w64 (show -9223372036854775808 ≤ ((V % 1000000000 : Nat) : Int) ∧ ((V % 1000000000 : Nat) : Int) ≤ 9223372036854775807 by omega)]
    exact fin _ _ _ (by unfold sgn; simp) (by unfold sgn; simp)
  · rw [cond_true, w64 (show -9223372036854775808 ≤ ((V / 1000000000 : Nat) : Int) ∧ ((V / 1000000000 : Nat) : Int) ≤ 9223372036854775807 by omega), w64 (show -9223372036854775808 ≤ ((V % 1000000000 : Nat) : Int) ∧ ((V % 1000000000 : Nat) : Int) ≤ 9223372036854775807 by omega)]
    by_cases r : V % 1000000000 > 0
    · rw [decide_eq_true (show ((V % 1000000000 : Nat) : Int) > 0 by omega), cond_true]
      rw [bnd_eq _ (show _ = -((V / 1000000000 : Nat) : Int) - 1 by rw [w64 (show -9223372036854775808 ≤ 0 - ((V / 1000000000 : Nat) : Int) ∧ 0 - ((V / 1000000000 : Nat) : Int) ≤ 9223372036854775807 by omega), w64 (by omega)]; omega), w64 (show -9223372036854775808 ≤ 1000000000 - ((V % 1000000000 : Nat) : Int) ∧ 1000000000 - ((V % 1000000000 : Nat) : Int) ≤ 9223372036854775807 by omega)]
      exact fin _ _ _ (by show _ = -(V : Int) / 1000000000; omega) (by show _ = -(V : Int) % 1000000000; omega)
    · rw [decide_eq_false (show ¬ ((V % 1000000000 : Nat) : Int) > 0 by omega), cond_false, w64 (show -9223372036854775808 ≤ 0 - ((V / 1000000000 : Nat) : Int) ∧ 0 - ((V / 1000000000 : Nat) : Int) ≤ 9223372036854775807 by omega)]
      exact fin _ _ _ (by show _ = -(V : Int) / 1000000000; omega) (by show _ = -(V : Int) % 1000000000; omega)
theorem sp_dur_OfNanos (k : Nat) (z : Int) (h : -170141183460469231731687303715884105728 ≤ z ∧ z < 170141183460469231731687303715884105728) : CP C (k + 6) F_dur_OfNanos [wI z] = some (duV z) := by
  rw [eq_dur_OfNanos]
  unfold R_dur_OfNanos
  by_cases g : z < 0
  · rw [show decide ((((z % 340282366920938463463374607431768211456).toNat / 18446744073709551616 : Nat) : Int) ≥ 9223372036854775808) = true from decide_eq_true (by omega), cond_true]
    have hn := sp_wide_Neg (k + 3) (z % 340282366920938463463374607431768211456).toNat (by omega)
    rw [show (340282366920938463463374607431768211456 - (z % 340282366920938463463374607431768211456).toNat) % 340282366920938463463374607431768211456 = z.natAbs by omega] at hn
    rw [hn]
    simp only [k_bind, k_tup, k_agg, k_cons, k_int, k_nil]
    rw [sp_number_dur k true z.natAbs (by omega), show sgn true z.natAbs = z by show -(z.natAbs : Int) = z; omega]
    simp only [k_bind, k_tup, k_agg, k_cons, k_int, k_nil]
  · rw [show decide ((((z % 340282366920938463463374607431768211456).toNat / 18446744073709551616 : Nat) : Int) ≥ 9223372036854775808) = false from decide_eq_false (by omega), cond_false]
    rw [sp_number_dur k false (z % 340282366920938463463374607431768211456).toNat (by omega), show sgn false (z % 340282366920938463463374607431768211456).toNat = z by show ((z % 340282366920938463463374607431768211456).toNat : Int) = z; omega]
    simp only [k_bind, k_tup, k_agg, k_cons, k_int, k_nil]
theorem sp_ref04_OfNanos (k : Nat) (z : Int) (h : -170141183460469231731687303715884105728 ≤ z ∧ z < 170141183460469231731687303715884105728) : CP C (k + 6) F_ref04_OfNanos [wI z] = some (duV z) := by
  rw [eq_ref04_OfNanos]
  unfold R_ref04_OfNanos
  rw [sp_Parts k z h]
  simp only [k_bind, k_tup, k_agg, k_cons, k_int, k_nil, k_bool]
  by_cases g : -9223372036854775808 ≤ z / 1000000000 ∧ z / 1000000000 ≤ 9223372036854775807
  · rw [decide_eq_true g, if_pos g, sp_ref03_CheckDur (k + 4), din_dE]
    simp only [k_bind, k_int]
    by_cases h2 : din z
    · rw [if_pos h2, duV_ok h2]; rfl
    · rw [if_neg h2, duV_far h2]; rfl
  · rw [decide_eq_false g, duV_far (by unfold din; omega)]; rfl
theorem sp_dur_of (k : Nat) (s n : Int) (hs : -9223372036854775808 ≤ s ∧ s ≤ 9223372036854775807) (hn : -9223372036854775808 ≤ n ∧ n ≤ 9223372036854775807) :
    CP C (k + 3) F_dur_of [ins s n] = some (nb (decide (s < 0)) ((if s < 0 then -(s * 1000000000 + n) else s * 1000000000 + n) % 340282366920938463463374607431768211456).toNat) := by
  rw [eq_dur_of]
  unfold R_dur_of
  by_cases g : s ≥ 0
  · have e1 : IntKind.u64.wrap s = ((s.natAbs : Nat) : Int) := by rw [IntKind.wrap_u64]; omega
    have fm := sp_wide_Mul k s.natAbs 1000000000 (by omega) (by omega)
    rw [show ((1000000000 : Nat) : Int) = 1000000000 from rfl] at fm
    rw [decide_eq_true g, cond_true, e1, fm, wI_of _ (by omega), sp_wide_Of (k + 1) n hn]
    simp only [k_bind, k_tup, k_agg, k_cons, k_int, k_nil]
    rw [sg_wide_Add (k + 1), if_neg (show ¬ s < 0 by omega), decide_eq_false (show ¬ s < 0 by omega), show ((s.natAbs * 1000000000 : Nat) : Int) + n = s * 1000000000 + n by omega]
    simp only [k_bind, k_tup, k_agg, k_cons, k_int, k_nil, k_bool]
  · have e1 : IntKind.u64.wrap (0 - IntKind.u64.wrap s) = ((s.natAbs : Nat) : Int) := by rw [IntKind.wrap_u64, IntKind.wrap_u64]; omega
    have fm := sp_wide_Mul k s.natAbs 1000000000 (by omega) (by omega)
    rw [show ((1000000000 : Nat) : Int) = 1000000000 from rfl] at fm
    rw [decide_eq_false g, cond_false, e1, fm, wI_of _ (by omega), sp_wide_Of (k + 1) n hn]
    simp only [k_bind, k_tup, k_agg, k_cons, k_int, k_nil]
    rw [sg_wide_Sub (k + 1), if_pos (show s < 0 by omega), decide_eq_true (show s < 0 by omega), show ((s.natAbs * 1000000000 : Nat) : Int) - n = -(s * 1000000000 + n) by omega]
    simp only [k_bind, k_tup, k_agg, k_cons, k_int, k_nil, k_bool]
theorem sgn_of {s n : Int} (h : dE s n = 0) : ((if s < 0 then -(s * 1000000000 + n) else s * 1000000000 + n) % 340282366920938463463374607431768211456).toNat = (s * 1000000000 + n).natAbs ∧ (s < 0 ↔ s * 1000000000 + n < 0) ∧ (s * 1000000000 + n).natAbs ≤ 1099511627776000000000 := by
  obtain ⟨h1, h2⟩ := dE_zero.1 h
  unfold din at h2
  omega
theorem sp_number_wide (k : Nat) (b : Bool) (V : Nat) (hV : V < 340282366920938463463374607431768211456) : CP C (k + 3) F_dur_number_wide [nb b V] = some (wI (sgn b V)) := by
  rw [eq_dur_number_wide]
  unfold R_dur_number_wide
  cases b
  · rw [cond_false]
    show some (wv V) = some (wI (V : Int))
    rw [wI_of _ hV]
  · have hg := sg_wide_Neg k (V : Int)
    rw [← wI_of _ hV] at hg
    rw [cond_true, hg]
    simp only [k_bind, k_agg, k_cons, k_int, k_nil]
    rfl
theorem sp_dur_Nanos (k : Nat) (s n : Int) (hs : -9223372036854775808 ≤ s ∧ s ≤ 9223372036854775807) (hn : -9223372036854775808 ≤ n ∧ n ≤ 9223372036854775807) :
    CP C (k + 4) F_dur_Nanos [ins s n] = some (numV (dE s n) (s * 1000000000 + n)) := by
  rw [eq_dur_Nanos]
  unfold R_dur_Nanos
  rw [sp_dur_Check (k + 2)]
  simp only [k_bind, k_int]
  by_cases h : dE s n = 0
  · obtain ⟨g1, g2, g3⟩ := sgn_of h
    rw [numV_ok _ h, h, show ((0 : Int) != 0) = false from rfl, cond_false, sp_dur_of k s n hs hn, g1]
    simp only [k_bind, k_tup, k_agg, k_cons, k_int, k_nil, k_bool]
    rw [sp_number_wide k _ _ (by omega)]
    simp only [k_bind, k_tup, k_agg, k_cons, k_int, k_nil]
    rw [show sgn (decide (s < 0)) (s * 1000000000 + n).natAbs = s * 1000000000 + n by
      unfold sgn
      by_cases c : s < 0
      · rw [decide_eq_true c, if_pos rfl]; omega
      · rw [decide_eq_false c, if_neg (by decide)]; omega]
  · rw [show (dE s n != 0) = true from bne_iff_ne.2 h, cond_true, numV_err _ h]
theorem sp_dur_Cmp (k : Nat) (s n t m : Int) : CP C (k + 3) F_dur_Cmp [ins s n, ins t m] = some (.int .i64 (cmp2 s n t m)) := by
  rw [eq_dur_Cmp]
  unfold R_dur_Cmp
  rw [sp_Compare, sp_Compare]
  simp only [k_int, k_anyInt, k_bool, k_str, k_agg, k_tup, k_cons, k_nil, k_bind, ↓c_not, ↓c_bne, ite_cond, Bool.and_eq_true, Bool.or_eq_true, beq_iff_eq, Bool.and_true, decide_eq_true_eq, Bool.false_eq_true, if_true, if_false, bne_self_eq_false, and_self, Int.reduceEq, Int.reduceLT, Int.reduceNeg, i_some, i_int, i_bool, i_agg, i_tup, i_cons, i_self, Option.some.injEq, AV.int.injEq, AV.bool.injEq, AV.agg.injEq, AV.tup.injEq, List.cons.injEq, true_and, and_true]
  unfold cmp2 cmp1
  omega
end Go.Proofs.Ytiamacidfgkdkaa.Sim.S
