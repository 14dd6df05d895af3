/- Rounding, both ways. Condition: none beyond what each theorem says. -/
import Derived.Test.YtiamacidfgkdkaaSpecRound
set_option linter.unusedSimpArgs false
set_option linter.unusedVariables false
namespace Go.Proofs.Ytiamacidfgkdkaa.Sim.S
open Go

theorem cF {R : Type} (x y : R) : cond false x y = y := of_eq_true (eq_self _)
theorem cT {R : Type} (x y : R) : cond true x y = x := of_eq_true (eq_self _)
theorem shr_one (D : Nat) (h : D < 340282366920938463463374607431768211456) : Int.fdiv ((D / 18446744073709551616 : Nat) : Int) 2 = ((D / 2 / 18446744073709551616 : Nat) : Int) ∧
    IntKind.u64.wrap (((BitVec.ofInt 64 (Int.fdiv ((D % 18446744073709551616 : Nat) : Int) 2) ||| BitVec.ofInt 64 (IntKind.u64.wrap (((D / 18446744073709551616 : Nat) : Int) * 9223372036854775808))).toNat : Nat) : Int) = ((D / 2 % 18446744073709551616 : Nat) : Int) := by
  have e1 : Int.fdiv ((D / 18446744073709551616 : Nat) : Int) 2 = ((D / 18446744073709551616 / 2 : Nat) : Int) := fdiv_nat _ 2 (by decide)
  have e2 : Int.fdiv ((D % 18446744073709551616 : Nat) : Int) 2 = ((D % 18446744073709551616 / 2 : Nat) : Int) := fdiv_nat _ 2 (by decide)
  have e3 : IntKind.u64.wrap (((D / 18446744073709551616 : Nat) : Int) * 9223372036854775808) = ((D / 18446744073709551616 % 2 * 2 ^ 63 : Nat) : Int) := by
    rw [IntKind.wrap_u64, show (2 : Nat) ^ 63 = 9223372036854775808 by decide]; omega
  have e4 := or_sum (D / 18446744073709551616 % 2) (D % 18446744073709551616 / 2) 63 (by decide) (by rw [show (2 : Nat) ^ 63 = 9223372036854775808 by decide]; omega) (by rw [show (2 : Nat) ^ 63 = 9223372036854775808 by decide]; omega)
  refine ⟨by rw [e1]; omega, ?_⟩
  rw [e2, e3, BitVec.or_comm, e4, show (2 : Nat) ^ 63 = 9223372036854775808 by decide]
  omega
theorem dv_loop (n A U s : Nat) (hU : 18446744073709551616 ≤ U) (hA : A ≤ 1267650600228229401496703205376) (hs : U * 2 ^ s < 340282366920938463463374607431768211456) (hs64 : s < 64) : ∀ (c f q a : Nat), c ≤ s + 1 → c < f → a < U * 2 ^ c → A = q * (U * 2 ^ c) + a →
    J_round_divide_504 (CP C (n + 2)) (n + 2) f (q : Int) ((c : Int) - 1) ((a / 18446744073709551616 : Nat) : Int) ((a % 18446744073709551616 : Nat) : Int) ((U * 2 ^ c / 2 / 18446744073709551616 : Nat) : Int) ((U * 2 ^ c / 2 % 18446744073709551616 : Nat) : Int) =
      some (.tup [wv (A / U), wv (A % U)]) := by
  intro c
  induction c with
  | zero =>
    intro f q a hc hf ha hAq
    obtain ⟨f, rfl⟩ : ∃ f', f = f' + 1 := ⟨f - 1, by omega⟩
    rw [Nat.pow_zero, Nat.mul_one] at ha hAq ⊢
    obtain ⟨q1, q2⟩ := floor_fin true A U q a ha hAq
    have hq : q < 18446744073709551616 := by
      have h1 : A / U ≤ A / 18446744073709551616 := Nat.div_le_div_left hU (by decide)
      omega
    rw [Js_round_divide_504]
    unfold T_round_divide_504
    rw [decide_eq_false (show ¬ (((0 : Nat) : Int) - 1 ≥ 0) by decide), cond_false, q1, q2]
    unfold wv
    rw [show q / 18446744073709551616 = 0 by omega, show q % 18446744073709551616 = q by omega]
    rfl
  | succ c ih =>
    intro f q a hc hf ha hAq
    obtain ⟨f, rfl⟩ : ∃ f', f = f' + 1 := ⟨f - 1, by omega⟩
    have hp : U * 2 ^ (c + 1) = U * 2 ^ c * 2 := by rw [Nat.pow_succ, Nat.mul_assoc]
    have hD : U * 2 ^ c < 340282366920938463463374607431768211456 := Nat.lt_of_le_of_lt (Nat.mul_le_mul_left _ (Nat.pow_le_pow_right (by decide) (by omega))) hs
    have hUp : U ≤ U * 2 ^ c := Nat.le_mul_of_pos_right _ (Nat.two_pow_pos c)
    have hq : q < 9223372036854775807 := by
      have h1 : q * 18446744073709551616 ≤ q * (U * 2 ^ (c + 1)) := Nat.mul_le_mul_left _ (by omega)
      omega
    rw [hp] at ha hAq
    have hmul : q * (U * 2 ^ c * 2) = 2 * q * (U * 2 ^ c) := by
      generalize U * 2 ^ c = p
      rw [← Nat.mul_assoc, Nat.mul_right_comm, Nat.mul_comm q 2]
    rw [Js_round_divide_504]
    unfold T_round_divide_504
    rw [hp, Nat.mul_div_cancel _ (by decide : 0 < 2)]
    obtain ⟨s1, s2⟩ := shr_one (U * 2 ^ c) hD
    have hc := sp_wide_Cmp n (a : Int) ((U * 2 ^ c : Nat) : Int) (by omega) (by omega)
    rw [← wI_of _ (by omega), ← wI_of _ hD] at hc
    have e1 : IntKind.i64.wrap (((c + 1 : Nat) : Int) - 1 - 1) = (c : Int) - 1 := by rw [w64 (by omega)]; omega
    have e2 : IntKind.u64.wrap ((q : Int) * 2) = ((2 * q : Nat) : Int) := by rw [IntKind.wrap_u64]; omega
    rw [decide_eq_true (show (((c + 1 : Nat) : Int) - 1 ≥ 0) by omega), cond_true, hc, e1, e2]
    simp only [k_bind, k_int]
    rw [s1, bnd_eq _ s2]
    by_cases g : U * 2 ^ c ≤ a
    · have hsub := sp_wide_Sub (n + 1) a (U * 2 ^ c) (by omega) hD
      rw [show (a + (340282366920938463463374607431768211456 - U * 2 ^ c)) % 340282366920938463463374607431768211456 = a - U * 2 ^ c by omega] at hsub
      rw [decide_eq_true (show cmp1 (a : Int) ((U * 2 ^ c : Nat) : Int) ≥ 0 by unfold cmp1; omega), cond_true, hsub]
      simp only [k_bind, k_tup, k_agg, k_cons, k_int, k_nil, k_bool]
      have e3 : IntKind.u64.wrap (((BitVec.ofInt 64 ((2 * q : Nat) : Int) ||| BitVec.ofInt 64 1).toNat : Nat) : Int) = ((2 * q + 1 : Nat) : Int) := by
        have := or_sum q 1 1 (by decide) (by omega) (by decide)
        rw [Nat.pow_one, Nat.mul_comm q 2] at this
        exact this
      rw [bnd_eq _ e3, bnd_eq _ s2]
      exact ih f (2 * q + 1) (a - U * 2 ^ c) (by omega) (by omega) (by omega) (by rw [Nat.add_mul, Nat.one_mul]; omega)
    · rw [decide_eq_false (show ¬ cmp1 (a : Int) ((U * 2 ^ c : Nat) : Int) ≥ 0 by unfold cmp1; omega), cond_false]
      exact ih f (2 * q) a (by omega) (by omega) (by omega) (by omega)
theorem sp_round_divide (n A U : Nat) (hA : A ≤ 1267650600228229401496703205376) (hU : 1 ≤ U ∧ U ≤ 1208925819614629174706176) :
    CP C (n + 5) F_round_divide [wv A, wv U] = some (.tup [wv (A / U), wv (A % U)]) := by
  rw [eq_round_divide]
  unfold R_round_divide T_round_divide_1
  by_cases g : U < 18446744073709551616
  · have hd := sp_wide_Div n A U (by omega) (by omega) g
    rw [show U / 18446744073709551616 = 0 by omega, show U % 18446744073709551616 = U by omega, show (((0 : Nat) : Int) == 0) = true from rfl, cond_true, hd]
    simp only [k_bind, k_tup, k_agg, k_cons, k_int, k_nil]
    have hr : A % U < U := Nat.mod_lt _ (by omega)
    unfold wv
    rw [show A % U / 18446744073709551616 = 0 by omega, show A % U % 18446744073709551616 = A % U by omega]
    rfl
  · have h0 : 0 < U / 18446744073709551616 := by omega
    obtain ⟨s, s1, s2, s3, s4⟩ := sp_Leading (n + 2) (U / 18446744073709551616) h0 (by omega)
    rw [show (((U / 18446744073709551616 : Nat) : Int) == 0) = false by rw [beq_eq_false_iff_ne]; omega, cond_false, s4]
    simp only [k_bind, k_int]
    have hUW : U / 18446744073709551616 * 18446744073709551616 + U % 18446744073709551616 = U := by omega
    have hUm : U % 18446744073709551616 < 18446744073709551616 := by omega
    have hpw : 2 ^ s * 2 ^ (64 - s) = 18446744073709551616 := by
      rw [← Nat.pow_add, show s + (64 - s) = 64 by omega]
    obtain ⟨_, hlo', hmv⟩ := moved (U / 18446744073709551616) (U % 18446744073709551616) (U / 18446744073709551616 + 1) (2 ^ s) (2 ^ (64 - s)) (Nat.two_pow_pos _) (Nat.two_pow_pos _) hpw (Nat.lt_succ_self _)
    have hlo := hlo' hUm
    rw [hUW] at hmv
    have hlm : U % 18446744073709551616 * 2 ^ s % 18446744073709551616 < 18446744073709551616 := Nat.mod_lt _ (by decide)
    have p2 : ∀ k : Nat, k ≤ 64 → ((2 : Int) ^ (min (Int.toNat (k : Int)) 64)) = ((2 ^ k : Nat) : Int) := by
      intro k hk
      rw [Int.toNat_natCast, Nat.min_eq_left hk]; simp
    have ds : decide ((s : Int) < 0) = false := decide_eq_false (by omega)
    have es : IntKind.i64.wrap (64 - (s : Int)) = ((64 - s : Nat) : Int) := by rw [w64 (by omega)]; omega
    have ds2 : decide (((64 - s : Nat) : Int) < 0) = false := decide_eq_false (by omega)
    have e1 : IntKind.u64.wrap (((U / 18446744073709551616 : Nat) : Int) * ((2 ^ s : Nat) : Int)) = ((U / 18446744073709551616 * 2 ^ s : Nat) : Int) := w64u s3
    have e2 : Int.fdiv ((U % 18446744073709551616 : Nat) : Int) ((2 ^ (64 - s) : Nat) : Int) = ((U % 18446744073709551616 / 2 ^ (64 - s) : Nat) : Int) := fdiv_nat _ _ (Nat.two_pow_pos _)
    have e3 : IntKind.u64.wrap (((U % 18446744073709551616 : Nat) : Int) * ((2 ^ s : Nat) : Int)) = ((U % 18446744073709551616 * 2 ^ s % 18446744073709551616 : Nat) : Int) := by
      rw [IntKind.wrap_u64, ← Int.natCast_mul]; omega
    have hor := or_sum (U / 18446744073709551616) (U % 18446744073709551616 / 2 ^ (64 - s)) s s1 s3 hlo
    rw [es, p2 s (by omega), p2 (64 - s) (by omega)]
    simp only [ds, ds2, cF]
    rw [bnd_eq _ e2, e1, bnd_eq _ hor, e3]
    have hsum : U / 18446744073709551616 * 2 ^ s + U % 18446744073709551616 / 2 ^ (64 - s) < 18446744073709551616 := by
      have h1 : U / 18446744073709551616 * 2 ^ s + 2 ^ s ≤ 18446744073709551616 := by
        have hle : U / 18446744073709551616 + 1 ≤ 2 ^ (64 - s) := by
          have : U / 18446744073709551616 * 2 ^ s < 2 ^ (64 - s) * 2 ^ s := by rw [Nat.mul_comm (2 ^ (64 - s)), hpw]; exact s3
          exact Nat.lt_of_mul_lt_mul_right this
        have := Nat.mul_le_mul_right (2 ^ s) hle
        rw [Nat.add_mul, Nat.one_mul, Nat.mul_comm (2 ^ (64 - s)), hpw] at this
        exact this
      omega
    obtain ⟨u, hu⟩ : ∃ u, u = U / 18446744073709551616 * 2 ^ s + U % 18446744073709551616 / 2 ^ (64 - s) := ⟨_, rfl⟩
    obtain ⟨w, hw⟩ : ∃ w, w = U % 18446744073709551616 * 2 ^ s % 18446744073709551616 := ⟨_, rfl⟩
    rw [← hu, ← hw] at hmv
    have hs2 : 9223372036854775808 ≤ u := by rw [hu]; exact Nat.le_trans s2 (Nat.le_add_right _ _)
    rw [← hu] at hsum ⊢
    rw [← hw] at hlm ⊢
    clear hu hw e1 e2 e3 hor hlo hlo' hpw s2 s3 s4
    have hlt : u * 18446744073709551616 + w < 340282366920938463463374607431768211456 := by clear hmv; omega
    rw [hmv] at hlt
    have w1 : U * 2 ^ s / 18446744073709551616 = u := by rw [← hmv]; clear hmv; omega
    have w2 : U * 2 ^ s % 18446744073709551616 = w := by rw [← hmv]; clear hmv; omega
    have hp : U * 2 ^ (s + 1) = U * 2 ^ s * 2 := by rw [Nat.pow_succ, Nat.mul_assoc]
    have hbig : A < U * 2 ^ (s + 1) := by
      have h1 : 18446744073709551616 * 9223372036854775808 ≤ U * 2 ^ s := by
        rw [← hmv]; clear hmv hp w1 w2 hlt; omega
      rw [hp]; clear hmv hp w1 w2 hlt; omega
    have hl := dv_loop (n + 2) A U s (by clear hmv hp w1 w2 hlt hbig; omega) hA hlt s1 (s + 1) (n + 4 + 300) 0 A (Nat.le_refl _) (by clear hmv hp w1 w2 hlt hbig; omega) hbig (by rw [Nat.zero_mul, Nat.zero_add])
    rw [hp, Nat.mul_div_cancel _ (by decide : 0 < 2), w1, w2, show ((s + 1 : Nat) : Int) - 1 = (s : Int) by clear hmv hp w1 w2 hlt hbig hl; omega, show ((0 : Nat) : Int) = 0 from rfl] at hl
    exact hl
end Go.Proofs.Ytiamacidfgkdkaa.Sim.S
