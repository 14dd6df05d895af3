/- The laws of a clock answer true. Condition: none beyond what each theorem says. -/
import Derived.Test.YtbpihmcloeegeaaSpec
set_option linter.unusedSimpArgs false
namespace Go.Proofs.Ytbpihmcloeegeaa.Sim.S
open Go

theorem sp_awake (n : Nat) : CP C (n + 5) F_law08_awake [] = some (.bool true) := by
  rw [eq_law08_awake]
  unfold R_law08_awake
  have h1 := sp_clock_Add n 23 59 59 999999999 0 1
  have h2 := sp_clock_Add n 0 0 0 0 (-1) 999999999
  have h3 := sp_clock_Half (n + 1) 0 30 0 0
  rw [h1, h2, h3]
  rfl

theorem cond_ite {R : Type} (p : Bool) (x : R) (y : R) (h : p = true) : cond p x y = x := by rw [h]; rfl

theorem law_ClockNanos (n : Nat) (a b c d x : Int) : CP C (n + 6) F_law08_ClockNanos [clk a b c d, .int .i64 x] = some (.bool true) := by
  rw [eq_law08_ClockNanos]
  unfold R_law08_ClockNanos
  rw [sp_clock_Nanos (n + 2), sp_ref08_Nanos (n + 3), sp_clock_Of (n + 4), sp_ref08_Of (n + 3), sp_clock_Half (n + 2), sp_ref08_Half (n + 3), sp_clock_Check (n + 3), sp_ref08_Check (n + 4), sp_awake n]
  simp only [k_int, k_anyInt, k_bool, k_str, k_agg, k_tup, k_cons, k_nil, k_bind, ↓c_not, ↓c_bne, ite_cond, Bool.and_eq_true, Bool.or_eq_true, beq_iff_eq, Bool.and_true, decide_eq_true_eq, Bool.false_eq_true, if_true, if_false, bne_self_eq_false, and_self, beq_self_eq_true]

theorem law_ClockAdds (n : Nat) (a b c d s e : Int) : CP C (n + 6) F_law08_ClockAdds [clk a b c d, dur s e] = some (.bool true) := by
  rw [eq_law08_ClockAdds]
  unfold R_law08_ClockAdds
  rw [sp_clock_Add (n + 1), sp_ref08_Add (n + 3), sp_awake n]
  unfold sumV
  simp only [k_int, k_anyInt, k_bool, k_str, k_agg, k_tup, k_cons, k_nil, k_bind, ↓c_not, ↓c_bne, ite_cond, Bool.and_eq_true, Bool.or_eq_true, beq_iff_eq, Bool.and_true, decide_eq_true_eq, Bool.false_eq_true, if_true, if_false, bne_self_eq_false, and_self, beq_self_eq_true]

theorem clk_of {a b c d : Int} (h : clkOk a b c d) : ofH (nan a b c d) = a ∧ ofM (nan a b c d) = b ∧ ofS (nan a b c d) = c ∧ ofN (nan a b c d) = d ∧ ofE (nan a b c d) = 0 ∧ (0 ≤ nan a b c d ∧ nan a b c d < 86400000000000) := by
  unfold clkOk at h
  have h0 : 0 ≤ nan a b c d ∧ nan a b c d < 86400000000000 := by unfold nan; omega
  unfold ofH ofM ofS ofN ofE
  simp only [h0, and_self, if_true, and_true]
  clear h0
  unfold nan
  omega

theorem ofOk {x : Int} (h : 0 ≤ x ∧ x < 86400000000000) : clkOk (ofH x) (ofM x) (ofS x) (ofN x) ∧ nan (ofH x) (ofM x) (ofS x) (ofN x) = x := by
  unfold ofH ofM ofS ofN clkOk nan
  simp only [h, and_self, if_true]
  omega

theorem dk_zero {s : Int} (h : -1099511627776 < s ∧ s < 1099511627776) : dk s 0 = 0 := by unfold dk; omega

theorem back_sum {a b c d s p q r t : Int} (h : clkOk a b c d) (hd : dk s 0 = 0) (hd2 : dk (-s) 0 = 0) (g1 : clkOk p q r t) (g2 : nan p q r t = sumX a b c d s 0) :
    sumX p q r t (-s) 0 = nan a b c d % 86400000000000 ∧ sumD p q r t (-s) 0 = nan a b c d / 86400000000000 - sumD a b c d s 0 ∧ sumE p q r t (-s) 0 = 0 := by
  have hX : sumX a b c d s 0 = sumT a b c d s 0 % 86400000000000 := by unfold sumX; rw [if_pos (show sumOk a b c d s 0 from ⟨h, hd⟩)]
  have hD : sumD a b c d s 0 = sumT a b c d s 0 / 86400000000000 := by unfold sumD; rw [if_pos (show sumOk a b c d s 0 from ⟨h, hd⟩)]
  have g3 : sumOk p q r t (-s) 0 := ⟨g1, hd2⟩
  rw [hX] at g2
  rw [hD]
  unfold sumX sumD sumE
  rw [if_pos g3, if_pos g3, if_pos g1, hd2]
  unfold sumT at g2 ⊢
  generalize nan a b c d = u at g2 ⊢
  generalize nan p q r t = v at g2 ⊢
  subst g2
  omega

theorem law_ClockBack (n : Nat) (a b c d x : Int) : CP C (n + 6) F_law08_ClockBack [clk a b c d, .int .i64 x] = some (.bool true) := by
  rw [eq_law08_ClockBack]
  unfold R_law08_ClockBack
  rw [sp_clock_Nanos (n + 2)]
  by_cases h : clkOk a b c d
  · obtain ⟨h1, h2, h3, h4, h5, h6⟩ := clk_of h
    have hs : -1099511627776 < Int.tmod x 1099511627776 ∧ Int.tmod x 1099511627776 < 1099511627776 := by simp only [IntKind.wrap_i64, tdiv_pos, tmod_pos, Int.reduceLT]; omega
    have hd := dk_zero hs
    have e1 : IntKind.i64.wrap (0 - Int.tmod x 1099511627776) = - Int.tmod x 1099511627776 := by rw [IntKind.wrap_i64]; omega
    have hd2 : dk (-Int.tmod x 1099511627776) 0 = 0 := dk_zero (by omega)
    generalize Int.tmod x 1099511627776 = s at hs hd e1 hd2 ⊢
    have hn : nanE a b c d = nan a b c d := by unfold nanE; rw [if_pos h]
    have hk : ck a b c d = 0 := by unfold ck; rw [if_pos h]
    rw [hn, hk]
    have hX : sumX a b c d s 0 = sumT a b c d s 0 % 86400000000000 := by unfold sumX; rw [if_pos (show sumOk a b c d s 0 from ⟨h, hd⟩)]
    have hD : sumD a b c d s 0 = sumT a b c d s 0 / 86400000000000 := by unfold sumD; rw [if_pos (show sumOk a b c d s 0 from ⟨h, hd⟩)]
    have hE : sumE a b c d s 0 = 0 := by unfold sumE; rw [if_pos h, hd]
    have hm : 0 ≤ sumX a b c d s 0 ∧ sumX a b c d s 0 < 86400000000000 := by rw [hX]; omega
    obtain ⟨g1, g2⟩ := ofOk hm
    obtain ⟨k1, k2, k3⟩ := back_sum h hd hd2 g1 g2
    rw [show nan a b c d % 86400000000000 = nan a b c d by omega] at k1
    rw [show nan a b c d / 86400000000000 - sumD a b c d s 0 = - sumD a b c d s 0 by omega] at k2
    have e2 : IntKind.i64.wrap (0 - -sumD a b c d s 0) = sumD a b c d s 0 := by rw [IntKind.wrap_i64, hD]; unfold sumT; omega
    have f1 := sp_clock_Of (n + 4) (nan a b c d)
    have f2 := sp_clock_Add (n + 1) a b c d s 0
    have f3 := sp_clock_Add (n + 1) (ofH (sumX a b c d s 0)) (ofM (sumX a b c d s 0)) (ofS (sumX a b c d s 0)) (ofN (sumX a b c d s 0)) (-s) 0
    rw [h1, h2, h3, h4, h5] at f1
    unfold sumV at f2 f3
    rw [k1, k2, k3, h1, h2, h3, h4] at f3
    rw [hE] at f2
    simp only [k_int, k_anyInt, k_bool, k_str, k_agg, k_tup, k_cons, k_nil, k_bind, ↓c_not, ↓c_bne, ite_cond, Bool.and_eq_true, Bool.or_eq_true, beq_iff_eq, Bool.and_true, decide_eq_true_eq, Bool.false_eq_true, if_true, if_false, bne_self_eq_false, and_self, f1, f2, f3, e1, e2, sp_awake n, beq_self_eq_true, and_self]
  · have hk : ck a b c d = 5 := by unfold ck; rw [if_neg h]
    rw [hk]
    simp only [k_int, k_anyInt, k_bool, k_str, k_agg, k_tup, k_cons, k_nil, k_bind, ↓c_not, ↓c_bne, ite_cond, Bool.and_eq_true, Bool.or_eq_true, beq_iff_eq, Bool.and_true, decide_eq_true_eq, Bool.false_eq_true, if_true, if_false, bne_self_eq_false, and_self, sp_awake n]
    rw [if_neg (by decide)]

theorem law_ClockDays (n : Nat) (a b c d x y : Int) : CP C (n + 6) F_law08_ClockDays [clk a b c d, .int .i64 x, .int .i64 y] = some (.bool true) := by
  rw [eq_law08_ClockDays]
  unfold R_law08_ClockDays
  have hs : -86400 < Int.tmod y 86400 ∧ Int.tmod y 86400 < 86400 := by simp only [IntKind.wrap_i64, tdiv_pos, tmod_pos, Int.reduceLT]; omega
  have hk : -1000000 < Int.tmod x 1000000 ∧ Int.tmod x 1000000 < 1000000 := by simp only [IntKind.wrap_i64, tdiv_pos, tmod_pos, Int.reduceLT]; omega
  generalize Int.tmod y 86400 = s at hs ⊢
  generalize Int.tmod x 1000000 = k at hk ⊢
  have e1 : IntKind.i64.wrap (s + IntKind.i64.wrap (k * 86400)) = s + k * 86400 := by simp only [IntKind.wrap_i64]; omega
  have hd := dk_zero (show -1099511627776 < s ∧ s < 1099511627776 by omega)
  have hd2 := dk_zero (show -1099511627776 < s + k * 86400 ∧ s + k * 86400 < 1099511627776 by omega)
  have f1 := sp_clock_Add (n + 1) a b c d s 0
  have f2 := sp_clock_Add (n + 1) a b c d (s + k * 86400) 0
  unfold sumV at f1 f2
  have hX : sumX a b c d (s + k * 86400) 0 = sumX a b c d s 0 := by
    unfold sumX
    by_cases h : clkOk a b c d
    · rw [if_pos (show sumOk a b c d (s + k * 86400) 0 from ⟨h, hd2⟩), if_pos (show sumOk a b c d s 0 from ⟨h, hd⟩)]; unfold sumT; omega
    · rw [if_neg (fun g => h g.1), if_neg (fun g => h g.1)]
  have hE : sumE a b c d (s + k * 86400) 0 = sumE a b c d s 0 := by unfold sumE; rw [hd, hd2]
  rw [hX, hE] at f2
  rw [e1, f1, f2]
  simp only [k_int, k_anyInt, k_bool, k_str, k_agg, k_tup, k_cons, k_nil, k_bind, ↓c_not, ↓c_bne, ite_cond, Bool.and_eq_true, Bool.or_eq_true, beq_iff_eq, Bool.and_true, decide_eq_true_eq, Bool.false_eq_true, if_true, if_false, bne_self_eq_false, and_self, sp_awake n, beq_self_eq_true, and_self]
  by_cases h : clkOk a b c d
  · have h1 : sumE a b c d s 0 = 0 := by unfold sumE; rw [if_pos h, hd]
    have h2 : sumD a b c d (s + k * 86400) 0 = IntKind.i64.wrap (sumD a b c d s 0 + k) := by
      unfold sumD; rw [if_pos (show sumOk a b c d (s + k * 86400) 0 from ⟨h, hd2⟩), if_pos (show sumOk a b c d s 0 from ⟨h, hd⟩)]
      unfold sumT nan; unfold clkOk at h; rw [IntKind.wrap_i64]; omega
    simp [h1, h2]
  · have h1 : sumE a b c d s 0 = 5 := by unfold sumE; rw [if_neg h]
    simp [h1]

theorem law_ClockHalves (n : Nat) (a b c d p q r s : Int) : CP C (n + 6) F_law08_ClockHalves [clk a b c d, clk p q r s] = some (.bool true) := by
  rw [eq_law08_ClockHalves]
  unfold R_law08_ClockHalves
  rw [sp_clock_Half (n + 2), sp_clock_Half (n + 2)]
  unfold ck
  by_cases h : clkOk a b c d
  · by_cases h2 : clkOk p q r s
    · simp only [h, h2, if_true, k_int, k_anyInt, k_bool, k_str, k_agg, k_tup, k_cons, k_nil, k_bind, ↓c_not, ↓c_bne, ite_cond, Bool.and_eq_true, Bool.or_eq_true, beq_iff_eq, Bool.and_true, decide_eq_true_eq, Bool.false_eq_true, if_true, if_false, bne_self_eq_false, and_self, sp_awake n]
      unfold clkOk at h h2
      have g1 : (a + 11) % 12 + 1 ≥ 1 := by omega
      have g2 : (a + 11) % 12 + 1 ≤ 12 := by omega
      have g3 : Int.tmod ((a + 11) % 12 + 1) 12 = Int.tmod a 12 := by simp only [IntKind.wrap_i64, tdiv_pos, tmod_pos, Int.reduceLT]; omega
      simp only [g1, g2, g3, beq_self_eq_true, if_true]
      by_cases e1 : (a + 11) % 12 + 1 = (p + 11) % 12 + 1
      · have e2 : ((decide (12 ≤ a) == decide (12 ≤ p)) == (a == p)) = true := by
          rw [beq_iff_eq, Bool.eq_iff_iff, beq_iff_eq, beq_iff_eq, decide_eq_decide]; omega
        have e3 : decide (12 ≤ a) = decide (a ≥ 12) := rfl
        simp [e1, e2, e3]
        exact beq_iff_eq.1 e2
      · have e2 : (false == (a == p)) = true := by
          have : a ≠ p := by omega
          simp [this]
        simp [e1, e2]
        omega
    · simp only [h, h2, if_true, if_false, k_int, k_anyInt, k_bool, k_str, k_agg, k_tup, k_cons, k_nil, k_bind, ↓c_not, ↓c_bne, ite_cond, Bool.and_eq_true, Bool.or_eq_true, beq_iff_eq, Bool.and_true, decide_eq_true_eq, Bool.false_eq_true, if_true, if_false, bne_self_eq_false, and_self, sp_awake n]
      rfl
  · simp only [h, if_false, k_int, k_anyInt, k_bool, k_str, k_agg, k_tup, k_cons, k_nil, k_bind, ↓c_not, ↓c_bne, ite_cond, Bool.and_eq_true, Bool.or_eq_true, beq_iff_eq, Bool.and_true, decide_eq_true_eq, Bool.false_eq_true, if_true, if_false, bne_self_eq_false, and_self, sp_awake n]
    rw [if_neg (by decide)]
end Go.Proofs.Ytbpihmcloeegeaa.Sim.S
