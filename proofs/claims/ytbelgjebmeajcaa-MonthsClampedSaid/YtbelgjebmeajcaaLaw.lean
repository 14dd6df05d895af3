/- The laws of months that are added answer true. Condition: none beyond what each theorem says. -/
import Derived.Test.YtbelgjebmeajcaaSpecMonths
set_option linter.unusedSimpArgs false
set_option linter.unusedVariables false
namespace Go.Proofs.Ytbelgjebmeajcaa.Sim.S
open Go Civil

theorem sp_awake (n : Nat) : CP C (n + 6) F_law11_awake [] = some (.bool true) := by
  rw [eq_law11_awake]
  unfold R_law11_awake
  rw [sp_months_Add (n + 1) 2024 1 31 1 0 (by decide), sp_months_Add (n + 1) 2023 1 31 1 1 (by decide), sp_months_Plus n 2024 1 31 0 1 1 0 (by decide), sp_months_Add (n + 1) 9999 12 31 1 1 (by decide), sp_months_Last (n + 1) 2024 2 3]
  rfl

theorem law_MonthsAdds (n : Nat) (y m d x p : Int) (_hy : IntKind.i64.has y) (_hm : IntKind.i64.has m) (_hd : IntKind.i64.has d) (hx : IntKind.i64.has x) (_hp : IntKind.i64.has p) :
    CP C (n + 7) F_law11_MonthsAdds [date y m d, .int .i64 x, .int .i64 p] = some (.bool true) := by
  have h : -9223372036854775808 ≤ x ∧ x ≤ 9223372036854775807 := hx
  rw [eq_law11_MonthsAdds]
  unfold R_law11_MonthsAdds
  rw [sp_months_Add (n + 2) y m d x p h, sp_ref11_Add n y m d x p h, sp_awake n]
  simp only [k_int, k_anyInt, k_bool, k_str, k_agg, k_tup, k_cons, k_nil, k_bind, ↓c_not, ↓c_bne, ite_cond, Bool.and_eq_true, Bool.or_eq_true, beq_iff_eq, Bool.and_true, decide_eq_true_eq, Bool.false_eq_true, if_true, if_false, bne_self_eq_false, and_self, Int.reduceEq, Int.reduceLT, Int.reduceNeg, beq_self_eq_true]

theorem law_MonthsLasts (n : Nat) (y m d : Int) : CP C (n + 7) F_law11_MonthsLasts [date y m d] = some (.bool true) := by
  rw [eq_law11_MonthsLasts]
  unfold R_law11_MonthsLasts
  rw [sp_months_Last (n + 2) y m d, sp_ref06_Check (n + 2), sp_ref06_MonthDays (n + 4), sp_awake n]
  simp only [k_bind, k_tup, k_agg, k_cons, k_int, k_nil, k_bool]
  unfold laE
  by_cases hc : cE y m d = 0
  · rw [hc, if_pos rfl, if_pos rfl, if_pos rfl]
    simp only [k_int, k_anyInt, k_bool, k_str, k_agg, k_tup, k_cons, k_nil, k_bind, ↓c_not, ↓c_bne, ite_cond, Bool.and_eq_true, Bool.or_eq_true, beq_iff_eq, Bool.and_true, decide_eq_true_eq, Bool.false_eq_true, if_true, if_false, bne_self_eq_false, and_self, Int.reduceEq, Int.reduceLT, Int.reduceNeg, beq_self_eq_true, cond_true, cond_false]
  · rw [if_neg hc, if_neg hc, if_neg hc, show (cE y m d != 0) = true from bne_iff_ne.2 hc]
    simp only [k_int, k_anyInt, k_bool, k_str, k_agg, k_tup, k_cons, k_nil, k_bind, ↓c_not, ↓c_bne, ite_cond, Bool.and_eq_true, Bool.or_eq_true, beq_iff_eq, Bool.and_true, decide_eq_true_eq, Bool.false_eq_true, if_true, if_false, bne_self_eq_false, and_self, Int.reduceEq, Int.reduceLT, Int.reduceNeg, beq_self_eq_true, cond_true, cond_false]

theorem ma_back {y m d n : Int} {p : Int} (hp : ¬ (p ≠ 0 ∧ p ≠ 1)) (hd : d ≤ 28) : maE y m d n p = if cE y m d ≠ 0 then cE y m d else if mt y m n / 12 < -9999 ∨ mt y m n / 12 > 9999 then 8 else 0 := by
  by_cases h1 : cE y m d = 0
  · by_cases h2 : mt y m n / 12 < -9999 ∨ mt y m n / 12 > 9999
    · rw [maE_far hp h1 h2, if_neg (show ¬ (cE y m d ≠ 0) by omega), if_pos h2]
    · have := mdays_range (y := mt y m n / 12) (m := mt y m n % 12 + 1) (by omega)
      rw [maE_late hp h1 h2, if_neg (show ¬ (d > mdays (mt y m n / 12) (mt y m n % 12 + 1) ∧ p = 1) by omega), if_neg (show ¬ (cE y m d ≠ 0) by omega), if_neg h2]
  · rw [maE_chk hp h1, if_pos h1]
theorem cE_of_valid {y m d : Int} (h : valid y m d) (hy : -9999 ≤ y ∧ y ≤ 9999) : cE y m d = 0 := cE_zero.2 ⟨h, hy⟩

theorem law_MonthsBack (n : Nat) (y m d x : Int) (_hy : IntKind.i64.has y) (_hm : IntKind.i64.has m) (_hd : IntKind.i64.has d) (hx : IntKind.i64.has x) :
    CP C (n + 7) F_law11_MonthsBack [date y m d, .int .i64 x] = some (.bool true) := by
  have hx' : -9223372036854775808 ≤ x ∧ x ≤ 9223372036854775807 := hx
  rw [eq_law11_MonthsBack]
  unfold R_law11_MonthsBack
  have hD : (if 28 < d then 28 else d) ≤ 28 := by omega
  generalize (if 28 < d then 28 else d) = D at hD ⊢
  have hn : -300000 ≤ Int.tmod x 300000 ∧ Int.tmod x 300000 ≤ 300000 := by simp only [IntKind.wrap_i64, tdiv_pos, tmod_pos, Int.reduceLT]; omega
  generalize Int.tmod x 300000 = t at hn ⊢
  rw [sp_months_Add (n + 2) y m D t 0 (by omega), sp_months_Add (n + 2) y m D t 1 (by omega), sp_awake n]
  have e0 := ma_back (y := y) (m := m) (n := t) (p := 0) (by decide) hD
  have e1 := ma_back (y := y) (m := m) (n := t) (p := 1) (by decide) hD
  by_cases h0 : maE y m D t 0 = 0
  · have h1 : maE y m D t 1 = 0 := by rw [e1, ← e0]; exact h0
    have hc : cE y m D = 0 := by
      by_cases c : cE y m D = 0
      · exact c
      · rw [if_pos c] at e0; omega
    have hf : ¬ (mt y m t / 12 < -9999 ∨ mt y m t / 12 > 9999) := by
      intro c; rw [if_neg (by omega), if_pos c] at e0; omega
    obtain ⟨hv, hy⟩ := cE_zero.1 hc
    have hr := mdays_range (y := mt y m t / 12) (m := mt y m t % 12 + 1) (by omega)
    rw [maV_ok h0, maV_ok h1, if_neg (by omega)]
    simp only [k_bind, k_tup, k_agg, k_cons, k_int, k_nil, k_bool]
    rw [w64 (by omega), sp_months_Add (n + 2) (mt y m t / 12) (mt y m t % 12 + 1) D (0 - t) 1 (by omega)]
    have hb := ma_back (y := mt y m t / 12) (m := mt y m t % 12 + 1) (n := 0 - t) (p := 1) (by decide) hD
    unfold valid at hv
    have hcc : cE (mt y m t / 12) (mt y m t % 12 + 1) D = 0 := cE_of_valid (by unfold valid; omega) (by omega)
    have hmt : mt (mt y m t / 12) (mt y m t % 12 + 1) (0 - t) = 12 * y + m - 1 := by unfold mt; omega
    rw [if_neg (by omega), hmt, if_neg (by omega)] at hb
    have hr2 := mdays_range (y := y) (m := m) (by omega)
    rw [maV_ok hb, hmt, show (12 * y + m - 1) / 12 = y by omega, show (12 * y + m - 1) % 12 + 1 = m by omega, if_neg (by omega)]
    simp only [k_int, k_anyInt, k_bool, k_str, k_agg, k_tup, k_cons, k_nil, k_bind, ↓c_not, ↓c_bne, ite_cond, Bool.and_eq_true, Bool.or_eq_true, beq_iff_eq, Bool.and_true, decide_eq_true_eq, Bool.false_eq_true, if_true, if_false, bne_self_eq_false, and_self, Int.reduceEq, Int.reduceLT, Int.reduceNeg, beq_self_eq_true, cond_true, cond_false]
  · have h1 : maE y m D t 1 = maE y m D t 0 := by rw [e1, ← e0]
    rw [maV_err rfl h0, maV_err h1 h0]
    simp only [k_bind, k_tup, k_agg, k_cons, k_int, k_nil, k_bool, beq_self_eq_true, bne_self_eq_false, Bool.and_self, Bool.not_true, cond_false]
    rw [show (maE y m D t 0 != 0) = true from bne_iff_ne.2 h0, cond_true]

theorem law_MonthsClamped (n : Nat) (y m d x : Int) (_hy : IntKind.i64.has y) (_hm : IntKind.i64.has m) (_hd : IntKind.i64.has d) (hx : IntKind.i64.has x) :
    CP C (n + 7) F_law11_MonthsClamped [date y m d, .int .i64 x] = some (.bool true) := by
  have hx' : -9223372036854775808 ≤ x ∧ x ≤ 9223372036854775807 := hx
  rw [eq_law11_MonthsClamped]
  unfold R_law11_MonthsClamped
  rw [sp_months_Add (n + 2) y m d x 0 hx', sp_months_Add (n + 2) y m d x 1 hx', sp_awake n]
  by_cases h0 : maE y m d x 0 = 0
  · have hc : cE y m d = 0 := by
      by_cases c : cE y m d = 0
      · exact c
      · rw [maE_chk (by decide) c] at h0; omega
    have hf : ¬ (mt y m x / 12 < -9999 ∨ mt y m x / 12 > 9999) := by
      intro c; rw [maE_far (by decide) hc c] at h0; omega
    obtain ⟨hv, hy⟩ := cE_zero.1 hc
    unfold valid at hv
    have h1 := maE_late (d := d) (n := x) (p := 1) (by decide) hc hf
    have hr := mdays_range (y := mt y m x / 12) (m := mt y m x % 12 + 1) (by omega)
    rw [maV_ok h0]
    by_cases g : d > mdays (mt y m x / 12) (mt y m x % 12 + 1)
    · rw [if_pos ⟨g, rfl⟩] at h1
      rw [maV_err h1 (by decide), if_pos g]
      simp only [k_bind, k_tup, k_agg, k_cons, k_int, k_nil, k_bool]
      rw [sp_ref06_MonthDays (n + 4)]
      simp only [k_bind, k_int, k_bool, beq_self_eq_true, bne_self_eq_false, cond_true, cond_false, decide_eq_true g]
    · rw [if_neg (by omega)] at h1
      rw [maV_ok h1, if_neg g]
      simp only [k_bind, k_tup, k_agg, k_cons, k_int, k_nil, k_bool]
      rw [sp_ref06_MonthDays (n + 4)]
      have e : IntKind.i64.wrap (IntKind.i64.wrap (12 * IntKind.i64.wrap (mt y m x / 12 - y)) + (mt y m x % 12 + 1)) = x + m := by
        have hm : mt y m x = 12 * y + m - 1 + x := rfl
        simp (disch := omega) only [w64]
        omega
      simp only [k_bind, k_int, k_bool, beq_self_eq_true, bne_self_eq_false, cond_true, cond_false, decide_eq_false g, Bool.and_self, bnd_eq _ e]
      rw [w64 (by omega), show x + m - m = x by omega, beq_self_eq_true, cond_true]
  · rw [maV_err rfl h0]
    simp only [k_bind, k_tup, k_agg, k_cons, k_int, k_nil, k_bool, beq_self_eq_true, Bool.and_self, cond_true]
    rw [show (maE y m d x 0 != 0) = true from bne_iff_ne.2 h0, cond_true]
end Go.Proofs.Ytbelgjebmeajcaa.Sim.S
