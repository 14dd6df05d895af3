/- What the functions of civil dates answer. Condition: none beyond what each theorem says. -/
import Derived.Test.YtbelgjebmeajcaaRes
import Derived.Test.YtbelgjebmeajcaaSimCivil
set_option linter.unusedSimpArgs false
set_option linter.unusedVariables false
namespace Go.Proofs.Ytbelgjebmeajcaa.Sim.S
open Go Civil

abbrev date (y m d : Int) : AV := .agg [.int .i64 y, .int .i64 m, .int .i64 d]

theorem tm4 (y : Int) : (Int.tmod y 4 == 0) = decide (y % 4 = 0) := by rw [Bool.eq_iff_iff, beq_iff_eq, decide_eq_true_eq]; simp only [IntKind.wrap_i64, tdiv_pos, tmod_pos, Int.reduceLT]; omega
theorem tm100 (y : Int) : (Int.tmod y 100 == 0) = decide (y % 100 = 0) := by rw [Bool.eq_iff_iff, beq_iff_eq, decide_eq_true_eq]; simp only [IntKind.wrap_i64, tdiv_pos, tmod_pos, Int.reduceLT]; omega
theorem tm400 (y : Int) : (Int.tmod y 400 == 0) = decide (y % 400 = 0) := by rw [Bool.eq_iff_iff, beq_iff_eq, decide_eq_true_eq]; simp only [IntKind.wrap_i64, tdiv_pos, tmod_pos, Int.reduceLT]; omega
theorem sp_civil_Leap (n : Nat) (y : Int) : CP C (n + 1) F_civil_Leap [.int .i64 y] = some (.bool (decide (leap y))) := by
  rw [eq_civil_Leap]
  unfold R_civil_Leap
  simp only [↓c_bne, tm4, tm100, tm400, ite_cond, decide_eq_true_eq, i_some, i_int, i_bool, i_agg, i_tup, i_cons, i_self, Option.some.injEq, AV.int.injEq, AV.bool.injEq, AV.agg.injEq, AV.tup.injEq, List.cons.injEq, true_and, and_true]
  rw [Bool.eq_iff_iff, decide_eq_true_eq]
  unfold leap
  repeat' split
  all_goals simp
  all_goals omega
theorem sp_ref06_Leap (n : Nat) (y : Int) : CP C (n + 1) F_ref06_Leap [.int .i64 y] = some (.bool (decide (leap y))) := by
  rw [eq_ref06_Leap]
  unfold R_ref06_Leap
  simp only [↓c_bne, tm4, tm100, tm400, ite_cond, decide_eq_true_eq, i_some, i_int, i_bool, i_agg, i_tup, i_cons, i_self, Option.some.injEq, AV.int.injEq, AV.bool.injEq, AV.agg.injEq, AV.tup.injEq, List.cons.injEq, true_and, and_true]
  rw [Bool.eq_iff_iff, decide_eq_true_eq]
  unfold leap
  repeat' split
  all_goals simp
  all_goals omega
theorem sp_civil_months (n : Nat) : CP C (n + 1) F_civil_months [] = some (.agg [.int .i64 0, .int .i64 31, .int .i64 28, .int .i64 31, .int .i64 30, .int .i64 31, .int .i64 30, .int .i64 31, .int .i64 31, .int .i64 30, .int .i64 31, .int .i64 30, .int .i64 31]) := by
  rw [eq_civil_months]; rfl
theorem md15 (n : Nat) (y m : Int) (h : 1 ≤ m ∧ m ≤ 12) (h2 : m = 2 → ¬ leap y) : J_civil_MonthDays_15 (CP C (n + 1)) (n + 1) m = some (.int .i64 (mdays y m)) := by
  unfold J_civil_MonthDays_15 T_civil_MonthDays_15
  rw [sp_civil_months]
  have : m = 1 ∨ m = 2 ∨ m = 3 ∨ m = 4 ∨ m = 5 ∨ m = 6 ∨ m = 7 ∨ m = 8 ∨ m = 9 ∨ m = 10 ∨ m = 11 ∨ m = 12 := by omega
  rcases this with rfl | rfl | rfl | rfl | rfl | rfl | rfl | rfl | rfl | rfl | rfl | rfl
  case inr.inl =>
    have h3 := h2 rfl
    have h4 : mdays y 2 = 28 := by unfold mdays lp; rw [if_neg h3]; rfl
    rw [h4]; rfl
  all_goals rfl
theorem sp_civil_MonthDays (n : Nat) (y m : Int) : CP C (n + 2) F_civil_MonthDays [.int .i64 y, .int .i64 m] = some (.int .i64 (mdays y m)) := by
  rw [eq_civil_MonthDays]
  unfold R_civil_MonthDays T_civil_MonthDays_1
  have key : ∀ b : Bool, b = decide (m < 1 ∨ m > 12) → J_civil_MonthDays_13 (CP C (n + 1)) (n + 1) y m b = some (.int .i64 (mdays y m)) := by
    intro b hb
    unfold J_civil_MonthDays_13 T_civil_MonthDays_13
    by_cases h : m < 1 ∨ m > 12
    · rw [hb, decide_eq_true h]
      have : mdays y m = 0 := by unfold mdays; omega
      rw [this]; rfl
    · rw [hb, decide_eq_false h, cond_false, sp_civil_Leap]
      by_cases h2 : m = 2
      · subst h2
        by_cases h3 : leap y
        · have h4 : mdays y 2 = 29 := by unfold mdays lp; rw [if_pos h3]; rfl
          simp only [beq_self_eq_true, cond_true, k_bind, k_bool, decide_eq_true h3, h4]
        · simp only [beq_self_eq_true, cond_true, k_bind, k_bool, decide_eq_false h3, cond_false]
          exact md15 n y 2 (by omega) (fun _ => h3)
      · rw [show (m == 2) = false by simpa using h2, cond_false]
        exact md15 n y m (by omega) (fun e => absurd e h2)
  by_cases h : m < 1
  · rw [decide_eq_true h, cond_true]; exact key _ (by simp [h])
  · rw [decide_eq_false h, cond_false]; exact key _ (by simp [h])
theorem sp_ref06_MonthDays (n : Nat) (y m : Int) : CP C (n + 2) F_ref06_MonthDays [.int .i64 y, .int .i64 m] = some (.int .i64 (mdays y m)) := by
  rw [eq_ref06_MonthDays]
  unfold R_ref06_MonthDays
  rw [sp_ref06_Leap]
  simp only [k_int, k_anyInt, k_bool, k_str, k_agg, k_tup, k_cons, k_nil, k_bind, ↓c_not, ↓c_bne, ite_cond, Bool.and_eq_true, Bool.or_eq_true, beq_iff_eq, Bool.and_true, decide_eq_true_eq, Bool.false_eq_true, if_true, if_false, bne_self_eq_false, and_self, Int.reduceEq, Int.reduceLT, Int.reduceNeg, i_some, i_int, i_bool, i_agg, i_tup, i_cons, i_self, Option.some.injEq, AV.int.injEq, AV.bool.injEq, AV.agg.injEq, AV.tup.injEq, List.cons.injEq, true_and, and_true]
  have := lp_eq y
  unfold leap mdays
  omega
theorem sp_floor7 (n : Nat) (a : Int) (h : -9223372036854775808 ≤ a ∧ a ≤ 9223372036854775807) : CP C (n + 1) F_civil_floor [.int .i64 a, .int .i64 7] = some (.tup [.int .i64 (a / 7), .int .i64 (a % 7)]) := by
  rw [eq_civil_floor]
  unfold R_civil_floor
  simp only [k_int, k_anyInt, k_bool, k_str, k_agg, k_tup, k_cons, k_nil, k_bind, ↓c_not, ↓c_bne, ite_cond, Bool.and_eq_true, Bool.or_eq_true, beq_iff_eq, Bool.and_true, decide_eq_true_eq, Bool.false_eq_true, if_true, if_false, bne_self_eq_false, and_self, Int.reduceEq, Int.reduceLT, Int.reduceNeg, IntKind.wrap_i64, tdiv_pos, tmod_pos, Int.reduceLT, i_some, i_int, i_bool, i_agg, i_tup, i_cons, i_self, Option.some.injEq, AV.int.injEq, AV.bool.injEq, AV.agg.injEq, AV.tup.injEq, List.cons.injEq, true_and, and_true]
  omega
theorem sp_floor400 (n : Nat) (a : Int) (h : -1000000000000000000 ≤ a ∧ a ≤ 1000000000000000000) : CP C (n + 1) F_civil_floor [.int .i64 a, .int .i64 400] = some (.tup [.int .i64 (a / 400), .int .i64 (a % 400)]) := by
  rw [eq_civil_floor]
  unfold R_civil_floor
  simp only [k_int, k_anyInt, k_bool, k_str, k_agg, k_tup, k_cons, k_nil, k_bind, ↓c_not, ↓c_bne, ite_cond, Bool.and_eq_true, Bool.or_eq_true, beq_iff_eq, Bool.and_true, decide_eq_true_eq, Bool.false_eq_true, if_true, if_false, bne_self_eq_false, and_self, Int.reduceEq, Int.reduceLT, Int.reduceNeg, IntKind.wrap_i64, tdiv_pos, tmod_pos, Int.reduceLT, i_some, i_int, i_bool, i_agg, i_tup, i_cons, i_self, Option.some.injEq, AV.int.injEq, AV.bool.injEq, AV.agg.injEq, AV.tup.injEq, List.cons.injEq, true_and, and_true]
  omega
theorem sp_floor146097 (n : Nat) (a : Int) (h : -1000000000000000000 ≤ a ∧ a ≤ 1000000000000000000) : CP C (n + 1) F_civil_floor [.int .i64 a, .int .i64 146097] = some (.tup [.int .i64 (a / 146097), .int .i64 (a % 146097)]) := by
  rw [eq_civil_floor]
  unfold R_civil_floor
  simp only [k_int, k_anyInt, k_bool, k_str, k_agg, k_tup, k_cons, k_nil, k_bind, ↓c_not, ↓c_bne, ite_cond, Bool.and_eq_true, Bool.or_eq_true, beq_iff_eq, Bool.and_true, decide_eq_true_eq, Bool.false_eq_true, if_true, if_false, bne_self_eq_false, and_self, Int.reduceEq, Int.reduceLT, Int.reduceNeg, IntKind.wrap_i64, tdiv_pos, tmod_pos, Int.reduceLT, i_some, i_int, i_bool, i_agg, i_tup, i_cons, i_self, Option.some.injEq, AV.int.injEq, AV.bool.injEq, AV.agg.injEq, AV.tup.injEq, List.cons.injEq, true_and, and_true]
  omega
def minDay : Int := -4371587
def maxDay : Int := 2932896
def inDays (x : Int) : Prop := -4371587 ≤ x ∧ x ≤ 2932896
instance (x : Int) : Decidable (inDays x) := by unfold inDays; infer_instance
/-- What a number's date is: the date and 0, or no date and 8. -/
def gY (x : Int) : Int := if inDays x then dY x else 0
def gM (x : Int) : Int := if inDays x then dM x else 0
def gD (x : Int) : Int := if inDays x then dd x else 0
def gE (x : Int) : Int := if inDays x then 0 else 8
theorem sp_civil_DateOf (n : Nat) (x : Int) : CP C (n + 2) F_civil_DateOf [.int .i64 x] = some (.tup [date (gY x) (gM x) (gD x), .int .i64 (gE x)]) := by
  rw [eq_civil_DateOf]
  unfold R_civil_DateOf gY gM gD gE
  by_cases h : inDays x
  · rw [if_pos h, if_pos h, if_pos h, if_pos h]
    unfold inDays at h
    rw [decide_eq_false (show ¬ x < -4371587 by omega), cond_false, decide_eq_false (show ¬ x > 2932896 by omega), cond_false]
    rw [show IntKind.i64.wrap (x + 719468) = x + 719468 by rw [IntKind.wrap_i64]; omega, sp_floor146097 n _ (by omega)]
    simp only [k_bind, k_tup, k_cons, k_int, k_nil]
    obtain ⟨h1, h2, h3, h4, h5, h6, h7⟩ := parts x
    have hmm : 0 ≤ mm x ∧ mm x ≤ 11 := by unfold mm; omega
    have er : (x + 719468) % 146097 = rr x := rfl
    have eq : (x + 719468) / 146097 = qq x := rfl
    have hq : -100 ≤ qq x ∧ qq x ≤ 100 := by unfold qq; omega
    rw [er, eq]
    rw [bnd_eq _ (show _ = cc x by unfold cc; (first | omega | (simp (disch := omega) only [w64, td_nn, tm_nn] <;> omega)))]
    rw [show IntKind.i64.wrap (rr x - IntKind.i64.wrap (cc x * 36524)) = r1 x by unfold r1; simp only [IntKind.wrap_i64]; omega]
    rw [bnd_eq _ (show _ = ff x by unfold ff; (first | omega | (simp (disch := omega) only [w64, td_nn, tm_nn] <;> omega)))]
    rw [bnd_eq _ (show _ = r2 x by unfold r2; (first | omega | (simp (disch := omega) only [w64, td_nn, tm_nn] <;> omega)))]
    rw [bnd_eq _ (show _ = yy x by unfold yy; (first | omega | (simp (disch := omega) only [w64, td_nn, tm_nn] <;> omega)))]
    rw [show IntKind.i64.wrap (r2 x - IntKind.i64.wrap (yy x * 365)) = r3 x by unfold r3; simp only [IntKind.wrap_i64]; omega]
    rw [bnd_eq _ (show _ = 5 * r3 x by (first | omega | (simp (disch := omega) only [w64, td_nn, tm_nn] <;> omega)))]
    rw [bnd_eq _ (show _ = mm x by unfold mm; (first | omega | (simp (disch := omega) only [w64, td_nn, tm_nn] <;> omega)))]
    rw [bnd_eq _ (show _ = (153 * mm x + 2) / 5 by (first | omega | (simp (disch := omega) only [w64, td_nn, tm_nn] <;> omega)))]
    rw [bnd_eq _ (show _ = r3 x - (153 * mm x + 2) / 5 by (first | omega | (simp (disch := omega) only [w64, td_nn, tm_nn] <;> omega)))]
    rw [bnd_eq _ (show _ = 400 * qq x + 100 * cc x by (first | omega | (simp (disch := omega) only [w64, td_nn, tm_nn] <;> omega)))]
    rw [bnd_eq _ (show _ = ym x by unfold ym; (first | omega | (simp (disch := omega) only [w64, td_nn, tm_nn] <;> omega)))]
    have hy : -100000 ≤ ym x ∧ ym x ≤ 100000 := by unfold ym; omega
    have hd : IntKind.i64.wrap (r3 x - (153 * mm x + 2) / 5 + 1) = dd x := by unfold dd; rw [IntKind.wrap_i64]; omega
    have hM : IntKind.i64.wrap (mm x + 3) = mm x + 3 := by rw [IntKind.wrap_i64]; omega
    rw [hd, hM]
    unfold dM dY
    by_cases g : mm x + 3 > 12
    · rw [decide_eq_true g, cond_true, if_pos g, if_pos g]
      rw [show IntKind.i64.wrap (ym x + 1) = ym x + 1 by rw [IntKind.wrap_i64]; omega, show IntKind.i64.wrap (mm x + 3 - 12) = mm x + 3 - 12 by rw [IntKind.wrap_i64]; omega]
    · rw [decide_eq_false g, cond_false, if_neg g, if_neg g]
  · rw [if_neg h, if_neg h, if_neg h, if_neg h]
    unfold inDays at h
    by_cases h1 : x < -4371587
    · rw [decide_eq_true h1, cond_true]
    · rw [decide_eq_false h1, cond_false, decide_eq_true (show x > 2932896 by omega), cond_true]
theorem sp_civil_number (n : Nat) (y m d : Int) (hy : -1000000 ≤ y ∧ y ≤ 1000000) (hm : 1 ≤ m ∧ m ≤ 12) (hd : -1000000000 ≤ d ∧ d ≤ 1000000000) :
    CP C (n + 2) F_civil_number [.int .i64 y, .int .i64 m, .int .i64 d] = some (.int .i64 (num y m d)) := by
  rw [eq_civil_number]
  have key : ∀ Y M : Int, (-1000001 ≤ Y ∧ Y ≤ 1000000) → (0 ≤ M ∧ M ≤ 11) → ∀ b : Int, IntKind.i64.wrap (Int.tdiv (IntKind.i64.wrap (14 - m)) 12) = b → y - b = Y → m + 12 * b - 3 = M → (0 ≤ b ∧ b ≤ 1) →
      R_civil_number (CP C (n + 1)) (n + 1) y m d = some (.int .i64 (mnum Y M d)) := by
    intro Y M hY hM b e1 e2 e3 hb
    unfold R_civil_number
    rw [bnd_eq _ e1, show IntKind.i64.wrap (y - b) = Y by rw [IntKind.wrap_i64]; omega, sp_floor400 n _ (by omega)]
    simp only [k_bind, k_tup, k_cons, k_int, k_nil]
    rw [bnd_eq _ (show _ = M by (first | omega | (simp (disch := omega) only [w64, td_nn, tm_nn] <;> omega)))]
    rw [bnd_eq _ (show _ = (153 * M + 2) / 5 by (first | omega | (simp (disch := omega) only [w64, td_nn, tm_nn] <;> omega)))]
    rw [bnd_eq _ (show _ = Y / 400 * 146097 + Y % 400 * 365 by (first | omega | (simp (disch := omega) only [w64, td_nn, tm_nn] <;> omega)))]
    rw [bnd_eq _ (show _ = Y / 400 * 146097 + Y % 400 * 365 + Y % 400 / 4 by (first | omega | (simp (disch := omega) only [w64, td_nn, tm_nn] <;> omega)))]
    rw [bnd_eq _ (show _ = Y / 400 * 146097 + Y % 400 * 365 + Y % 400 / 4 - Y % 400 / 100 by (first | omega | (simp (disch := omega) only [w64, td_nn, tm_nn] <;> omega)))]
    rw [bnd_eq _ (show _ = Y / 400 * 146097 + Y % 400 * 365 + Y % 400 / 4 - Y % 400 / 100 + ((153 * M + 2) / 5 + d - 1) by (first | omega | (simp (disch := omega) only [w64, td_nn, tm_nn] <;> omega)))]
    unfold mnum
    rw [show IntKind.i64.wrap (Y / 400 * 146097 + Y % 400 * 365 + Y % 400 / 4 - Y % 400 / 100 + ((153 * M + 2) / 5 + d - 1) - 719468) = Y / 400 * 146097 + Y % 400 * 365 + Y % 400 / 4 - Y % 400 / 100 + (153 * M + 2) / 5 + d - 1 - 719468 by rw [IntKind.wrap_i64]; omega]
  by_cases h : 3 ≤ m
  · rw [num_march ⟨h, hm.2⟩]
    exact key y (m - 3) (by omega) (by omega) 0 (by (first | omega | (simp (disch := omega) only [w64, td_nn, tm_nn] <;> omega))) (by omega) (by omega) (by omega)
  · rw [num_jan (show 1 ≤ m ∧ m ≤ 2 by omega)]
    exact key (y - 1) (m + 9) (by omega) (by omega) 1 (by (first | omega | (simp (disch := omega) only [w64, td_nn, tm_nn] <;> omega))) (by omega) (by omega) (by omega)
def wday (x : Int) : Int := (x % 7 + 3) % 7 + 1
def cE (y m d : Int) : Int := if d < 1 ∨ d > mdays y m then 7 else if y < -9999 ∨ y > 9999 then 8 else 0
theorem cE_zero {y m d : Int} : cE y m d = 0 ↔ valid y m d ∧ (-9999 ≤ y ∧ y ≤ 9999) := by
  have h := mdays_le y m
  have h2 : mdays y m = 0 ∨ (1 ≤ m ∧ m ≤ 12) := by unfold mdays; omega
  unfold cE valid
  omega
theorem num_bound {y m d : Int} (hv : valid y m d) (hy : -9999 ≤ y ∧ y ≤ 9999) : -4371587 ≤ num y m d ∧ num y m d ≤ 2932896 := by
  obtain ⟨h1, h2⟩ := num_in_year hv
  have e1 : jan1 (-9999) = -4371587 := by decide
  have e2 : jan1 10000 = 2932897 := by decide
  have h3 := jan1_mono hy.1
  have h4 := jan1_mono (show y + 1 ≤ 10000 by omega)
  omega
theorem sp_civil_Check (n : Nat) (y m d : Int) : CP C (n + 3) F_civil_Check [date y m d] = some (.int .i64 (cE y m d)) := by
  rw [eq_civil_Check]
  unfold R_civil_Check
  rw [sp_civil_MonthDays]
  unfold cE
  simp only [k_int, k_anyInt, k_bool, k_str, k_agg, k_tup, k_cons, k_nil, k_bind, ↓c_not, ↓c_bne, ite_cond, Bool.and_eq_true, Bool.or_eq_true, beq_iff_eq, Bool.and_true, decide_eq_true_eq, Bool.false_eq_true, if_true, if_false, bne_self_eq_false, and_self, Int.reduceEq, Int.reduceLT, Int.reduceNeg, i_some, i_int, i_bool, i_agg, i_tup, i_cons, i_self, Option.some.injEq, AV.int.injEq, AV.bool.injEq, AV.agg.injEq, AV.tup.injEq, List.cons.injEq, true_and, and_true]
  have := mdays_le y m
  omega
def nE (y m d : Int) : Int := if cE y m d = 0 then num y m d else 0
theorem sp_civil_Days (n : Nat) (y m d : Int) : CP C (n + 4) F_civil_Days [date y m d] = some (.tup [.int .i64 (nE y m d), .int .i64 (cE y m d)]) := by
  rw [eq_civil_Days]
  unfold R_civil_Days
  rw [sp_civil_Check]
  simp only [k_int, k_anyInt, k_bool, k_str, k_agg, k_tup, k_cons, k_nil, k_bind, ↓c_not, ↓c_bne, ite_cond, Bool.and_eq_true, Bool.or_eq_true, beq_iff_eq, Bool.and_true, decide_eq_true_eq, Bool.false_eq_true, if_true, if_false, bne_self_eq_false, and_self, Int.reduceEq, Int.reduceLT, Int.reduceNeg]
  unfold nE
  by_cases h : cE y m d = 0
  · obtain ⟨hv, hy⟩ := cE_zero.1 h
    rw [if_pos h, if_pos h, sp_civil_number (n + 1) y m d (by omega) hv.1 (by have := hv.2; have := mdays_le y m; omega)]
    simp only [k_int, k_anyInt, k_bool, k_str, k_agg, k_tup, k_cons, k_nil, k_bind, ↓c_not, ↓c_bne, ite_cond, Bool.and_eq_true, Bool.or_eq_true, beq_iff_eq, Bool.and_true, decide_eq_true_eq, Bool.false_eq_true, if_true, if_false, bne_self_eq_false, and_self, Int.reduceEq, Int.reduceLT, Int.reduceNeg, h]
  · rw [if_neg h, if_neg h]
theorem jan1_num (y : Int) : num y 1 1 = jan1 y := by unfold num; rw [cum_1]; omega
theorem jan1_bound {y : Int} (hy : -1000000 ≤ y ∧ y ≤ 1000000) : -400000000 ≤ jan1 y ∧ jan1 y ≤ 400000000 := by unfold jan1; omega
def oE (y k : Int) : Int := if k < 1 ∨ k > ydays y then 7 else if y < -9999 ∨ y > 9999 then 8 else 0
def oY (y k : Int) : Int := if oE y k = 0 then dY (jan1 y + k - 1) else 0
def oM (y k : Int) : Int := if oE y k = 0 then dM (jan1 y + k - 1) else 0
def oD (y k : Int) : Int := if oE y k = 0 then dd (jan1 y + k - 1) else 0
theorem oE_in {y k : Int} (h : oE y k = 0) : (1 ≤ k ∧ k ≤ ydays y) ∧ (-9999 ≤ y ∧ y ≤ 9999) ∧ inDays (jan1 y + k - 1) := by
  have h0 : (1 ≤ k ∧ k ≤ ydays y) ∧ (-9999 ≤ y ∧ y ≤ 9999) := by unfold oE at h; omega
  refine ⟨h0.1, h0.2, ?_⟩
  have e1 : jan1 (-9999) = -4371587 := by decide
  have e2 : jan1 10000 = 2932897 := by decide
  have h3 := jan1_mono h0.2.1
  have h4 := jan1_mono (show y + 1 ≤ 10000 by omega)
  rw [jan1_succ] at h4
  unfold inDays
  omega
theorem ydays_range (y : Int) : 365 ≤ ydays y ∧ ydays y ≤ 366 := by have := lp_range y; unfold ydays; omega
theorem jan1_400 (y : Int) : jan1 (y + 400) = jan1 y + 146097 := by unfold jan1; omega
theorem jan1_b {y : Int} (h : -30000 ≤ y ∧ y ≤ 30000) : -12000000 ≤ jan1 y ∧ jan1 y ≤ 12000000 := by unfold jan1; omega
/-- The date of a number, as a call's answer. -/
abbrev dateV (x : Int) : AV := .tup [date (dY x) (dM x) (dd x), .int .i64 0]
theorem sp_ref06_May (n : Nat) (y m d : Int) : CP C (n + 3) F_ref06_May [date y m d] = some (.bool (decide (1 ≤ d ∧ d ≤ mdays y m))) := by
  rw [eq_ref06_May]
  unfold R_ref06_May
  rw [sp_ref06_MonthDays]
  by_cases h : d ≥ 1
  · simp [h, k_bind, k_int, show 1 ≤ d from h]
  · simp [h, show ¬ 1 ≤ d from h]
theorem sp_ref06_Check (n : Nat) (y m d : Int) : CP C (n + 4) F_ref06_Check [date y m d] = some (.int .i64 (cE y m d)) := by
  rw [eq_ref06_Check]
  unfold R_ref06_Check
  rw [sp_ref06_May]
  unfold cE
  simp only [k_int, k_anyInt, k_bool, k_str, k_agg, k_tup, k_cons, k_nil, k_bind, ↓c_not, ↓c_bne, ite_cond, Bool.and_eq_true, Bool.or_eq_true, beq_iff_eq, Bool.and_true, decide_eq_true_eq, Bool.false_eq_true, if_true, if_false, bne_self_eq_false, and_self, Int.reduceEq, Int.reduceLT, Int.reduceNeg, i_some, i_int, i_bool, i_agg, i_tup, i_cons, i_self, Option.some.injEq, AV.int.injEq, AV.bool.injEq, AV.agg.injEq, AV.tup.injEq, List.cons.injEq, true_and, and_true]
  omega
def uE (y m d : Int) : Int := if cE y m d = 0 then num y m d - jan1 y + 1 else 0
end Go.Proofs.Ytbelgjebmeajcaa.Sim.S
