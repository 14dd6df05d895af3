/- What the functions of civil dates answer. Condition: none beyond what each theorem says. -/
import Derived.Test.YtceigcoipifloaaRes
import Derived.Test.YtceigcoipifloaaSimCivil
set_option linter.unusedSimpArgs false
set_option linter.unusedVariables false
namespace Go.Proofs.Ytceigcoipifloaa.Sim.S
open Go Civil

abbrev date (y m d : Int) : AV := .agg [.int .i64 y, .int .i64 m, .int .i64 d]

theorem tm4 (y : Int) : (Int.tmod y 4 == 0) = decide (y % 4 = 0) := by rw [Bool.eq_iff_iff, beq_iff_eq, decide_eq_true_eq]; simp only [IntKind.wrap_i64, tdiv_pos, tmod_pos, Int.reduceLT]; omega
theorem tm100 (y : Int) : (Int.tmod y 100 == 0) = decide (y % 100 = 0) := by rw [Bool.eq_iff_iff, beq_iff_eq, decide_eq_true_eq]; simp only [IntKind.wrap_i64, tdiv_pos, tmod_pos, Int.reduceLT]; omega
theorem tm400 (y : Int) : (Int.tmod y 400 == 0) = decide (y % 400 = 0) := by rw [Bool.eq_iff_iff, beq_iff_eq, decide_eq_true_eq]; simp only [IntKind.wrap_i64, tdiv_pos, tmod_pos, Int.reduceLT]; omega
theorem sp_civil_Leap (n : Nat) (y : Int) : CP C (n + 1) F_civil_Leap [.int .i64 y] = some (.bool (decide (leap y))) := by
  rw [eq_civil_Leap]
  unfold R_civil_Leap
  simp only [↓c_bne, tm4, tm100, tm400, ite_cond, decide_eq_true_eq, i_some, i_int, i_bool, i_agg, i_tup, i_cons, i_self, Option.some.injEq, AV.int.injEq, AV.bool.injEq, AV.agg.injEq, AV.tup.injEq, List.cons.injEq, true_and, and_true]
  rw [Bool.eq_iff_iff, decide_eq_true_eq]
  unfold leap
  repeat' split
  all_goals simp
  all_goals omega
theorem sp_ref06_Leap (n : Nat) (y : Int) : CP C (n + 1) F_ref06_Leap [.int .i64 y] = some (.bool (decide (leap y))) := by
  rw [eq_ref06_Leap]
  unfold R_ref06_Leap
  simp only [↓c_bne, tm4, tm100, tm400, ite_cond, decide_eq_true_eq, i_some, i_int, i_bool, i_agg, i_tup, i_cons, i_self, Option.some.injEq, AV.int.injEq, AV.bool.injEq, AV.agg.injEq, AV.tup.injEq, List.cons.injEq, true_and, and_true]
  rw [Bool.eq_iff_iff, decide_eq_true_eq]
  unfold leap
  repeat' split
  all_goals simp
  all_goals omega
theorem sp_civil_months (n : Nat) : CP C (n + 1) F_civil_months [] = some (.agg [.int .i64 0, .int .i64 31, .int .i64 28, .int .i64 31, .int .i64 30, .int .i64 31, .int .i64 30, .int .i64 31, .int .i64 31, .int .i64 30, .int .i64 31, .int .i64 30, .int .i64 31]) := by
  rw [eq_civil_months]; rfl
theorem md15 (n : Nat) (y m : Int) (h : 1 ≤ m ∧ m ≤ 12) (h2 : m = 2 → ¬ leap y) : J_civil_MonthDays_15 (CP C (n + 1)) (n + 1) m = some (.int .i64 (mdays y m)) := by
  unfold J_civil_MonthDays_15 T_civil_MonthDays_15
  rw [sp_civil_months]
  have : m = 1 ∨ m = 2 ∨ m = 3 ∨ m = 4 ∨ m = 5 ∨ m = 6 ∨ m = 7 ∨ m = 8 ∨ m = 9 ∨ m = 10 ∨ m = 11 ∨ m = 12 := by omega
  rcases this with rfl | rfl | rfl | rfl | rfl | rfl | rfl | rfl | rfl | rfl | rfl | rfl
  case inr.inl =>
    have h3 := h2 rfl
    have h4 : mdays y 2 = 28 := by unfold mdays lp; rw [if_neg h3]; rfl
    rw [h4]; rfl
  all_goals rfl
theorem sp_civil_MonthDays (n : Nat) (y m : Int) : CP C (n + 2) F_civil_MonthDays [.int .i64 y, .int .i64 m] = some (.int .i64 (mdays y m)) := by
  rw [eq_civil_MonthDays]
  unfold R_civil_MonthDays T_civil_MonthDays_1
  have key : ∀ b : Bool, b = decide (m < 1 ∨ m > 12) → J_civil_MonthDays_13 (CP C (n + 1)) (n + 1) y m b = some (.int .i64 (mdays y m)) := by
    intro b hb
    unfold J_civil_MonthDays_13 T_civil_MonthDays_13
    by_cases h : m < 1 ∨ m > 12
    · rw [hb, decide_eq_true h]
      have : mdays y m = 0 := by unfold mdays; omega
      rw [this]; rfl
    · rw [hb, decide_eq_false h, cond_false, sp_civil_Leap]
      by_cases h2 : m = 2
      · subst h2
        by_cases h3 : leap y
        · have h4 : mdays y 2 = 29 := by unfold mdays lp; rw [if_pos h3]; rfl
          simp only [beq_self_eq_true, cond_true, k_bind, k_bool, decide_eq_true h3, h4]
        · simp only [beq_self_eq_true, cond_true, k_bind, k_bool, decide_eq_false h3, cond_false]
          exact md15 n y 2 (by omega) (fun _ => h3)
      · rw [show (m == 2) = false by simpa using h2, cond_false]
        exact md15 n y m (by omega) (fun e => absurd e h2)
  by_cases h : m < 1
  · rw [decide_eq_true h, cond_true]; exact key _ (by simp [h])
  · rw [decide_eq_false h, cond_false]; exact key _ (by simp [h])
theorem sp_ref06_MonthDays (n : Nat) (y m : Int) : CP C (n + 2) F_ref06_MonthDays [.int .i64 y, .int .i64 m] = some (.int .i64 (mdays y m)) := by
  rw [eq_ref06_MonthDays]
  unfold R_ref06_MonthDays
  rw [sp_ref06_Leap]
  simp only [k_int, k_anyInt, k_bool, k_str, k_agg, k_tup, k_cons, k_nil, k_bind, ↓c_not, ↓c_bne, ite_cond, Bool.and_eq_true, Bool.or_eq_true, beq_iff_eq, Bool.and_true, decide_eq_true_eq, Bool.false_eq_true, if_true, if_false, bne_self_eq_false, and_self, Int.reduceEq, Int.reduceLT, Int.reduceNeg, i_some, i_int, i_bool, i_agg, i_tup, i_cons, i_self, Option.some.injEq, AV.int.injEq, AV.bool.injEq, AV.agg.injEq, AV.tup.injEq, List.cons.injEq, true_and, and_true]
  have := lp_eq y
  unfold leap mdays
  omega
theorem sp_floor7 (n : Nat) (a : Int) (h : -9223372036854775808 ≤ a ∧ a ≤ 9223372036854775807) : CP C (n + 1) F_civil_floor [.int .i64 a, .int .i64 7] = some (.tup [.int .i64 (a / 7), .int .i64 (a % 7)]) := by
  rw [eq_civil_floor]
  unfold R_civil_floor
  simp only [k_int, k_anyInt, k_bool, k_str, k_agg, k_tup, k_cons, k_nil, k_bind, ↓c_not, ↓c_bne, ite_cond, Bool.and_eq_true, Bool.or_eq_true, beq_iff_eq, Bool.and_true, decide_eq_true_eq, Bool.false_eq_true, if_true, if_false, bne_self_eq_false, and_self, Int.reduceEq, Int.reduceLT, Int.reduceNeg, IntKind.wrap_i64, tdiv_pos, tmod_pos, Int.reduceLT, i_some, i_int, i_bool, i_agg, i_tup, i_cons, i_self, Option.some.injEq, AV.int.injEq, AV.bool.injEq, AV.agg.injEq, AV.tup.injEq, List.cons.injEq, true_and, and_true]
  omega
theorem sp_floor400 (n : Nat) (a : Int) (h : -1000000000000000000 ≤ a ∧ a ≤ 1000000000000000000) : CP C (n + 1) F_civil_floor [.int .i64 a, .int .i64 400] = some (.tup [.int .i64 (a / 400), .int .i64 (a % 400)]) := by
  rw [eq_civil_floor]
  unfold R_civil_floor
  simp only [k_int, k_anyInt, k_bool, k_str, k_agg, k_tup, k_cons, k_nil, k_bind, ↓c_not, ↓c_bne, ite_cond, Bool.and_eq_true, Bool.or_eq_true, beq_iff_eq, Bool.and_true, decide_eq_true_eq, Bool.false_eq_true, if_true, if_false, bne_self_eq_false, and_self, Int.reduceEq, Int.reduceLT, Int.reduceNeg, IntKind.wrap_i64, tdiv_pos, tmod_pos, Int.reduceLT, i_some, i_int, i_bool, i_agg, i_tup, i_cons, i_self, Option.some.injEq, AV.int.injEq, AV.bool.injEq, AV.agg.injEq, AV.tup.injEq, List.cons.injEq, true_and, and_true]
  omega
theorem sp_floor146097 (n : Nat) (a : Int) (h : -1000000000000000000 ≤ a ∧ a ≤ 1000000000000000000) : CP C (n + 1) F_civil_floor [.int .i64 a, .int .i64 146097] = some (.tup [.int .i64 (a / 146097), .int .i64 (a % 146097)]) := by
  rw [eq_civil_floor]
  unfold R_civil_floor
  simp only [k_int, k_anyInt, k_bool, k_str, k_agg, k_tup, k_cons, k_nil, k_bind, ↓c_not, ↓c_bne, ite_cond, Bool.and_eq_true, Bool.or_eq_true, beq_iff_eq, Bool.and_true, decide_eq_true_eq, Bool.false_eq_true, if_true, if_false, bne_self_eq_false, and_self, Int.reduceEq, Int.reduceLT, Int.reduceNeg, IntKind.wrap_i64, tdiv_pos, tmod_pos, Int.reduceLT, i_some, i_int, i_bool, i_agg, i_tup, i_cons, i_self, Option.some.injEq, AV.int.injEq, AV.bool.injEq, AV.agg.injEq, AV.tup.injEq, List.cons.injEq, true_and, and_true]
  omega
def minDay : Int := -4371587
def maxDay : Int := 2932896
def inDays (x : Int) : Prop := -4371587 ≤ x ∧ x ≤ 2932896
instance (x : Int) : Decidable (inDays x) := by unfold inDays; infer_instance
/-- What a number's date is: the date and 0, or no date and 8. -/
def gY (x : Int) : Int := if inDays x then dY x else 0
def gM (x : Int) : Int := if inDays x then dM x else 0
def gD (x : Int) : Int := if inDays x then dd x else 0
def gE (x : Int) : Int := if inDays x then 0 else 8
theorem sp_civil_number (n : Nat) (y m d : Int) (hy : -1000000 ≤ y ∧ y ≤ 1000000) (hm : 1 ≤ m ∧ m ≤ 12) (hd : -1000000000 ≤ d ∧ d ≤ 1000000000) :
    CP C (n + 2) F_civil_number [.int .i64 y, .int .i64 m, .int .i64 d] = some (.int .i64 (num y m d)) := by
  rw [eq_civil_number]
  have key : ∀ Y M : Int, (-1000001 ≤ Y ∧ Y ≤ 1000000) → (0 ≤ M ∧ M ≤ 11) → ∀ b : Int, IntKind.i64.wrap (Int.tdiv (IntKind.i64.wrap (14 - m)) 12) = b → y - b = Y → m + 12 * b - 3 = M → (0 ≤ b ∧ b ≤ 1) →
      R_civil_number (CP C (n + 1)) (n + 1) y m d = some (.int .i64 (mnum Y M d)) := by
    intro Y M hY hM b e1 e2 e3 hb
    unfold R_civil_number
    rw [bnd_eq _ e1, show IntKind.i64.wrap (y - b) = Y by rw [IntKind.wrap_i64]; omega, sp_floor400 n _ (by omega)]
    simp only [k_bind, k_tup, k_cons, k_int, k_nil]
    rw [bnd_eq _ (show _ = M by (first | omega | (simp (disch := omega) only [w64, td_nn, tm_nn] <;> omega)))]
    rw [bnd_eq _ (show _ = (153 * M + 2) / 5 by (first | omega | (simp (disch := omega) only [w64, td_nn, tm_nn] <;> omega)))]
    rw [bnd_eq _ (show _ = Y / 400 * 146097 + Y % 400 * 365 by (first | omega | (simp (disch := omega) only [w64, td_nn, tm_nn] <;> omega)))]
    rw [bnd_eq _ (show _ = Y / 400 * 146097 + Y % 400 * 365 + Y % 400 / 4 by (first | omega | (simp (disch := omega) only [w64, td_nn, tm_nn] <;> omega)))]
    rw [bnd_eq _ (show _ = Y / 400 * 146097 + Y % 400 * 365 + Y % 400 / 4 - Y % 400 / 100 by (first | omega | (simp (disch := omega) only [w64, td_nn, tm_nn] <;> omega)))]
    rw [bnd_eq _ (show _ = Y / 400 * 146097 + Y % 400 * 365 + Y % 400 / 4 - Y % 400 / 100 + ((153 * M + 2) / 5 + d - 1) by (first | omega | (simp (disch := omega) only [w64, td_nn, tm_nn] <;> omega)))]
    unfold mnum
    rw [show IntKind.i64.wrap (Y / 400 * 146097 + Y % 400 * 365 + Y % 400 / 4 - Y % 400 / 100 + ((153 * M + 2) / 5 + d - 1) - 719468) = Y / 400 * 146097 + Y % 400 * 365 + Y % 400 / 4 - Y % 400 / 100 + (153 * M + 2) / 5 + d - 1 - 719468 by rw [IntKind.wrap_i64]; omega]
  by_cases h : 3 ≤ m
  · rw [num_march ⟨h, hm.2⟩]
    exact key y (m - 3) (by omega) (by omega) 0 (by (first | omega | (simp (disch := omega) only [w64, td_nn, tm_nn] <;> omega))) (by omega) (by omega) (by omega)
  · rw [num_jan (show 1 ≤ m ∧ m ≤ 2 by omega)]
    exact key (y - 1) (m + 9) (by omega) (by omega) 1 (by (first | omega | (simp (disch := omega) only [w64, td_nn, tm_nn] <;> omega))) (by omega) (by omega) (by omega)
def wday (x : Int) : Int := (x % 7 + 3) % 7 + 1
def cE (y m d : Int) : Int := if d < 1 ∨ d > mdays y m then 7 else if y < -9999 ∨ y > 9999 then 8 else 0
theorem cE_zero {y m d : Int} : cE y m d = 0 ↔ valid y m d ∧ (-9999 ≤ y ∧ y ≤ 9999) := by
  have h := mdays_le y m
  have h2 : mdays y m = 0 ∨ (1 ≤ m ∧ m ≤ 12) := by unfold mdays; omega
  unfold cE valid
  omega
theorem num_bound {y m d : Int} (hv : valid y m d) (hy : -9999 ≤ y ∧ y ≤ 9999) : -4371587 ≤ num y m d ∧ num y m d ≤ 2932896 := by
  obtain ⟨h1, h2⟩ := num_in_year hv
  have e1 : jan1 (-9999) = -4371587 := by decide
  have e2 : jan1 10000 = 2932897 := by decide
  have h3 := jan1_mono hy.1
  have h4 := jan1_mono (show y + 1 ≤ 10000 by omega)
  omega
theorem sp_civil_Check (n : Nat) (y m d : Int) : CP C (n + 3) F_civil_Check [date y m d] = some (.int .i64 (cE y m d)) := by
  rw [eq_civil_Check]
  unfold R_civil_Check
  rw [sp_civil_MonthDays]
  unfold cE
  simp only [k_int, k_anyInt, k_bool, k_str, k_agg, k_tup, k_cons, k_nil, k_bind, ↓c_not, ↓c_bne, ite_cond, Bool.and_eq_true, Bool.or_eq_true, beq_iff_eq, Bool.and_true, decide_eq_true_eq, Bool.false_eq_true, if_true, if_false, bne_self_eq_false, and_self, Int.reduceEq, Int.reduceLT, Int.reduceNeg, i_some, i_int, i_bool, i_agg, i_tup, i_cons, i_self, Option.some.injEq, AV.int.injEq, AV.bool.injEq, AV.agg.injEq, AV.tup.injEq, List.cons.injEq, true_and, and_true]
  have := mdays_le y m
  omega
def nE (y m d : Int) : Int := if cE y m d = 0 then num y m d else 0
theorem sp_civil_Days (n : Nat) (y m d : Int) : CP C (n + 4) F_civil_Days [date y m d] = some (.tup [.int .i64 (nE y m d), .int .i64 (cE y m d)]) := by
  rw [eq_civil_Days]
  unfold R_civil_Days
  rw [sp_civil_Check]
  simp only [k_int, k_anyInt, k_bool, k_str, k_agg, k_tup, k_cons, k_nil, k_bind, ↓c_not, ↓c_bne, ite_cond, Bool.and_eq_true, Bool.or_eq_true, beq_iff_eq, Bool.and_true, decide_eq_true_eq, Bool.false_eq_true, if_true, if_false, bne_self_eq_false, and_self, Int.reduceEq, Int.reduceLT, Int.reduceNeg]
  unfold nE
  by_cases h : cE y m d = 0
  · obtain ⟨hv, hy⟩ := cE_zero.1 h
    rw [if_pos h, if_pos h, sp_civil_number (n + 1) y m d (by omega) hv.1 (by have := hv.2; have := mdays_le y m; omega)]
    simp only [k_int, k_anyInt, k_bool, k_str, k_agg, k_tup, k_cons, k_nil, k_bind, ↓c_not, ↓c_bne, ite_cond, Bool.and_eq_true, Bool.or_eq_true, beq_iff_eq, Bool.and_true, decide_eq_true_eq, Bool.false_eq_true, if_true, if_false, bne_self_eq_false, and_self, Int.reduceEq, Int.reduceLT, Int.reduceNeg, h]
  · rw [if_neg h, if_neg h]
theorem jan1_num (y : Int) : num y 1 1 = jan1 y := by unfold num; rw [cum_1]; omega
theorem jan1_bound {y : Int} (hy : -1000000 ≤ y ∧ y ≤ 1000000) : -400000000 ≤ jan1 y ∧ jan1 y ≤ 400000000 := by unfold jan1; omega
def oE (y k : Int) : Int := if k < 1 ∨ k > ydays y then 7 else if y < -9999 ∨ y > 9999 then 8 else 0
def oY (y k : Int) : Int := if oE y k = 0 then dY (jan1 y + k - 1) else 0
def oM (y k : Int) : Int := if oE y k = 0 then dM (jan1 y + k - 1) else 0
def oD (y k : Int) : Int := if oE y k = 0 then dd (jan1 y + k - 1) else 0
theorem oE_in {y k : Int} (h : oE y k = 0) : (1 ≤ k ∧ k ≤ ydays y) ∧ (-9999 ≤ y ∧ y ≤ 9999) ∧ inDays (jan1 y + k - 1) := by
  have h0 : (1 ≤ k ∧ k ≤ ydays y) ∧ (-9999 ≤ y ∧ y ≤ 9999) := by unfold oE at h; omega
  refine ⟨h0.1, h0.2, ?_⟩
  have e1 : jan1 (-9999) = -4371587 := by decide
  have e2 : jan1 10000 = 2932897 := by decide
  have h3 := jan1_mono h0.2.1
  have h4 := jan1_mono (show y + 1 ≤ 10000 by omega)
  rw [jan1_succ] at h4
  unfold inDays
  omega
theorem ydays_range (y : Int) : 365 ≤ ydays y ∧ ydays y ≤ 366 := by have := lp_range y; unfold ydays; omega
theorem jan1_400 (y : Int) : jan1 (y + 400) = jan1 y + 146097 := by unfold jan1; omega
theorem jan1_b {y : Int} (h : -30000 ≤ y ∧ y ≤ 30000) : -12000000 ≤ jan1 y ∧ jan1 y ≤ 12000000 := by unfold jan1; omega
theorem sp_ref06_YearDays (n : Nat) (y : Int) : CP C (n + 2) F_ref06_YearDays [.int .i64 y] = some (.int .i64 (ydays y)) := by
  rw [eq_ref06_YearDays]
  unfold R_ref06_YearDays
  rw [sp_ref06_Leap]
  have : ydays y = 365 + if leap y then 1 else 0 := rfl
  rw [this]
  simp only [k_int, k_anyInt, k_bool, k_str, k_agg, k_tup, k_cons, k_nil, k_bind, ↓c_not, ↓c_bne, ite_cond, Bool.and_eq_true, Bool.or_eq_true, beq_iff_eq, Bool.and_true, decide_eq_true_eq, Bool.false_eq_true, if_true, if_false, bne_self_eq_false, and_self, Int.reduceEq, Int.reduceLT, Int.reduceNeg]
  by_cases h : leap y <;> simp [h]
theorem start504 (n : Nat) : ∀ (m : Nat) (y z : Int), z ≤ y → y - z < m → -30000 ≤ z → y ≤ 30000 → J_ref06_start_504 (CP C (n + 2)) (n + 2) m y (jan1 z) z = some (.int .i64 (jan1 y))
  | 0, y, z, h1, h2, _, _ => by omega
  | m + 1, y, z, h1, h2, h3, h4 => by
    rw [Js_ref06_start_504]
    unfold T_ref06_start_504
    by_cases g : z < y
    · have hb := jan1_b (show -30000 ≤ z ∧ z ≤ 30000 by omega)
      have hy := ydays_range z
      rw [decide_eq_true g, cond_true, sp_ref06_YearDays]
      simp only [k_bind, k_int]
      rw [w64 (by omega), w64 (by omega), ← jan1_succ]
      exact start504 n m y (z + 1) (by omega) (by omega) (by omega) h4
    · rw [decide_eq_false g, cond_false, show z = y by omega]
theorem start248 (n : Nat) : ∀ (m : Nat) (y z : Int), z - y ≤ 400 * m → y - z < 400 → -20000 ≤ y → y ≤ 20000 → z ≤ 20000 → J_ref06_start_248 (CP C (n + 200)) (n + 200) (m + 1) y (jan1 z) z = some (.int .i64 (jan1 y)) := by
  intro m
  induction m with
  | zero =>
    intro y z h1 h2 h3 h4 h5
    rw [Js_ref06_start_248]
    unfold T_ref06_start_248
    rw [decide_eq_false (show ¬ z > y by omega), cond_false]
    exact start504 (n + 198) _ y z (by omega) (by omega) (by omega) (by omega)
  | succ m ih =>
    intro y z h1 h2 h3 h4 h5
    rw [Js_ref06_start_248]
    unfold T_ref06_start_248
    by_cases g : z > y
    · have hb := jan1_b (show -30000 ≤ z ∧ z ≤ 30000 by omega)
      have h400 := jan1_400 (z - 400)
      rw [Int.sub_add_cancel] at h400
      rw [decide_eq_true g, cond_true, w64 (by omega), w64 (by omega), show jan1 z - 146097 = jan1 (z - 400) by omega]
      exact ih y (z - 400) (by omega) (by omega) h3 h4 (by omega)
    · rw [decide_eq_false g, cond_false]
      exact start504 (n + 198) _ y z (by omega) (by omega) (by omega) (by omega)
theorem start120 (n : Nat) : ∀ (m : Nat) (y z : Int), y - z ≤ 400 * m → z - y ≤ 39600 → -20000 ≤ y → y ≤ 20000 → -20000 ≤ z → z ≤ 20000 → J_ref06_start_120 (CP C (n + 200)) (n + 200) (m + 1) y (jan1 z) z = some (.int .i64 (jan1 y)) := by
  intro m
  induction m with
  | zero =>
    intro y z h1 h2 h3 h4 h5 h6
    rw [Js_ref06_start_120]
    unfold T_ref06_start_120
    rw [w64 (by omega), decide_eq_false (show ¬ z + 400 ≤ y by omega), cond_false, show n + 200 + 300 = (n + 499) + 1 by omega]
    exact start248 n _ y z (by omega) (by omega) (by omega) (by omega) (by omega)
  | succ m ih =>
    intro y z h1 h2 h3 h4 h5 h6
    rw [Js_ref06_start_120]
    unfold T_ref06_start_120
    rw [w64 (by omega)]
    by_cases g : z + 400 ≤ y
    · have hb := jan1_b (show -30000 ≤ z ∧ z ≤ 30000 by omega)
      rw [decide_eq_true g, cond_true, w64 (by omega), ← jan1_400]
      exact ih y (z + 400) (by omega) (by omega) h3 h4 (by omega) (by omega)
    · rw [decide_eq_false g, cond_false, show n + 200 + 300 = (n + 499) + 1 by omega]
      exact start248 n _ y z (by omega) (by omega) (by omega) (by omega) (by omega)
theorem sp_ref06_start (n : Nat) (y : Int) (h : -10000 ≤ y ∧ y ≤ 10000) : CP C (n + 201) F_ref06_start [.int .i64 y] = some (.int .i64 (jan1 y)) := by
  rw [eq_ref06_start]
  unfold R_ref06_start T_ref06_start_1
  have e : (10957 : Int) = jan1 2000 := by decide
  rw [e, show n + 200 + 300 = (n + 499) + 1 by omega]
  exact start120 n _ y 2000 (by omega) (by omega) (by omega) (by omega) (by omega) (by omega)
/-- The date of a number, as a call's answer. -/
abbrev dateV (x : Int) : AV := .tup [date (dY x) (dM x) (dd x), .int .i64 0]
theorem date4088 (n : Nat) : ∀ (f : Nat) (y k m : Int), (1 ≤ m ∧ m ≤ 12) → 0 ≤ k → cum y m + k < ydays y → 13 - m ≤ f → J_ref06_DateOf_4088 (CP C (n + 2)) (n + 2) f y k m = some (dateV (jan1 y + cum y m + k)) := by
  intro f
  induction f with
  | zero => intro y k m h1 h2 h3 h4; omega
  | succ f ih =>
    intro y k m h1 h2 h3 h4
    have hr := ydays_range y
    have hc := cum_nonneg y m
    have hm := mdays_range (y := y) h1
    have hs := cum_succ (y := y) h1
    rw [Js_ref06_DateOf_4088]
    unfold T_ref06_DateOf_4088
    rw [sp_ref06_MonthDays]
    simp only [k_bind, k_int]
    by_cases g : k ≥ mdays y m
    · have hlt : m < 12 := by
        rcases (show m < 12 ∨ m = 12 by omega) with h | h
        · exact h
        · subst h; rw [show (12 : Int) + 1 = 13 by rfl, cum_13] at hs; omega
      rw [decide_eq_true g, cond_true, w64 (by omega), w64 (by omega)]
      rw [ih y (k - mdays y m) (m + 1) (by omega) (by omega) (by omega) (by omega)]
      rw [show jan1 y + cum y (m + 1) + (k - mdays y m) = jan1 y + cum y m + k by omega]
    · rw [decide_eq_false g, cond_false, w64 (by omega)]
      have hv : valid y m (k + 1) := ⟨h1, by omega, by omega⟩
      have hn : num y m (k + 1) = jan1 y + cum y m + k := by unfold num; omega
      obtain ⟨d1, d2⟩ := date_ok (jan1 y + cum y m + k)
      obtain ⟨u1, u2, u3⟩ := unique hv d1 (by rw [d2, hn])
      unfold dateV
      rw [← u1, ← u2, ← u3]
theorem date1016 (n : Nat) : ∀ (g f : Nat) (y k : Int), g ≤ f → 0 ≤ k → k < jan1 (y + g) - jan1 y → (-30000 ≤ y ∧ y + g ≤ 30000) → J_ref06_DateOf_1016 (CP C (n + 2)) (n + 2) f y k = some (dateV (jan1 y + k)) := by
  intro g
  induction g with
  | zero => intro f y k hf h1 h2 h3; simp at h2; omega
  | succ g ih =>
    intro f y k hf h1 h2 h3
    obtain ⟨f, rfl⟩ : ∃ f', f = f' + 1 := ⟨f - 1, by omega⟩
    have hr := ydays_range y
    rw [Js_ref06_DateOf_1016]
    unfold T_ref06_DateOf_1016
    rw [sp_ref06_YearDays]
    simp only [k_bind, k_int]
    have hb := jan1_b (show -30000 ≤ y ∧ y ≤ 30000 by omega)
    have hb2 := jan1_b (show -30000 ≤ y + (g + 1 : Nat) ∧ y + (g + 1 : Nat) ≤ 30000 by omega)
    by_cases gk : k ≥ ydays y
    · rw [decide_eq_true gk, cond_true, w64 (by omega), w64 (by omega)]
      rw [ih f (y + 1) (k - ydays y) (by omega) (by omega) (by rw [show y + 1 + (g : Int) = y + (g + 1 : Nat) by omega, jan1_succ]; omega) (by omega)]
      rw [jan1_succ, show jan1 y + ydays y + (k - ydays y) = jan1 y + k by omega]
    · rw [decide_eq_false gk, cond_false]
      have := date4088 n (n + 2 + 300) y k 1 (by omega) h1 (by rw [cum_1]; omega) (by omega)
      rw [cum_1, Int.add_zero] at this
      exact this
theorem dbase (n : Nat) (y k : Int) (h1 : 0 ≤ k) (h2 : k < 146097) (h3 : -20000 ≤ y ∧ y ≤ 20000) : J_ref06_DateOf_1016 (CP C (n + 200)) (n + 200) (n + 200 + 300) y k = some (dateV (jan1 y + k)) := by
  have h400 := jan1_400 y
  exact date1016 (n + 198) 400 _ y k (by omega) h1 (by show k < jan1 (y + 400) - jan1 y; omega) (by omega)
theorem date504 (n : Nat) : ∀ (m f : Nat) (y k : Int), m < f → 0 ≤ k → k < 146097 * (m + 1) → (-20000 ≤ y ∧ y + 400 * m ≤ 20000) → J_ref06_DateOf_504 (CP C (n + 200)) (n + 200) f y k = some (dateV (jan1 y + k)) := by
  intro m
  induction m with
  | zero =>
    intro f y k hf h1 h2 h3
    obtain ⟨f, rfl⟩ : ∃ f', f = f' + 1 := ⟨f - 1, by omega⟩
    rw [Js_ref06_DateOf_504]
    unfold T_ref06_DateOf_504
    rw [decide_eq_false (show ¬ k ≥ 146097 by omega), cond_false]
    exact dbase n y k h1 (by omega) (by omega)
  | succ m ih =>
    intro f y k hf h1 h2 h3
    obtain ⟨f, rfl⟩ : ∃ f', f = f' + 1 := ⟨f - 1, by omega⟩
    rw [Js_ref06_DateOf_504]
    unfold T_ref06_DateOf_504
    have h400 := jan1_400 y
    by_cases g : k ≥ 146097
    · rw [decide_eq_true g, cond_true, w64 (by omega), w64 (by omega)]
      rw [ih f (y + 400) (k - 146097) (by omega) (by omega) (by omega) (by omega)]
      rw [h400, show jan1 y + 146097 + (k - 146097) = jan1 y + k by omega]
    · rw [decide_eq_false g, cond_false]
      exact dbase n y k h1 (by omega) (by omega)
theorem date248 (n : Nat) : ∀ (m f : Nat) (y k : Int), m < f → -146097 * m ≤ k → k < 146097 * 21 → (-10000 ≤ y - 400 * m ∧ y ≤ 2000) → J_ref06_DateOf_248 (CP C (n + 200)) (n + 200) f y k = some (dateV (jan1 y + k)) := by
  intro m
  induction m with
  | zero =>
    intro f y k hf h1 h2 h3
    obtain ⟨f, rfl⟩ : ∃ f', f = f' + 1 := ⟨f - 1, by omega⟩
    rw [Js_ref06_DateOf_248]
    unfold T_ref06_DateOf_248
    rw [decide_eq_false (show ¬ k < 0 by omega), cond_false]
    exact date504 n 20 _ y k (by omega) (by omega) (by omega) (by omega)
  | succ m ih =>
    intro f y k hf h1 h2 h3
    obtain ⟨f, rfl⟩ : ∃ f', f = f' + 1 := ⟨f - 1, by omega⟩
    rw [Js_ref06_DateOf_248]
    unfold T_ref06_DateOf_248
    have h400 := jan1_400 (y - 400)
    rw [Int.sub_add_cancel] at h400
    by_cases g : k < 0
    · rw [decide_eq_true g, cond_true, w64 (by omega), w64 (by omega)]
      rw [ih f (y - 400) (k + 146097) (by omega) (by omega) (by omega) (by omega)]
      rw [h400, show jan1 (y - 400) + (k + 146097) = jan1 (y - 400) + 146097 + k by omega]
    · rw [decide_eq_false g, cond_false]
      exact date504 n 20 _ y k (by omega) (by omega) (by omega) (by omega)
theorem sp_ref06_DateOf (n : Nat) (x : Int) : CP C (n + 201) F_ref06_DateOf [.int .i64 x] = some (.tup [date (gY x) (gM x) (gD x), .int .i64 (gE x)]) := by
  rw [eq_ref06_DateOf]
  unfold R_ref06_DateOf T_ref06_DateOf_1 gY gM gD gE
  by_cases h : inDays x
  · rw [if_pos h, if_pos h, if_pos h, if_pos h]
    unfold inDays at h
    rw [decide_eq_false (show ¬ x < -4371587 by omega), cond_false, decide_eq_false (show ¬ x > 2932896 by omega), cond_false, w64 (by omega)]
    have e : jan1 2000 = 10957 := by decide
    rw [date248 n 30 _ 2000 (x - 10957) (by omega) (by omega) (by omega) (by omega)]
    rw [e, show 10957 + (x - 10957) = x by omega]
  · rw [if_neg h, if_neg h, if_neg h, if_neg h]
    unfold inDays at h
    by_cases h1 : x < -4371587
    · rw [decide_eq_true h1, cond_true]
    · rw [decide_eq_false h1, cond_false, decide_eq_true (show x > 2932896 by omega), cond_true]
theorem sp_ref06_May (n : Nat) (y m d : Int) : CP C (n + 3) F_ref06_May [date y m d] = some (.bool (decide (1 ≤ d ∧ d ≤ mdays y m))) := by
  rw [eq_ref06_May]
  unfold R_ref06_May
  rw [sp_ref06_MonthDays]
  by_cases h : d ≥ 1
  · simp [h, k_bind, k_int, show 1 ≤ d from h]
  · simp [h, show ¬ 1 ≤ d from h]
theorem sp_ref06_Check (n : Nat) (y m d : Int) : CP C (n + 4) F_ref06_Check [date y m d] = some (.int .i64 (cE y m d)) := by
  rw [eq_ref06_Check]
  unfold R_ref06_Check
  rw [sp_ref06_May]
  unfold cE
  simp only [k_int, k_anyInt, k_bool, k_str, k_agg, k_tup, k_cons, k_nil, k_bind, ↓c_not, ↓c_bne, ite_cond, Bool.and_eq_true, Bool.or_eq_true, beq_iff_eq, Bool.and_true, decide_eq_true_eq, Bool.false_eq_true, if_true, if_false, bne_self_eq_false, and_self, Int.reduceEq, Int.reduceLT, Int.reduceNeg, i_some, i_int, i_bool, i_agg, i_tup, i_cons, i_self, Option.some.injEq, AV.int.injEq, AV.bool.injEq, AV.agg.injEq, AV.tup.injEq, List.cons.injEq, true_and, and_true]
  omega
theorem number116 (n : Nat) : ∀ (f : Nat) (y i m d : Int), 1 ≤ i → i ≤ m → m ≤ 12 → m - i < f → (-20000 ≤ y ∧ y ≤ 20000) → (-1000 ≤ d ∧ d ≤ 1000) →
    J_ref06_Number_116 (CP C (n + 2)) (n + 2) f (jan1 y + cum y i) i y m d = some (.int .i64 (num y m d)) := by
  intro f
  induction f with
  | zero => intro y i m d h1 h2 h3 h4; omega
  | succ f ih =>
    intro y i m d h1 h2 h3 h4 h5 h6
    have hb := jan1_b (show -30000 ≤ y ∧ y ≤ 30000 by omega)
    have hc := cum_mono (y := y) (show i ≤ 13 by omega)
    have hc0 := cum_nonneg y i
    rw [cum_13] at hc
    have hr := ydays_range y
    rw [Js_ref06_Number_116]
    unfold T_ref06_Number_116
    by_cases g : i < m
    · have hs := cum_succ (y := y) (m := i) (by omega)
      have hm := mdays_range (y := y) (m := i) (by omega)
      rw [decide_eq_true g, cond_true, sp_ref06_MonthDays]
      simp only [k_bind, k_int]
      rw [w64 (by omega), w64 (by omega), show jan1 y + cum y i + mdays y i = jan1 y + cum y (i + 1) by omega]
      exact ih y (i + 1) m d (by omega) (by omega) h3 (by omega) h5 h6
    · have : i = m := by omega
      subst this
      rw [decide_eq_false g, cond_false]
      simp (disch := omega) only [w64]
      rfl
theorem sp_ref06_Number (n : Nat) (y m d : Int) (hv : valid y m d) (hy : -10000 ≤ y ∧ y ≤ 10000) : CP C (n + 202) F_ref06_Number [date y m d] = some (.int .i64 (num y m d)) := by
  rw [eq_ref06_Number]
  unfold R_ref06_Number T_ref06_Number_1
  rw [sp_ref06_start n y hy]
  simp only [k_bind, k_int]
  have h := mdays_le y m
  have hm := hv.1
  have := number116 (n + 199) (n + 201 + 300) y 1 m d (by omega) hv.1.1 hv.1.2 (by omega) (by omega) (by have := hv.2; omega)
  rw [cum_1, Int.add_zero] at this
  exact this
theorem sp_ref06_Days (n : Nat) (y m d : Int) : CP C (n + 203) F_ref06_Days [date y m d] = some (.tup [.int .i64 (nE y m d), .int .i64 (cE y m d)]) := by
  rw [eq_ref06_Days]
  unfold R_ref06_Days
  rw [sp_ref06_Check (n + 198)]
  simp only [k_int, k_anyInt, k_bool, k_str, k_agg, k_tup, k_cons, k_nil, k_bind, ↓c_not, ↓c_bne, ite_cond, Bool.and_eq_true, Bool.or_eq_true, beq_iff_eq, Bool.and_true, decide_eq_true_eq, Bool.false_eq_true, if_true, if_false, bne_self_eq_false, and_self, Int.reduceEq, Int.reduceLT, Int.reduceNeg]
  unfold nE
  by_cases h : cE y m d = 0
  · obtain ⟨hv, hy⟩ := cE_zero.1 h
    rw [if_pos h, if_pos h, sp_ref06_Number n y m d hv (by omega)]
    simp only [k_int, k_anyInt, k_bool, k_str, k_agg, k_tup, k_cons, k_nil, k_bind, ↓c_not, ↓c_bne, ite_cond, Bool.and_eq_true, Bool.or_eq_true, beq_iff_eq, Bool.and_true, decide_eq_true_eq, Bool.false_eq_true, if_true, if_false, bne_self_eq_false, and_self, Int.reduceEq, Int.reduceLT, Int.reduceNeg, h]
  · rw [if_neg h, if_neg h]
def uE (y m d : Int) : Int := if cE y m d = 0 then num y m d - jan1 y + 1 else 0
end Go.Proofs.Ytceigcoipifloaa.Sim.S
