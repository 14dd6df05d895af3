/- What the functions of civil dates answer. Condition: none beyond what each theorem says. -/
import Derived.Test.YtoidepknicafhaaRes
import Derived.Test.YtoidepknicafhaaSimCivil
set_option linter.unusedSimpArgs false
namespace Go.Proofs.Ytoidepknicafhaa.Sim.S
open Go Civil

abbrev date (y m d : Int) : AV := .agg [.int .i64 y, .int .i64 m, .int .i64 d]

theorem tm4 (y : Int) : (Int.tmod y 4 == 0) = decide (y % 4 = 0) := by rw [Bool.eq_iff_iff, beq_iff_eq, decide_eq_true_eq]; simp only [IntKind.wrap_i64, tdiv_pos, tmod_pos, Int.reduceLT]; omega
theorem tm100 (y : Int) : (Int.tmod y 100 == 0) = decide (y % 100 = 0) := by rw [Bool.eq_iff_iff, beq_iff_eq, decide_eq_true_eq]; simp only [IntKind.wrap_i64, tdiv_pos, tmod_pos, Int.reduceLT]; omega
theorem tm400 (y : Int) : (Int.tmod y 400 == 0) = decide (y % 400 = 0) := by rw [Bool.eq_iff_iff, beq_iff_eq, decide_eq_true_eq]; simp only [IntKind.wrap_i64, tdiv_pos, tmod_pos, Int.reduceLT]; omega
theorem sp_civil_Leap (n : Nat) (y : Int) : CP C (n + 1) F_civil_Leap [.int .i64 y] = some (.bool (decide (leap y))) := by
  rw [eq_civil_Leap]
  unfold R_civil_Leap
  simp only [↓c_bne, tm4, tm100, tm400, ite_cond, decide_eq_true_eq, i_some, i_int, i_bool, i_agg, i_tup, i_cons, i_self, Option.some.injEq, AV.int.injEq, AV.bool.injEq, AV.agg.injEq, AV.tup.injEq, List.cons.injEq, true_and, and_true]
  rw [Bool.eq_iff_iff, decide_eq_true_eq]
  unfold leap
  repeat' split
  all_goals simp
  all_goals omega
theorem sp_ref06_Leap (n : Nat) (y : Int) : CP C (n + 1) F_ref06_Leap [.int .i64 y] = some (.bool (decide (leap y))) := by
  rw [eq_ref06_Leap]
  unfold R_ref06_Leap
  simp only [↓c_bne, tm4, tm100, tm400, ite_cond, decide_eq_true_eq, i_some, i_int, i_bool, i_agg, i_tup, i_cons, i_self, Option.some.injEq, AV.int.injEq, AV.bool.injEq, AV.agg.injEq, AV.tup.injEq, List.cons.injEq, true_and, and_true]
  rw [Bool.eq_iff_iff, decide_eq_true_eq]
  unfold leap
  repeat' split
  all_goals simp
  all_goals omega
theorem sp_civil_months (n : Nat) : CP C (n + 1) F_civil_months [] = some (.agg [.int .i64 0, .int .i64 31, .int .i64 28, .int .i64 31, .int .i64 30, .int .i64 31, .int .i64 30, .int .i64 31, .int .i64 31, .int .i64 30, .int .i64 31, .int .i64 30, .int .i64 31]) := by
  rw [eq_civil_months]; rfl
theorem md15 (n : Nat) (y m : Int) (h : 1 ≤ m ∧ m ≤ 12) (h2 : m = 2 → ¬ leap y) : J_civil_MonthDays_15 (CP C (n + 1)) (n + 1) m = some (.int .i64 (mdays y m)) := by
  unfold J_civil_MonthDays_15 T_civil_MonthDays_15
  rw [sp_civil_months]
  have : m = 1 ∨ m = 2 ∨ m = 3 ∨ m = 4 ∨ m = 5 ∨ m = 6 ∨ m = 7 ∨ m = 8 ∨ m = 9 ∨ m = 10 ∨ m = 11 ∨ m = 12 := by omega
  rcases this with rfl | rfl | rfl | rfl | rfl | rfl | rfl | rfl | rfl | rfl | rfl | rfl
  case inr.inl =>
    have h3 := h2 rfl
    have h4 : mdays y 2 = 28 := by unfold mdays lp; rw [if_neg h3]; rfl
    rw [h4]; rfl
  all_goals rfl
theorem sp_civil_MonthDays (n : Nat) (y m : Int) : CP C (n + 2) F_civil_MonthDays [.int .i64 y, .int .i64 m] = some (.int .i64 (mdays y m)) := by
  rw [eq_civil_MonthDays]
  unfold R_civil_MonthDays T_civil_MonthDays_1
  have key : ∀ b : Bool, b = decide (m < 1 ∨ m > 12) → J_civil_MonthDays_13 (CP C (n + 1)) (n + 1) y m b = some (.int .i64 (mdays y m)) := by
    intro b hb
    unfold J_civil_MonthDays_13 T_civil_MonthDays_13
    by_cases h : m < 1 ∨ m > 12
    · rw [hb, decide_eq_true h]
      have : mdays y m = 0 := by unfold mdays; omega
      rw [this]; rfl
    · rw [hb, decide_eq_false h, cond_false, sp_civil_Leap]
      by_cases h2 : m = 2
      · subst h2
        by_cases h3 : leap y
        · have h4 : mdays y 2 = 29 := by unfold mdays lp; rw [if_pos h3]; rfl
          simp only [beq_self_eq_true, cond_true, k_bind, k_bool, decide_eq_true h3, h4]
        · simp only [beq_self_eq_true, cond_true, k_bind, k_bool, decide_eq_false h3, cond_false]
          exact md15 n y 2 (by omega) (fun _ => h3)
      · rw [show (m == 2) = false by simpa using h2, cond_false]
        exact md15 n y m (by omega) (fun e => absurd e h2)
  by_cases h : m < 1
  · rw [decide_eq_true h, cond_true]; exact key _ (by simp [h])
  · rw [decide_eq_false h, cond_false]; exact key _ (by simp [h])
theorem sp_ref06_MonthDays (n : Nat) (y m : Int) : CP C (n + 2) F_ref06_MonthDays [.int .i64 y, .int .i64 m] = some (.int .i64 (mdays y m)) := by
  rw [eq_ref06_MonthDays]
  unfold R_ref06_MonthDays
  rw [sp_ref06_Leap]
  simp only [k_int, k_anyInt, k_bool, k_str, k_agg, k_tup, k_cons, k_nil, k_bind, ↓c_not, ↓c_bne, ite_cond, Bool.and_eq_true, Bool.or_eq_true, beq_iff_eq, Bool.and_true, decide_eq_true_eq, Bool.false_eq_true, if_true, if_false, bne_self_eq_false, and_self, Int.reduceEq, Int.reduceLT, Int.reduceNeg, i_some, i_int, i_bool, i_agg, i_tup, i_cons, i_self, Option.some.injEq, AV.int.injEq, AV.bool.injEq, AV.agg.injEq, AV.tup.injEq, List.cons.injEq, true_and, and_true]
  have := lp_eq y
  unfold leap mdays
  omega
theorem sp_floor7 (n : Nat) (a : Int) (h : -9223372036854775808 ≤ a ∧ a ≤ 9223372036854775807) : CP C (n + 1) F_civil_floor [.int .i64 a, .int .i64 7] = some (.tup [.int .i64 (a / 7), .int .i64 (a % 7)]) := by
  rw [eq_civil_floor]
  unfold R_civil_floor
  simp only [k_int, k_anyInt, k_bool, k_str, k_agg, k_tup, k_cons, k_nil, k_bind, ↓c_not, ↓c_bne, ite_cond, Bool.and_eq_true, Bool.or_eq_true, beq_iff_eq, Bool.and_true, decide_eq_true_eq, Bool.false_eq_true, if_true, if_false, bne_self_eq_false, and_self, Int.reduceEq, Int.reduceLT, Int.reduceNeg, IntKind.wrap_i64, tdiv_pos, tmod_pos, Int.reduceLT, i_some, i_int, i_bool, i_agg, i_tup, i_cons, i_self, Option.some.injEq, AV.int.injEq, AV.bool.injEq, AV.agg.injEq, AV.tup.injEq, List.cons.injEq, true_and, and_true]
  omega
theorem sp_floor400 (n : Nat) (a : Int) (h : -1000000000000000000 ≤ a ∧ a ≤ 1000000000000000000) : CP C (n + 1) F_civil_floor [.int .i64 a, .int .i64 400] = some (.tup [.int .i64 (a / 400), .int .i64 (a % 400)]) := by
  rw [eq_civil_floor]
  unfold R_civil_floor
  simp only [k_int, k_anyInt, k_bool, k_str, k_agg, k_tup, k_cons, k_nil, k_bind, ↓c_not, ↓c_bne, ite_cond, Bool.and_eq_true, Bool.or_eq_true, beq_iff_eq, Bool.and_true, decide_eq_true_eq, Bool.false_eq_true, if_true, if_false, bne_self_eq_false, and_self, Int.reduceEq, Int.reduceLT, Int.reduceNeg, IntKind.wrap_i64, tdiv_pos, tmod_pos, Int.reduceLT, i_some, i_int, i_bool, i_agg, i_tup, i_cons, i_self, Option.some.injEq, AV.int.injEq, AV.bool.injEq, AV.agg.injEq, AV.tup.injEq, List.cons.injEq, true_and, and_true]
  omega
theorem sp_floor146097 (n : Nat) (a : Int) (h : -1000000000000000000 ≤ a ∧ a ≤ 1000000000000000000) : CP C (n + 1) F_civil_floor [.int .i64 a, .int .i64 146097] = some (.tup [.int .i64 (a / 146097), .int .i64 (a % 146097)]) := by
  rw [eq_civil_floor]
  unfold R_civil_floor
  simp only [k_int, k_anyInt, k_bool, k_str, k_agg, k_tup, k_cons, k_nil, k_bind, ↓c_not, ↓c_bne, ite_cond, Bool.and_eq_true, Bool.or_eq_true, beq_iff_eq, Bool.and_true, decide_eq_true_eq, Bool.false_eq_true, if_true, if_false, bne_self_eq_false, and_self, Int.reduceEq, Int.reduceLT, Int.reduceNeg, IntKind.wrap_i64, tdiv_pos, tmod_pos, Int.reduceLT, i_some, i_int, i_bool, i_agg, i_tup, i_cons, i_self, Option.some.injEq, AV.int.injEq, AV.bool.injEq, AV.agg.injEq, AV.tup.injEq, List.cons.injEq, true_and, and_true]
  omega
theorem sp_civil_number (n : Nat) (y m d : Int) (hy : -1000000 ≤ y ∧ y ≤ 1000000) (hm : 1 ≤ m ∧ m ≤ 12) (hd : -1000000000 ≤ d ∧ d ≤ 1000000000) :
    CP C (n + 2) F_civil_number [.int .i64 y, .int .i64 m, .int .i64 d] = some (.int .i64 (num y m d)) := by
  rw [eq_civil_number]
  have key : ∀ Y M : Int, (-1000001 ≤ Y ∧ Y ≤ 1000000) → (0 ≤ M ∧ M ≤ 11) → ∀ b : Int, IntKind.i64.wrap (Int.tdiv (IntKind.i64.wrap (14 - m)) 12) = b → y - b = Y → m + 12 * b - 3 = M → (0 ≤ b ∧ b ≤ 1) →
      R_civil_number (CP C (n + 1)) (n + 1) y m d = some (.int .i64 (mnum Y M d)) := by
    intro Y M hY hM b e1 e2 e3 hb
    unfold R_civil_number
    rw [bnd_eq _ e1, show IntKind.i64.wrap (y - b) = Y by rw [IntKind.wrap_i64]; omega, sp_floor400 n _ (by omega)]
    simp only [k_bind, k_tup, k_cons, k_int, k_nil]
    rw [bnd_eq _ (show _ = M by (first | omega | (simp (disch := omega) only [w64, td_nn, tm_nn] <;> omega)))]
    rw [bnd_eq _ (show _ = (153 * M + 2) / 5 by (first | omega | (simp (disch := omega) only [w64, td_nn, tm_nn] <;> omega)))]
    rw [bnd_eq _ (show _ = Y / 400 * 146097 + Y % 400 * 365 by (first | omega | (simp (disch := omega) only [w64, td_nn, tm_nn] <;> omega)))]
    rw [bnd_eq _ (show _ = Y / 400 * 146097 + Y % 400 * 365 + Y % 400 / 4 by (first | omega | (simp (disch := omega) only [w64, td_nn, tm_nn] <;> omega)))]
    rw [bnd_eq _ (show _ = Y / 400 * 146097 + Y % 400 * 365 + Y % 400 / 4 - Y % 400 / 100 by (first | omega | (simp (disch := omega) only [w64, td_nn, tm_nn] <;> omega)))]
    rw [bnd_eq _ (show _ = Y / 400 * 146097 + Y % 400 * 365 + Y % 400 / 4 - Y % 400 / 100 + ((153 * M + 2) / 5 + d - 1) by (first | omega | (simp (disch := omega) only [w64, td_nn, tm_nn] <;> omega)))]
    unfold mnum
    rw [show IntKind.i64.wrap (Y / 400 * 146097 + Y % 400 * 365 + Y % 400 / 4 - Y % 400 / 100 + ((153 * M + 2) / 5 + d - 1) - 719468) = Y / 400 * 146097 + Y % 400 * 365 + Y % 400 / 4 - Y % 400 / 100 + (153 * M + 2) / 5 + d - 1 - 719468 by rw [IntKind.wrap_i64]; omega]
  by_cases h : 3 ≤ m
  · rw [num_march ⟨h, hm.2⟩]
    exact key y (m - 3) (by omega) (by omega) 0 (by (first | omega | (simp (disch := omega) only [w64, td_nn, tm_nn] <;> omega))) (by omega) (by omega) (by omega)
  · rw [num_jan (show 1 ≤ m ∧ m ≤ 2 by omega)]
    exact key (y - 1) (m + 9) (by omega) (by omega) 1 (by (first | omega | (simp (disch := omega) only [w64, td_nn, tm_nn] <;> omega))) (by omega) (by omega) (by omega)
def wday (x : Int) : Int := (x % 7 + 3) % 7 + 1
theorem sp_civil_Weekday (n : Nat) (x : Int) (h : -9223372036854775808 ≤ x ∧ x ≤ 9223372036854775807) : CP C (n + 2) F_civil_Weekday [.int .i64 x] = some (.int .i64 (wday x)) := by
  rw [eq_civil_Weekday]
  unfold R_civil_Weekday
  rw [sp_floor7 n x h]
  simp only [k_bind, k_tup, k_cons, k_int, k_nil]
  rw [bnd_eq _ (show _ = wday x by unfold wday; (first | omega | (simp (disch := omega) only [w64, td_nn, tm_nn] <;> omega)))]
theorem sp_ref06_Weekday (n : Nat) (x : Int) : CP C (n + 1) F_ref06_Weekday [.int .i64 x] = some (.int .i64 (wday x)) := by
  rw [eq_ref06_Weekday]
  unfold R_ref06_Weekday
  by_cases g : Int.tmod x 7 < 0
  · have e1 : IntKind.i64.wrap (Int.tmod x 7 + 7) = x % 7 := by simp only [IntKind.wrap_i64, tdiv_pos, tmod_pos, Int.reduceLT] at g ⊢; omega
    rw [decide_eq_true g, cond_true, e1, bnd_eq _ (show _ = x % 7 + 3 by (first | omega | (simp (disch := omega) only [w64, td_nn, tm_nn] <;> omega)))]
    rw [show IntKind.i64.wrap (Int.tmod (x % 7 + 3) 7 + 1) = wday x by unfold wday; (first | omega | (simp (disch := omega) only [w64, td_nn, tm_nn] <;> omega))]
  · have e1 : Int.tmod x 7 = x % 7 := by simp only [IntKind.wrap_i64, tdiv_pos, tmod_pos, Int.reduceLT] at g ⊢; omega
    rw [decide_eq_false g, cond_false, e1, bnd_eq _ (show _ = wday x by unfold wday; (first | omega | (simp (disch := omega) only [w64, td_nn, tm_nn] <;> omega)))]
theorem sp_ref06_YearDays (n : Nat) (y : Int) : CP C (n + 2) F_ref06_YearDays [.int .i64 y] = some (.int .i64 (ydays y)) := by
  rw [eq_ref06_YearDays]
  unfold R_ref06_YearDays
  rw [sp_ref06_Leap]
  have : ydays y = 365 + if leap y then 1 else 0 := rfl
  rw [this]
  simp only [k_int, k_anyInt, k_bool, k_str, k_agg, k_tup, k_cons, k_nil, k_bind, ↓c_not, ↓c_bne, ite_cond, Bool.and_eq_true, Bool.or_eq_true, beq_iff_eq, Bool.and_true, decide_eq_true_eq, Bool.false_eq_true, if_true, if_false, bne_self_eq_false, and_self, Int.reduceEq, Int.reduceLT, Int.reduceNeg]
  by_cases h : leap y <;> simp [h]
theorem ydays_range (y : Int) : 365 ≤ ydays y ∧ ydays y ≤ 366 := by have := lp_range y; unfold ydays; omega
theorem jan1_400 (y : Int) : jan1 (y + 400) = jan1 y + 146097 := by unfold jan1; omega
theorem jan1_b {y : Int} (h : -30000 ≤ y ∧ y ≤ 30000) : -12000000 ≤ jan1 y ∧ jan1 y ≤ 12000000 := by unfold jan1; omega
theorem start504 (n : Nat) : ∀ (m : Nat) (y z : Int), z ≤ y → y - z < m → -30000 ≤ z → y ≤ 30000 → J_ref06_start_504 (CP C (n + 2)) (n + 2) m y (jan1 z) z = some (.int .i64 (jan1 y))
  | 0, y, z, h1, h2, _, _ => by omega
  | m + 1, y, z, h1, h2, h3, h4 => by
    rw [Js_ref06_start_504]
    unfold T_ref06_start_504
    by_cases g : z < y
    · have hb := jan1_b (show -30000 ≤ z ∧ z ≤ 30000 by omega)
      have hy := ydays_range z
      rw [decide_eq_true g, cond_true, sp_ref06_YearDays]
      simp only [k_bind, k_int]
      rw [w64 (by omega), w64 (by omega), ← jan1_succ]
      exact start504 n m y (z + 1) (by omega) (by omega) (by omega) h4
    · rw [decide_eq_false g, cond_false, show z = y by omega]
theorem start248 (n : Nat) : ∀ (m : Nat) (y z : Int), z - y ≤ 400 * m → y - z < 400 → -20000 ≤ y → y ≤ 20000 → z ≤ 20000 → J_ref06_start_248 (CP C (n + 200)) (n + 200) (m + 1) y (jan1 z) z = some (.int .i64 (jan1 y)) := by
  intro m
  induction m with
  | zero =>
    intro y z h1 h2 h3 h4 h5
    rw [Js_ref06_start_248]
    unfold T_ref06_start_248
    rw [decide_eq_false (show ¬ z > y by omega), cond_false]
    exact start504 (n + 198) _ y z (by omega) (by omega) (by omega) (by omega)
  | succ m ih =>
    intro y z h1 h2 h3 h4 h5
    rw [Js_ref06_start_248]
    unfold T_ref06_start_248
    by_cases g : z > y
    · have hb := jan1_b (show -30000 ≤ z ∧ z ≤ 30000 by omega)
      have h400 := jan1_400 (z - 400)
      rw [Int.sub_add_cancel] at h400
      rw [decide_eq_true g, cond_true, w64 (by omega), w64 (by omega), show jan1 z - 146097 = jan1 (z - 400) by omega]
      exact ih y (z - 400) (by omega) (by omega) h3 h4 (by omega)
    · rw [decide_eq_false g, cond_false]
      exact start504 (n + 198) _ y z (by omega) (by omega) (by omega) (by omega)
theorem start120 (n : Nat) : ∀ (m : Nat) (y z : Int), y - z ≤ 400 * m → z - y ≤ 39600 → -20000 ≤ y → y ≤ 20000 → -20000 ≤ z → z ≤ 20000 → J_ref06_start_120 (CP C (n + 200)) (n + 200) (m + 1) y (jan1 z) z = some (.int .i64 (jan1 y)) := by
  intro m
  induction m with
  | zero =>
    intro y z h1 h2 h3 h4 h5 h6
    rw [Js_ref06_start_120]
    unfold T_ref06_start_120
    rw [w64 (by omega), decide_eq_false (show ¬ z + 400 ≤ y by omega), cond_false, show n + 200 + 300 = (n + 499) + 1 by omega]
    exact start248 n _ y z (by omega) (by omega) (by omega) (by omega) (by omega)
  | succ m ih =>
    intro y z h1 h2 h3 h4 h5 h6
    rw [Js_ref06_start_120]
    unfold T_ref06_start_120
    rw [w64 (by omega)]
    by_cases g : z + 400 ≤ y
    · have hb := jan1_b (show -30000 ≤ z ∧ z ≤ 30000 by omega)
      rw [decide_eq_true g, cond_true, w64 (by omega), ← jan1_400]
      exact ih y (z + 400) (by omega) (by omega) h3 h4 (by omega) (by omega)
    · rw [decide_eq_false g, cond_false, show n + 200 + 300 = (n + 499) + 1 by omega]
      exact start248 n _ y z (by omega) (by omega) (by omega) (by omega) (by omega)
theorem sp_ref06_start (n : Nat) (y : Int) (h : -10000 ≤ y ∧ y ≤ 10000) : CP C (n + 201) F_ref06_start [.int .i64 y] = some (.int .i64 (jan1 y)) := by
  rw [eq_ref06_start]
  unfold R_ref06_start T_ref06_start_1
  have e : (10957 : Int) = jan1 2000 := by decide
  rw [e, show n + 200 + 300 = (n + 499) + 1 by omega]
  exact start120 n _ y 2000 (by omega) (by omega) (by omega) (by omega) (by omega) (by omega)
theorem number116 (n : Nat) : ∀ (f : Nat) (y i m d : Int), 1 ≤ i → i ≤ m → m ≤ 12 → m - i < f → (-20000 ≤ y ∧ y ≤ 20000) → (-1000 ≤ d ∧ d ≤ 1000) →
    J_ref06_Number_116 (CP C (n + 2)) (n + 2) f (jan1 y + cum y i) i y m d = some (.int .i64 (num y m d)) := by
  intro f
  induction f with
  | zero => intro y i m d h1 h2 h3 h4; omega
  | succ f ih =>
    intro y i m d h1 h2 h3 h4 h5 h6
    have hb := jan1_b (show -30000 ≤ y ∧ y ≤ 30000 by omega)
    have hc := cum_mono (y := y) (show i ≤ 13 by omega)
    have hc0 := cum_nonneg y i
    rw [cum_13] at hc
    have hr := ydays_range y
    rw [Js_ref06_Number_116]
    unfold T_ref06_Number_116
    by_cases g : i < m
    · have hs := cum_succ (y := y) (m := i) (by omega)
      have hm := mdays_range (y := y) (m := i) (by omega)
      rw [decide_eq_true g, cond_true, sp_ref06_MonthDays]
      simp only [k_bind, k_int]
      rw [w64 (by omega), w64 (by omega), show jan1 y + cum y i + mdays y i = jan1 y + cum y (i + 1) by omega]
      exact ih y (i + 1) m d (by omega) (by omega) h3 (by omega) h5 h6
    · have : i = m := by omega
      subst this
      rw [decide_eq_false g, cond_false]
      simp (disch := omega) only [w64]
      rfl
theorem sp_ref06_Number (n : Nat) (y m d : Int) (hv : valid y m d) (hy : -10000 ≤ y ∧ y ≤ 10000) : CP C (n + 202) F_ref06_Number [date y m d] = some (.int .i64 (num y m d)) := by
  rw [eq_ref06_Number]
  unfold R_ref06_Number T_ref06_Number_1
  rw [sp_ref06_start n y hy]
  simp only [k_bind, k_int]
  have h := mdays_le y m
  have hm := hv.1
  have := number116 (n + 199) (n + 201 + 300) y 1 m d (by omega) hv.1.1 hv.1.2 (by omega) (by omega) (by have := hv.2; omega)
  rw [cum_1, Int.add_zero] at this
  exact this