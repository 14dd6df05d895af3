/- The days of a rule in a year, and their laws. Condition: none beyond what each theorem says. -/
import Derived.Test.YtoidepknicafhaaSpecCivil
set_option linter.unusedSimpArgs false
namespace Go.Proofs.Ytoidepknicafhaa.Sim.S
open Go Civil

abbrev rule (t n w : Int) : AV := .agg [.int .i64 t, .int .i64 n, .int .i64 w]
def mayD (t n w : Int) : Prop :=
  (t = 0 ∧ (1 ≤ n ∧ n ≤ 31) ∧ w = 0) ∨ (t = 1 ∧ n = 0 ∧ (1 ≤ w ∧ w ≤ 7)) ∨ ((t = 2 ∨ t = 3) ∧ (1 ≤ n ∧ n ≤ 31) ∧ (1 ≤ w ∧ w ≤ 7))
instance (t n w : Int) : Decidable (mayD t n w) := by unfold mayD; infer_instance

theorem sp_words_May (k : Nat) (t n w : Int) : CP C (k + 1) F_words_May [rule t n w] = some (.bool (decide (mayD t n w))) := by
  rw [eq_words_May]
  unfold R_words_May
  simp only [ite_cond, beq_iff_eq, decide_eq_true_eq, i_some, i_bool, Option.some.injEq, AV.int.injEq, AV.bool.injEq, AV.agg.injEq, AV.tup.injEq, List.cons.injEq, true_and, and_true]
  rw [Bool.eq_iff_iff, decide_eq_true_eq]
  unfold mayD
  repeat' split
  all_goals simp
  all_goals omega
theorem sp_ref14_MayDay (k : Nat) (t n w : Int) : CP C (k + 1) F_ref14_MayDay [rule t n w] = some (.bool (decide (mayD t n w))) := by
  rw [eq_ref14_MayDay]
  unfold R_ref14_MayDay
  simp only [ite_cond, beq_iff_eq, decide_eq_true_eq, i_some, i_bool, Option.some.injEq, AV.int.injEq, AV.bool.injEq, AV.agg.injEq, AV.tup.injEq, List.cons.injEq, true_and, and_true]
  rw [Bool.eq_iff_iff, decide_eq_true_eq]
  unfold mayD
  repeat' split
  all_goals simp
  all_goals omega

def back (x w : Int) : Int := x - (wday x - w + 7) % 7
def fwd (x w : Int) : Int := x + (w - wday x + 7) % 7
theorem wday_range (x : Int) : 1 ≤ wday x ∧ wday x ≤ 7 := by unfold wday; omega
theorem sp_back (k : Nat) (x w : Int) (hx : -1000000000 ≤ x ∧ x ≤ 1000000000) (hw : 1 ≤ w ∧ w ≤ 7) : CP C (k + 3) F_yearly_back [.int .i64 x, .int .i64 w] = some (.int .i64 (back x w)) := by
  rw [eq_yearly_back]
  unfold R_yearly_back
  rw [sp_civil_Weekday k x (by omega)]
  have := wday_range x
  simp only [k_bind, k_int]
  rw [bnd_eq _ (show _ = (wday x - w + 7) % 7 by simp (disch := omega) only [w64, tm_nn])]
  unfold back
  rw [w64 (by omega)]
theorem sp_fwd (k : Nat) (x w : Int) (hx : -1000000000 ≤ x ∧ x ≤ 1000000000) (hw : 1 ≤ w ∧ w ≤ 7) : CP C (k + 3) F_yearly_forward [.int .i64 x, .int .i64 w] = some (.int .i64 (fwd x w)) := by
  rw [eq_yearly_forward]
  unfold R_yearly_forward
  rw [sp_civil_Weekday k x (by omega)]
  have := wday_range x
  simp only [k_bind, k_int]
  rw [bnd_eq _ (show _ = (w - wday x + 7) % 7 by simp (disch := omega) only [w64, tm_nn])]
  unfold fwd
  rw [w64 (by omega)]

def dayE (t n w y m : Int) : Int :=
  if ¬ mayD t n w then 5 else if mdays y m = 0 then 5 else if t = 0 ∧ n > mdays y m then 7 else if y < -9999 ∨ y > 10000 then 8 else 0
def dayV (t n w y m : Int) : Int :=
  if t = 1 then back (num y m 1 + mdays y m - 1) w else if t = 2 then fwd (num y m 1 + n - 1) w else if t = 3 then back (num y m 1 + n - 1) w else num y m 1 + n - 1
def dayO (t n w y m : Int) : Int := if dayE t n w y m = 0 then dayV t n w y m else 0

theorem dayE_zero {t n w y m : Int} (h : dayE t n w y m = 0) : mayD t n w ∧ (1 ≤ m ∧ m ≤ 12) ∧ ¬ (t = 0 ∧ n > mdays y m) ∧ (-9999 ≤ y ∧ y ≤ 10000) := by
  unfold dayE at h
  split at h
  · omega
  rename_i h1
  have h2 : mdays y m ≠ 0 := by intro e; rw [if_pos e] at h; omega
  have h3 : 1 ≤ m ∧ m ≤ 12 := by unfold mdays at h2; omega
  exact ⟨Classical.not_not.1 h1, h3, by omega, by omega⟩
theorem num_small {y m d : Int} (hy : -10000 ≤ y ∧ y ≤ 10000) (hd : 0 ≤ d ∧ d ≤ 100) : -20000000 ≤ num y m d ∧ num y m d ≤ 20000000 := by
  have h1 := jan1_b (show -30000 ≤ y ∧ y ≤ 30000 by omega)
  have h2 := cum_nonneg y m
  have h3 : cum y m ≤ 366 := by have := lp_range y; unfold cum; omega
  unfold num; omega

theorem sp_Number (k : Nat) (y m : Int) (hy : -10000 ≤ y ∧ y ≤ 10000) (hm : 1 ≤ m ∧ m ≤ 12) : CP C (k + 3) F_civil_Number [.int .i64 y, .int .i64 m, .int .i64 1] = some (.int .i64 (num y m 1)) := by
  rw [eq_civil_Number]
  unfold R_civil_Number
  rw [sp_civil_number k y m 1 (by omega) hm (by omega)]
  rfl

theorem sp_yearly_Day (k : Nat) (t n w y m : Int) : CP C (k + 5) F_yearly_Day [rule t n w, .int .i64 y, .int .i64 m] = some (.tup [.int .i64 (dayO t n w y m), .int .i64 (dayE t n w y m)]) := by
  rw [eq_yearly_Day]
  unfold R_yearly_Day T_yearly_Day_1
  rw [sp_civil_MonthDays (k + 2), sp_words_May (k + 3)]
  simp only [k_bind, k_int, k_bool, ↓c_not]
  unfold dayO
  by_cases h0 : dayE t n w y m = 0
  · rw [if_pos h0]
    obtain ⟨h1, h2, h3, h4⟩ := dayE_zero h0
    have hmd := mdays_range (y := y) h2
    have hn := num_small (y := y) (m := m) (d := 1) (by omega) (by omega)
    have hN := sp_Number (k + 1) y m (by omega) h2
    have c1 : (mdays y m == 0) = false := by rw [beq_eq_false_iff_ne]; omega
    have c2 : ¬ y < -9999 := by omega
    have c3 : ¬ y > 10000 := by omega
    rw [h0]
    rcases h1 with ⟨rfl, g1, rfl⟩ | ⟨rfl, rfl, g2⟩ | ⟨ht, g1, g2⟩
    · have c4 : ¬ n > mdays y m := fun g => h3 ⟨rfl, g⟩
      have hf : CP C (k + 4) F_yearly_find_4 [rule 0 n 0, .int .i64 (num y m 1), .int .i64 (mdays y m)] = some (.int .i64 (num y m 1 + n - 1)) := by
        rw [eq_yearly_find_4]; unfold R_yearly_find_4; simp (disch := omega) only [w64]
      have hm : mayD 0 n 0 := .inl ⟨rfl, g1, rfl⟩
      simp only [decide_eq_true hm, cond_true, c1, cond_false, beq_self_eq_true, decide_eq_false c4, decide_eq_false c2, decide_eq_false c3, show ((0 : Int) == 1) = false from rfl, show ((0 : Int) == 2) = false from rfl, show ((0 : Int) == 3) = false from rfl, hN, hf, k_bind, k_int]
      rfl
    · have hf : CP C (k + 4) F_yearly_find_1 [rule 1 0 w, .int .i64 (num y m 1), .int .i64 (mdays y m)] = some (.int .i64 (back (num y m 1 + mdays y m - 1) w)) := by
        rw [eq_yearly_find_1]; unfold R_yearly_find_1; simp (disch := omega) only [w64]
        rw [sp_back k _ _ (by omega) g2]; rfl
      have hm : mayD 1 0 w := .inr (.inl ⟨rfl, rfl, g2⟩)
      simp only [decide_eq_true hm, cond_true, c1, cond_false, beq_self_eq_true, decide_eq_false c2, decide_eq_false c3, show ((1 : Int) == 0) = false from rfl, hN, hf, k_bind, k_int]
      rfl
    · have hm : mayD t n w := .inr (.inr ⟨ht, g1, g2⟩)
      rcases ht with rfl | rfl
      · have hf : CP C (k + 4) F_yearly_find_2 [rule 2 n w, .int .i64 (num y m 1), .int .i64 (mdays y m)] = some (.int .i64 (fwd (num y m 1 + n - 1) w)) := by
          rw [eq_yearly_find_2]; unfold R_yearly_find_2; simp (disch := omega) only [w64]
          rw [sp_fwd k _ _ (by omega) g2]; rfl
        simp only [decide_eq_true hm, cond_true, c1, cond_false, beq_self_eq_true, decide_eq_false c2, decide_eq_false c3, show ((2 : Int) == 0) = false from rfl, show ((2 : Int) == 1) = false from rfl, hN, hf, k_bind, k_int]
        rfl
      · have hf : CP C (k + 4) F_yearly_find_3 [rule 3 n w, .int .i64 (num y m 1), .int .i64 (mdays y m)] = some (.int .i64 (back (num y m 1 + n - 1) w)) := by
          rw [eq_yearly_find_3]; unfold R_yearly_find_3; simp (disch := omega) only [w64]
          rw [sp_back k _ _ (by omega) g2]; rfl
        simp only [decide_eq_true hm, cond_true, c1, cond_false, beq_self_eq_true, decide_eq_false c2, decide_eq_false c3, show ((3 : Int) == 0) = false from rfl, show ((3 : Int) == 1) = false from rfl, show ((3 : Int) == 2) = false from rfl, hN, hf, k_bind, k_int]
        rfl
  · rw [if_neg h0]
    unfold dayE at h0 ⊢
    by_cases h1 : mayD t n w
    · rw [if_neg (Classical.not_not.2 h1)] at h0 ⊢
      rw [decide_eq_true h1, cond_true]
      by_cases h2 : mdays y m = 0
      · rw [if_pos h2, show (mdays y m == 0) = true by rw [beq_iff_eq]; exact h2, cond_true]
      · rw [if_neg h2] at h0 ⊢
        rw [show (mdays y m == 0) = false by rw [beq_eq_false_iff_ne]; exact h2, cond_false]
        have yr : ∀ X : Option AV, (y < -9999 ∨ y > 10000) → cond (decide (y < -9999)) (some (AV.tup [.int .i64 0, .int .i64 8])) (cond (decide (y > 10000)) (some (AV.tup [.int .i64 0, .int .i64 8])) X) = some (AV.tup [.int .i64 0, .int .i64 8]) := by
          intro X hh
          by_cases g : y < -9999
          · rw [decide_eq_true g, cond_true]
          · rw [decide_eq_false g, cond_false, decide_eq_true (show y > 10000 by omega), cond_true]
        by_cases h3 : t = 0
        · rw [show (t == 0) = true by rw [beq_iff_eq]; exact h3, cond_true]
          by_cases h4 : n > mdays y m
          · rw [decide_eq_true h4, cond_true, if_pos ⟨h3, h4⟩]
          · rw [if_neg (fun g => h4 g.2)] at h0 ⊢
            have hh : y < -9999 ∨ y > 10000 := by apply Classical.byContradiction; intro hn; exact h0 (if_neg hn)
            rw [decide_eq_false h4, cond_false, if_pos hh]
            exact yr _ hh
        · rw [show (t == 0) = false by rw [beq_eq_false_iff_ne]; exact h3, cond_false]
          rw [if_neg (fun g => h3 g.1)] at h0 ⊢
          have hh : y < -9999 ∨ y > 10000 := by apply Classical.byContradiction; intro hn; exact h0 (if_neg hn)
          rw [if_pos hh]
          exact yr _ hh
    · rw [if_pos h1, decide_eq_false h1, cond_false]

theorem wday_prev (x : Int) : wday (x - 1) = if wday x = 1 then 7 else wday x - 1 := by unfold wday; omega
theorem wday_next (x : Int) : wday (x + 1) = if wday x = 7 then 1 else wday x + 1 := by unfold wday; omega
theorem walk_back (k : Nat) : ∀ (j f : Nat) (x t n w : Int), (wday x - w + 7) % 7 = j → j < f → (-900000000 ≤ x - j ∧ x ≤ 900000000) → (1 ≤ w ∧ w ≤ 7) →
    J_ref16_Day_2040 (CP C (k + 1)) (k + 1) f x (-1) t n w = some (.tup [.int .i64 (x - j), .int .i64 0]) := by
  intro j
  induction j with
  | zero =>
    intro f x t n w h1 hf hx hw
    obtain ⟨f, rfl⟩ : ∃ f', f = f' + 1 := ⟨f - 1, by omega⟩
    have hr := wday_range x
    have : wday x = w := by omega
    rw [Js_ref16_Day_2040]
    unfold T_ref16_Day_2040
    rw [sp_ref06_Weekday, this]
    simp only [k_bind, k_int, ↓c_bne, beq_self_eq_true, cond_true]
    rw [show x - ((0 : Nat) : Int) = x by omega]
  | succ j ih =>
    intro f x t n w h1 hf hx hw
    obtain ⟨f, rfl⟩ : ∃ f', f = f' + 1 := ⟨f - 1, by omega⟩
    have hr := wday_range x
    have : wday x ≠ w := by omega
    have hp := wday_prev x
    rw [Js_ref16_Day_2040]
    unfold T_ref16_Day_2040
    rw [sp_ref06_Weekday]
    simp only [k_bind, k_int, ↓c_bne, show (wday x == w) = false by rw [beq_eq_false_iff_ne]; exact this, cond_false]
    rw [show IntKind.i64.wrap (x + -1) = x - 1 by rw [w64 (by omega)]; omega]
    rw [ih f (x - 1) t n w (by rw [hp]; omega) (by omega) (by omega) hw]
    rw [show x - 1 - (j : Int) = x - ((j + 1 : Nat) : Int) by omega]
theorem walk_fwd (k : Nat) : ∀ (j f : Nat) (x t n w : Int), (w - wday x + 7) % 7 = j → j < f → (-900000000 ≤ x ∧ x + j ≤ 900000000) → (1 ≤ w ∧ w ≤ 7) →
    J_ref16_Day_2040 (CP C (k + 1)) (k + 1) f x 1 t n w = some (.tup [.int .i64 (x + j), .int .i64 0]) := by
  intro j
  induction j with
  | zero =>
    intro f x t n w h1 hf hx hw
    obtain ⟨f, rfl⟩ : ∃ f', f = f' + 1 := ⟨f - 1, by omega⟩
    have hr := wday_range x
    have : wday x = w := by omega
    rw [Js_ref16_Day_2040]
    unfold T_ref16_Day_2040
    rw [sp_ref06_Weekday, this]
    simp only [k_bind, k_int, ↓c_bne, beq_self_eq_true, cond_true]
    rw [show x + ((0 : Nat) : Int) = x by omega]
  | succ j ih =>
    intro f x t n w h1 hf hx hw
    obtain ⟨f, rfl⟩ : ∃ f', f = f' + 1 := ⟨f - 1, by omega⟩
    have hr := wday_range x
    have : wday x ≠ w := by omega
    have hp := wday_next x
    rw [Js_ref16_Day_2040]
    unfold T_ref16_Day_2040
    rw [sp_ref06_Weekday]
    simp only [k_bind, k_int, ↓c_bne, show (wday x == w) = false by rw [beq_eq_false_iff_ne]; exact this, cond_false]
    rw [w64 (by omega)]
    rw [ih f (x + 1) t n w (by rw [hp]; omega) (by omega) (by omega) hw]
    rw [show x + 1 + (j : Int) = x + ((j + 1 : Nat) : Int) by omega]
theorem wb (k f : Nat) (x t n w : Int) (hf : 10 ≤ f) (hx : -800000000 ≤ x ∧ x ≤ 800000000) (hw : 1 ≤ w ∧ w ≤ 7) :
    J_ref16_Day_2040 (CP C (k + 1)) (k + 1) f x (-1) t n w = some (.tup [.int .i64 (back x w), .int .i64 0]) := by
  have h := walk_back k ((wday x - w + 7) % 7).toNat f x t n w (by omega) (by omega) (by omega) hw
  rw [h]; unfold back
  rw [show ((((wday x - w + 7) % 7).toNat : Nat) : Int) = (wday x - w + 7) % 7 by omega]
theorem wf (k f : Nat) (x t n w : Int) (hf : 10 ≤ f) (hx : -800000000 ≤ x ∧ x ≤ 800000000) (hw : 1 ≤ w ∧ w ≤ 7) :
    J_ref16_Day_2040 (CP C (k + 1)) (k + 1) f x 1 t n w = some (.tup [.int .i64 (fwd x w), .int .i64 0]) := by
  have h := walk_fwd k ((w - wday x + 7) % 7).toNat f x t n w (by omega) (by omega) (by omega) hw
  rw [h]; unfold fwd
  rw [show ((((w - wday x + 7) % 7).toNat : Nat) : Int) = (w - wday x + 7) % 7 by omega]

theorem valid1 {y m : Int} (hm : 1 ≤ m ∧ m ≤ 12) : valid y m 1 := ⟨hm, by have := mdays_range (y := y) hm; omega⟩

theorem sp_ref16_Day (k : Nat) (t n w y m : Int) : CP C (k + 203) F_ref16_Day [rule t n w, .int .i64 y, .int .i64 m] = some (.tup [.int .i64 (dayO t n w y m), .int .i64 (dayE t n w y m)]) := by
  rw [eq_ref16_Day]
  unfold R_ref16_Day T_ref16_Day_1
  rw [sp_ref14_MayDay (k + 201), sp_ref06_MonthDays (k + 200)]
  simp only [k_bind, k_int, k_bool, ↓c_not]
  unfold dayO
  by_cases h0 : dayE t n w y m = 0
  · rw [if_pos h0]
    obtain ⟨h1, h2, h3, h4⟩ := dayE_zero h0
    have hmd := mdays_range (y := y) h2
    have hn := num_small (y := y) (m := m) (d := 1) (by omega) (by omega)
    have hN := sp_ref06_Number k y m 1 (valid1 h2) (by omega)
    have c1 : ¬ m < 1 := by omega
    have c5 : ¬ m > 12 := by omega
    have c2 : ¬ y < -9999 := by omega
    have c3 : ¬ y > 10000 := by omega
    rw [h0]
    rcases h1 with ⟨rfl, g1, rfl⟩ | ⟨rfl, rfl, g2⟩ | ⟨ht, g1, g2⟩
    · have c4 : ¬ n > mdays y m := fun g => h3 ⟨rfl, g⟩
      have hm : mayD 0 n 0 := .inl ⟨rfl, g1, rfl⟩
      have e : IntKind.i64.wrap (IntKind.i64.wrap (num y m 1 + n) - 1) = num y m 1 + n - 1 := by simp (disch := omega) only [w64]
      simp only [decide_eq_true hm, cond_true, decide_eq_false c1, decide_eq_false c5, cond_false, beq_self_eq_true, decide_eq_false c4, decide_eq_false c2, decide_eq_false c3, hN, k_bind, k_int, e]
      rfl
    · have hm : mayD 1 0 w := .inr (.inl ⟨rfl, rfl, g2⟩)
      have e : IntKind.i64.wrap (IntKind.i64.wrap (num y m 1 + mdays y m) - 1) = num y m 1 + mdays y m - 1 := by simp (disch := omega) only [w64]
      simp only [decide_eq_true hm, cond_true, decide_eq_false c1, decide_eq_false c5, cond_false, beq_self_eq_true, decide_eq_false c2, decide_eq_false c3, show ((1 : Int) == 0) = false from rfl, hN, k_bind, k_int, e]
      exact wb (k + 201) _ _ _ _ _ (by omega) (by omega) g2
    · have hm : mayD t n w := .inr (.inr ⟨ht, g1, g2⟩)
      have e : IntKind.i64.wrap (IntKind.i64.wrap (num y m 1 + n) - 1) = num y m 1 + n - 1 := by simp (disch := omega) only [w64]
      rcases ht with rfl | rfl
      · simp only [decide_eq_true hm, cond_true, decide_eq_false c1, decide_eq_false c5, cond_false, beq_self_eq_true, decide_eq_false c2, decide_eq_false c3, show ((2 : Int) == 0) = false from rfl, show ((2 : Int) == 1) = false from rfl, show ((2 : Int) == 3) = false from rfl, hN, k_bind, k_int, e]
        exact wf (k + 201) _ _ _ _ _ (by omega) (by omega) g2
      · simp only [decide_eq_true hm, cond_true, decide_eq_false c1, decide_eq_false c5, cond_false, beq_self_eq_true, decide_eq_false c2, decide_eq_false c3, show ((3 : Int) == 0) = false from rfl, show ((3 : Int) == 1) = false from rfl, hN, k_bind, k_int, e]
        exact wb (k + 201) _ _ _ _ _ (by omega) (by omega) g2
  · rw [if_neg h0]
    have hmd := mdays_le y m
    unfold dayE at h0 ⊢
    by_cases h1 : mayD t n w
    · rw [if_neg (Classical.not_not.2 h1)] at h0 ⊢
      rw [decide_eq_true h1, cond_true]
      by_cases h2 : mdays y m = 0
      · rw [if_pos h2]
        by_cases g : m < 1
        · rw [decide_eq_true g, cond_true]
        · have : m > 12 := by unfold mdays at h2; have := lp_range y; omega
          rw [decide_eq_false g, cond_false, decide_eq_true this, cond_true]
      · rw [if_neg h2] at h0 ⊢
        have h2' : 1 ≤ m ∧ m ≤ 12 := by unfold mdays at h2; omega
        rw [decide_eq_false (show ¬ m < 1 by omega), cond_false, decide_eq_false (show ¬ m > 12 by omega), cond_false]
        have yr : ∀ X : Option AV, (y < -9999 ∨ y > 10000) → cond (decide (y < -9999)) (some (AV.tup [.int .i64 0, .int .i64 8])) (cond (decide (y > 10000)) (some (AV.tup [.int .i64 0, .int .i64 8])) X) = some (AV.tup [.int .i64 0, .int .i64 8]) := by
          intro X hh
          by_cases g : y < -9999
          · rw [decide_eq_true g, cond_true]
          · rw [decide_eq_false g, cond_false, decide_eq_true (show y > 10000 by omega), cond_true]
        by_cases h3 : t = 0
        · rw [show (t == 0) = true by rw [beq_iff_eq]; exact h3, cond_true]
          by_cases h4 : n > mdays y m
          · rw [decide_eq_true h4, cond_true, if_pos ⟨h3, h4⟩]
          · rw [if_neg (fun g => h4 g.2)] at h0 ⊢
            have hh : y < -9999 ∨ y > 10000 := by apply Classical.byContradiction; intro hn; exact h0 (if_neg hn)
            rw [decide_eq_false h4, cond_false, if_pos hh]
            exact yr _ hh
        · rw [show (t == 0) = false by rw [beq_eq_false_iff_ne]; exact h3, cond_false]
          rw [if_neg (fun g => h3 g.1)] at h0 ⊢
          have hh : y < -9999 ∨ y > 10000 := by apply Classical.byContradiction; intro hn; exact h0 (if_neg hn)
          rw [if_pos hh]
          exact yr _ hh
    · rw [if_pos h1, decide_eq_false h1, cond_false]

theorem sp_awake (k : Nat) : CP C (k + 6) F_law16_awake [] = some (.bool true) := by
  rw [eq_law16_awake]
  unfold R_law16_awake
  rw [sp_yearly_Day k 1 0 7 2024 3, sp_yearly_Day k 3 3 7 2024 3, sp_yearly_Day k 0 29 0 2023 2]
  rfl

theorem law_YearlyDays (k : Nat) (t n w y m : Int) : CP C (k + 204) F_law16_YearlyDays [rule t n w, .int .i64 y, .int .i64 m] = some (.bool true) := by
  rw [eq_law16_YearlyDays]
  unfold R_law16_YearlyDays
  rw [sp_yearly_Day (k + 198), sp_ref16_Day k, sp_awake (k + 197)]
  simp only [k_int, k_anyInt, k_bool, k_str, k_agg, k_tup, k_cons, k_nil, k_bind, ↓c_not, ↓c_bne, ite_cond, Bool.and_eq_true, Bool.or_eq_true, beq_iff_eq, Bool.and_true, decide_eq_true_eq, Bool.false_eq_true, if_true, if_false, bne_self_eq_false, and_self, Int.reduceEq, Int.reduceLT, Int.reduceNeg, beq_self_eq_true]

theorem law_YearlyWeekdays (k : Nat) (t n w y m : Int) : CP C (k + 204) F_law16_YearlyWeekdays [rule t n w, .int .i64 y, .int .i64 m] = some (.bool true) := by
  rw [eq_law16_YearlyWeekdays]
  unfold R_law16_YearlyWeekdays
  rw [sp_yearly_Day (k + 198), sp_awake (k + 197)]
  unfold dayO
  by_cases h0 : dayE t n w y m = 0
  · rw [if_pos h0, h0]
    obtain ⟨h1, h2, h3, h4⟩ := dayE_zero h0
    have hmd := mdays_range (y := y) h2
    have hn := num_small (y := y) (m := m) (d := 1) (by omega) (by omega)
    have hN := sp_ref06_Number (k + 1) y m 1 (valid1 h2) (by omega)
    have f0 : ((0 : Int) != 0) = false := rfl
    rcases h1 with ⟨rfl, g1, rfl⟩ | ⟨rfl, rfl, g2⟩ | ⟨ht, g1, g2⟩
    · simp only [k_bind, k_tup, k_cons, k_int, k_nil, f0, cond_false, beq_self_eq_true, cond_true, k_bool]
    · have hv : dayV 1 0 w y m = back (num y m 1 + mdays y m - 1) w := rfl
      have hr := wday_range (num y m 1 + mdays y m - 1)
      have hb : wday (back (num y m 1 + mdays y m - 1) w) = w := by unfold back wday at *; omega
      have hd : 0 ≤ num y m 1 + mdays y m - 1 - back (num y m 1 + mdays y m - 1) w ∧ num y m 1 + mdays y m - 1 - back (num y m 1 + mdays y m - 1) w < 7 := by unfold back; omega
      rw [hv]
      simp only [k_bind, k_tup, k_cons, k_int, k_nil, f0, cond_false, show ((1 : Int) == 0) = false from rfl, beq_self_eq_true, cond_true, hN, sp_ref06_MonthDays (k + 201), sp_ref06_Weekday (k + 202), hb]
      rw [bnd_eq _ (show _ = num y m 1 + mdays y m - 1 - back (num y m 1 + mdays y m - 1) w by simp (disch := omega) only [w64])]
      simp only [decide_eq_true hd.2, decide_eq_true (show num y m 1 + mdays y m - 1 - back (num y m 1 + mdays y m - 1) w ≥ 0 from hd.1), cond_true, k_bool]
    · rcases ht with rfl | rfl
      · have hv : dayV 2 n w y m = fwd (num y m 1 + n - 1) w := rfl
        have hr := wday_range (num y m 1 + n - 1)
        have hb : wday (fwd (num y m 1 + n - 1) w) = w := by unfold fwd wday at *; omega
        have hd : 0 ≤ fwd (num y m 1 + n - 1) w - num y m 1 - n + 1 ∧ fwd (num y m 1 + n - 1) w - num y m 1 - n + 1 < 7 := by unfold fwd; omega
        have hg : -100000000 ≤ fwd (num y m 1 + n - 1) w ∧ fwd (num y m 1 + n - 1) w ≤ 100000000 := by omega
        rw [hv]
        simp only [k_bind, k_tup, k_cons, k_int, k_nil, f0, cond_false, show ((2 : Int) == 0) = false from rfl, show ((2 : Int) == 1) = false from rfl, beq_self_eq_true, cond_true, hN, sp_ref06_Weekday (k + 202), hb]
        rw [bnd_eq _ (show _ = fwd (num y m 1 + n - 1) w - num y m 1 - n + 1 by simp (disch := omega) only [w64])]
        simp only [decide_eq_true hd.2, decide_eq_true (show fwd (num y m 1 + n - 1) w - num y m 1 - n + 1 ≥ 0 from hd.1), cond_true, k_bool]
      · have hv : dayV 3 n w y m = back (num y m 1 + n - 1) w := rfl
        have hr := wday_range (num y m 1 + n - 1)
        have hb : wday (back (num y m 1 + n - 1) w) = w := by unfold back wday at *; omega
        have hd : 0 ≤ num y m 1 + n - 1 - back (num y m 1 + n - 1) w ∧ num y m 1 + n - 1 - back (num y m 1 + n - 1) w < 7 := by unfold back; omega
        rw [hv]
        simp only [k_bind, k_tup, k_cons, k_int, k_nil, f0, cond_false, show ((3 : Int) == 0) = false from rfl, show ((3 : Int) == 1) = false from rfl, show ((3 : Int) == 2) = false from rfl, beq_self_eq_true, cond_true, hN, sp_ref06_Weekday (k + 202), hb]
        rw [bnd_eq _ (show _ = num y m 1 + n - 1 - back (num y m 1 + n - 1) w by simp (disch := omega) only [w64])]
        simp only [decide_eq_true hd.2, decide_eq_true (show num y m 1 + n - 1 - back (num y m 1 + n - 1) w ≥ 0 from hd.1), cond_true, k_bool]
  · rw [if_neg h0]
    simp only [k_bind, k_tup, k_cons, k_int, k_nil, k_bool, show (dayE t n w y m != 0) = true by rw [bne_iff_ne]; exact h0, cond_true]
end Go.Proofs.Ytoidepknicafhaa.Sim.S
