/- Week-numbered years, and their laws. Condition: none beyond what each theorem says. -/
import Derived.Test.YtleedachcphbmaaSpecCivil
set_option linter.unusedSimpArgs false
namespace Go.Proofs.Ytleedachcphbmaa.Sim.S
open Go Civil

theorem wday_range (x : Int) : 1 ≤ wday x ∧ wday x ≤ 7 := by unfold wday; omega
theorem wday_shift (x k : Int) : wday (x + 146097 * k) = wday x := by unfold wday; omega
/-- The day ahead of week 1. -/
def beg (y : Int) : Int := if wday (jan1 y) ≤ 4 then jan1 y - wday (jan1 y) else jan1 y + 7 - wday (jan1 y)
def wks (y : Int) : Int := if wday (jan1 y) = 4 ∨ (wday (jan1 y) = 3 ∧ leap y) then 53 else 52
def lk (y : Int) : Int := 2000 + y % 400
theorem wks_range (y : Int) : wks y = 52 ∨ wks y = 53 := by unfold wks; split <;> omega
theorem beg_succ (y : Int) : beg (y + 1) = beg y + 7 * wks y := by
  have h := jan1_succ y
  have hy : ydays y = 365 + if leap y then 1 else 0 := rfl
  unfold beg wks
  rw [h]
  by_cases g : leap y
  · rw [if_pos g] at hy; simp only [g, and_true]; unfold wday; omega
  · rw [if_neg g] at hy; simp only [g, and_false, or_false]; unfold wday; omega
theorem beg_near (y : Int) : jan1 y - 4 ≤ beg y ∧ beg y ≤ jan1 y + 2 := by
  have := wday_range (jan1 y)
  unfold beg; omega
theorem beg_one (y : Int) : beg y + 1 = num y 1 4 - wday (num y 1 4) + 1 := by
  have : num y 1 4 = jan1 y + 3 := by unfold num; rw [cum_1]; omega
  rw [this]; unfold beg wday; omega
theorem jan1_like (y : Int) : jan1 (lk y) = jan1 y + 146097 * (5 - y / 400) := by unfold lk jan1; omega
theorem leap_like (y : Int) : leap (lk y) ↔ leap y := by unfold lk leap; omega
theorem beg_like (y : Int) : beg (lk y) = beg y + 146097 * (5 - y / 400) := by
  unfold beg; rw [jan1_like, wday_shift]; omega
theorem wks_like (y : Int) : wks (lk y) = wks y := by
  unfold wks; rw [jan1_like, wday_shift]; simp only [leap_like]
theorem lk_range (y : Int) : 2000 ≤ lk y ∧ lk y < 2400 := by unfold lk; omega
theorem lk_succ (y : Int) : lk y + 1 = y + 1 + 400 * (5 - y / 400) := by unfold lk; omega
theorem jan1_shift (y k : Int) : jan1 (y + 400 * k) = jan1 y + 146097 * k := by unfold jan1; omega
theorem beg_shift (y k : Int) : beg (y + 400 * k) = beg y + 146097 * k := by
  unfold beg; rw [jan1_shift, wday_shift]; omega

theorem sp_Number (k : Nat) (y : Int) (hy : -1000000 ≤ y ∧ y ≤ 1000000) : CP C (k + 3) F_civil_Number [.int .i64 y, .int .i64 1, .int .i64 1] = some (.int .i64 (jan1 y)) := by
  rw [eq_civil_Number]
  unfold R_civil_Number
  rw [sp_civil_number k y 1 1 hy (by omega) (by omega)]
  rw [show num y 1 1 = jan1 y by unfold num; rw [cum_1]; omega]; rfl
theorem sp_begin (k : Nat) (y : Int) (hy : -30000 ≤ y ∧ y ≤ 30000) : CP C (k + 4) F_weeks_begin [.int .i64 y] = some (.int .i64 (beg y)) := by
  rw [eq_weeks_begin]
  unfold R_weeks_begin
  have hb := jan1_b hy
  have hw := wday_range (jan1 y)
  rw [sp_Number k y (by omega)]
  simp only [k_bind, k_int]
  rw [sp_civil_Weekday (k + 1) (jan1 y) (by omega)]
  simp only [k_bind, k_int]
  unfold beg
  by_cases g : wday (jan1 y) ≤ 4
  · rw [decide_eq_true g, cond_true, if_pos g, w64 (by omega)]
  · rw [decide_eq_false g, cond_false, if_neg g]
    simp (disch := omega) only [w64]

/-! ### what is answered -/
def wY (y m d : Int) : Int := if num y m d > beg (y + 1) then y + 1 else if num y m d > beg y then y else y - 1
def wW (y m d : Int) : Int := (num y m d - beg (wY y m d) + 6) / 7
def vY (y m d : Int) : Int := if cE y m d = 0 then wY y m d else 0
def vW (y m d : Int) : Int := if cE y m d = 0 then wW y m d else 0
def vD (y m d : Int) : Int := if cE y m d = 0 then wday (num y m d) else 0
abbrev ofV (y m d : Int) : AV := .tup [.int .i64 (vY y m d), .int .i64 (vW y m d), .int .i64 (vD y m d), .int .i64 (cE y m d)]

theorem wY_facts {y m d : Int} (hv : valid y m d) : (y - 1 ≤ wY y m d ∧ wY y m d ≤ y + 1) ∧ beg (wY y m d) < num y m d ∧ num y m d ≤ beg (wY y m d + 1) := by
  have h := num_in_year hv
  have h0 := beg_succ (y - 1)
  rw [Int.sub_add_cancel] at h0
  have h1 := beg_succ y
  have h2 := beg_succ (y + 1)
  have a0 := wks_range (y - 1)
  have a1 := wks_range y
  have a2 := wks_range (y + 1)
  have n0 := beg_near y
  have n1 := beg_near (y + 1)
  unfold wY
  by_cases g : num y m d > beg (y + 1)
  · rw [if_pos g]; exact ⟨by omega, by omega, by omega⟩
  · rw [if_neg g]
    by_cases g2 : num y m d > beg y
    · rw [if_pos g2]; exact ⟨by omega, by omega, by omega⟩
    · rw [if_neg g2, Int.sub_add_cancel]; exact ⟨by omega, by omega, by omega⟩

theorem of_loop (k : Nat) (y m d x w : Int) (hx : x = num y m d) (hv : valid y m d) (hy : -9999 ≤ y ∧ y ≤ 9999) :
    J_weeks_Of_1012 (CP C (k + 5)) (k + 5) (k + 5 + 300) x w (y - 1) 0 y m d = some (.tup [.int .i64 (wY y m d), .int .i64 (wW y m d), .int .i64 w, .int .i64 0]) := by
  have hr := num_bound hv hy
  have e1 : IntKind.i64.wrap (IntKind.i64.wrap (y - 1) + 0) = y - 1 := by simp (disch := omega) only [w64]; omega
  have e2 : IntKind.i64.wrap (IntKind.i64.wrap (y - 1) + 1) = y := by simp (disch := omega) only [w64]; omega
  have e3 : IntKind.i64.wrap (IntKind.i64.wrap (y - 1) + 2) = y + 1 := by simp (disch := omega) only [w64]; omega
  have s1 : IntKind.i64.wrap (0 + 1) = 1 := by decide
  have s2 : IntKind.i64.wrap (1 + 1) = 2 := by decide
  have s3 : IntKind.i64.wrap (2 + 1) = 3 := by decide
  have b0 := sp_begin (k + 1) (y - 1) (by omega)
  have b1 := sp_begin (k + 1) y (by omega)
  have b2 := sp_begin (k + 1) (y + 1) (by omega)
  have hf := wY_facts hv
  have nb : ∀ z, y - 1 ≤ z → z ≤ y + 1 → -13000000 ≤ beg z ∧ beg z ≤ 13000000 := by
    intro z hz hz2
    have := beg_near z
    have := jan1_b (show -30000 ≤ z ∧ z ≤ 30000 by omega)
    omega
  have fin : ∀ (f : Nat) (z : Int), y - 1 ≤ z → z ≤ y + 1 → wY y m d = z → J_weeks_Of_1012 (CP C (k + 5)) (k + 5) (f + 1) x w z 3 y m d = some (.tup [.int .i64 (wY y m d), .int .i64 (wW y m d), .int .i64 w, .int .i64 0]) := by
    intro f z hz hz2 he
    have := nb z hz hz2
    rw [Js_weeks_Of_1012]
    unfold T_weeks_Of_1012 J_weeks_Of_2025 T_weeks_Of_2025
    rw [show decide ((3 : Int) < 3) = false from rfl, cond_false, sp_begin (k + 1) z (by omega)]
    simp only [k_bind, k_int]
    rw [hx]
    rw [bnd_eq _ (show _ = num y m d - beg z + 6 by simp (disch := omega) only [w64]; omega)]
    unfold wW
    rw [he] at hf ⊢
    rw [show IntKind.i64.wrap (Int.tdiv (num y m d - beg z + 6) 7) = (num y m d - beg z + 6) / 7 by simp (disch := omega) only [td_nn, w64]]
  have st2 : ∀ (f : Nat) (z : Int), (z = y - 1 ∨ z = y) → (z = y - 1 → num y m d ≤ beg y) → (z = y → num y m d > beg y) → J_weeks_Of_1012 (CP C (k + 5)) (k + 5) (f + 2) x w z 2 y m d = some (.tup [.int .i64 (wY y m d), .int .i64 (wW y m d), .int .i64 w, .int .i64 0]) := by
    intro f z hz g1 g2
    rw [Js_weeks_Of_1012]
    unfold T_weeks_Of_1012 J_weeks_Of_2025 T_weeks_Of_2025
    rw [show decide ((2 : Int) < 3) = true from rfl, cond_true, e3, b2, s3]
    simp only [k_bind, k_int]
    rw [hx] at fin ⊢
    have bs := beg_succ y
    have wr := wks_range y
    by_cases g : num y m d > beg (y + 1)
    · rw [decide_eq_true g, cond_true]
      exact fin f (y + 1) (by omega) (by omega) (by unfold wY; rw [if_pos g])
    · rw [decide_eq_false g, cond_false]
      refine fin f z (by omega) (by omega) ?_
      unfold wY; rw [if_neg g]
      rcases hz with h | h
      · rw [if_neg (by have := g1 h; omega)]; exact h.symm
      · rw [if_pos (g2 h)]; exact h.symm
  have st1 : ∀ (f : Nat), J_weeks_Of_1012 (CP C (k + 5)) (k + 5) (f + 3) x w (y - 1) 1 y m d = some (.tup [.int .i64 (wY y m d), .int .i64 (wW y m d), .int .i64 w, .int .i64 0]) := by
    intro f
    rw [Js_weeks_Of_1012]
    unfold T_weeks_Of_1012 J_weeks_Of_2025 T_weeks_Of_2025
    rw [show decide ((1 : Int) < 3) = true from rfl, cond_true, e2, b1, s2]
    simp only [k_bind, k_int]
    by_cases g : x > beg y
    · rw [decide_eq_true g, cond_true]
      exact st2 f y (.inr rfl) (fun h => by omega) (fun _ => by omega)
    · rw [decide_eq_false g, cond_false]
      exact st2 f (y - 1) (.inl rfl) (fun _ => by omega) (fun h => by omega)
  rw [show k + 5 + 300 = (k + 301) + 3 + 1 by omega, Js_weeks_Of_1012]
  unfold T_weeks_Of_1012 J_weeks_Of_2025 T_weeks_Of_2025
  rw [show decide ((0 : Int) < 3) = true from rfl, cond_true, e1, b0, s1]
  simp only [k_bind, k_int]
  cases decide (x > beg (y - 1))
  · rw [cond_false]; exact st1 _
  · rw [cond_true]; exact st1 _

theorem sp_weeks_Of (k : Nat) (y m d : Int) : CP C (k + 6) F_weeks_Of [date y m d] = some (ofV y m d) := by
  rw [eq_weeks_Of]
  unfold R_weeks_Of T_weeks_Of_1
  rw [sp_civil_Days (k + 1)]
  simp only [k_bind, k_tup, k_cons, k_int, k_nil, ↓c_bne]
  unfold ofV vY vW vD nE
  by_cases h : cE y m d = 0
  · obtain ⟨hv, hy⟩ := cE_zero.1 h
    have hr := num_bound hv hy
    rw [if_pos h, if_pos h, if_pos h, if_pos h, h, beq_self_eq_true, cond_true, sp_civil_Weekday (k + 3) _ (by omega)]
    simp only [k_bind, k_int]
    rw [w64 (by omega)]
    exact of_loop k y m d _ _ rfl hv hy
  · rw [if_neg h, if_neg h, if_neg h, if_neg h, show (cE y m d == 0) = false by rw [beq_eq_false_iff_ne]; exact h, cond_false]

/-! ### the document's answer -/
theorem sp_like (k : Nat) (y : Int) : CP C (k + 1) F_ref07_like [.int .i64 y] = some (.int .i64 (lk y)) := by
  rw [eq_ref07_like]
  unfold R_ref07_like lk
  by_cases g : Int.tmod y 400 < 0
  · have e1 : IntKind.i64.wrap (Int.tmod y 400 + 400) = y % 400 := by simp only [IntKind.wrap_i64, tdiv_pos, tmod_pos, Int.reduceLT] at g ⊢; omega
    rw [decide_eq_true g, cond_true, e1, bnd_eq _ (show _ = 2000 + y % 400 by rw [w64 (by omega)])]
  · have e1 : Int.tmod y 400 = y % 400 := by simp only [IntKind.wrap_i64, tdiv_pos, tmod_pos, Int.reduceLT] at g ⊢; omega
    rw [decide_eq_false g, cond_false, e1, w64 (by omega)]
theorem beg_b {y : Int} (h : -30000 ≤ y ∧ y ≤ 30000) : -13000000 ≤ beg y ∧ beg y ≤ 13000000 := by
  have := beg_near y
  have := jan1_b h
  omega
theorem sp_one (k : Nat) (y : Int) (h : -10000 ≤ y ∧ y ≤ 10000) : CP C (k + 203) F_ref07_one [.int .i64 y] = some (.int .i64 (beg y + 1)) := by
  rw [eq_ref07_one]
  unfold R_ref07_one
  have hv : valid y 1 4 := ⟨by omega, by have := mdays_range (y := y) (m := 1) (by omega); omega⟩
  have hn : num y 1 4 = jan1 y + 3 := by unfold num; rw [cum_1]; omega
  have hj := jan1_b (show -30000 ≤ y ∧ y ≤ 30000 by omega)
  have hw := wday_range (num y 1 4)
  rw [sp_ref06_Number k y 1 4 hv (by omega)]
  simp only [k_bind, k_int]
  rw [sp_ref06_Weekday (k + 201)]
  simp only [k_bind, k_int]
  rw [beg_one y]
  simp (disch := omega) only [w64]
theorem lp_like (y : Int) : lp (lk y) = lp y := by unfold lp; simp only [leap_like]
theorem cum_like (y m : Int) : cum (lk y) m = cum y m := by unfold cum; rw [lp_like]
theorem mdays_like (y m : Int) : mdays (lk y) m = mdays y m := by unfold mdays; rw [lp_like]
theorem num_like (y m d : Int) : num (lk y) m d = num y m d + 146097 * (5 - y / 400) := by unfold num; rw [cum_like, jan1_like]; omega

theorem of508 (k f : Nat) (y m d : Int) (hv : valid y m d) (hy : -9999 ≤ y ∧ y ≤ 9999) :
    J_ref07_Of_508 (CP C (k + 203)) (k + 203) (f + 3) (num (lk y) m d) (lk y + 1) y m d (lk y) = some (.tup [.int .i64 (wY y m d), .int .i64 (wW y m d), .int .i64 (wday (num y m d)), .int .i64 0]) := by
  have hl := lk_range y
  have hvl : valid (lk y) m d := ⟨hv.1, by rw [mdays_like]; exact hv.2⟩
  have hr := num_bound hvl (by omega)
  have hn := num_like y m d
  have hf := wY_facts hv
  have b1 : beg (lk y + 1) = beg (y + 1) + 146097 * (5 - y / 400) := by rw [lk_succ]; exact beg_shift _ _
  have b0 : beg (lk y) = beg y + 146097 * (5 - y / 400) := beg_like y
  have bm : beg (lk y - 1) = beg (y - 1) + 146097 * (5 - y / 400) := by
    rw [show lk y - 1 = y - 1 + 400 * (5 - y / 400) by unfold lk; omega]; exact beg_shift _ _
  have hwd : wday (num (lk y) m d) = wday (num y m d) := by rw [hn, wday_shift]
  have fin : ∀ (g : Nat) (e : Int), (e = 1 ∨ e = 0 ∨ e = -1) → beg (lk y + e) = beg (y + e) + 146097 * (5 - y / 400) → wY y m d = y + e → num y m d > beg (y + e) →
      J_ref07_Of_508 (CP C (k + 203)) (k + 203) (g + 1) (num (lk y) m d) (lk y + e) y m d (lk y) = some (.tup [.int .i64 (wY y m d), .int .i64 (wW y m d), .int .i64 (wday (num y m d)), .int .i64 0]) := by
    intro g e he hb hw hgt
    have hbb := beg_b (y := lk y + e) (by omega)
    rw [Js_ref07_Of_508]
    unfold T_ref07_Of_508
    rw [sp_one k (lk y + e) (by omega)]
    simp only [k_bind, k_int]
    rw [decide_eq_true (show num (lk y) m d ≥ beg (lk y + e) + 1 by omega), cond_true]
    rw [bnd_eq _ (show _ = (num (lk y) m d - (beg (lk y + e) + 1)) / 7 + 1 by simp (disch := omega) only [w64, td_nn])]
    rw [sp_ref06_Weekday (k + 202)]
    simp only [k_bind, k_int]
    rw [hwd, show IntKind.i64.wrap (IntKind.i64.wrap (y + (lk y + e)) - lk y) = wY y m d by simp (disch := omega) only [w64]; omega]
    rw [show (num (lk y) m d - (beg (lk y + e) + 1)) / 7 + 1 = wW y m d by unfold wW; rw [hw]; omega]
  have skip : ∀ (g : Nat) (e : Int), (e = 1 ∨ e = 0) → beg (lk y + e) = beg (y + e) + 146097 * (5 - y / 400) → ¬ num y m d > beg (y + e) →
      J_ref07_Of_508 (CP C (k + 203)) (k + 203) (g + 1) (num (lk y) m d) (lk y + e) y m d (lk y) = J_ref07_Of_508 (CP C (k + 203)) (k + 203) g (num (lk y) m d) (lk y + (e - 1)) y m d (lk y) := by
    intro g e he hb hgt
    rw [Js_ref07_Of_508]
    unfold T_ref07_Of_508
    rw [sp_one k (lk y + e) (by omega)]
    simp only [k_bind, k_int]
    rw [decide_eq_false (show ¬ num (lk y) m d ≥ beg (lk y + e) + 1 by omega), cond_false, w64 (by omega), show lk y + e - 1 = lk y + (e - 1) by omega]
  by_cases g1 : num y m d > beg (y + 1)
  · exact fin (f + 2) 1 (.inl rfl) b1 (by unfold wY; rw [if_pos g1]) g1
  · rw [skip (f + 2) 1 (.inl rfl) b1 g1, show (1 : Int) - 1 = 0 by rfl]
    by_cases g0 : num y m d > beg y
    · exact fin (f + 1) 0 (.inr (.inl rfl)) (by simpa using b0) (by unfold wY; rw [if_neg g1, if_pos g0]; omega) (by simpa using g0)
    · rw [skip (f + 1) 0 (.inr rfl) (by simpa using b0) (by simpa using g0), show (0 : Int) - 1 = -1 by rfl]
      have hw : wY y m d = y + -1 := by unfold wY; rw [if_neg g1, if_neg g0]; omega
      exact fin f (-1) (.inr (.inr rfl)) bm hw (by rw [hw] at hf; omega)

theorem sp_ref07_Of (k : Nat) (y m d : Int) : CP C (k + 204) F_ref07_Of [date y m d] = some (ofV y m d) := by
  rw [eq_ref07_Of]
  unfold R_ref07_Of T_ref07_Of_1
  rw [sp_ref06_Check (k + 199)]
  simp only [k_bind, k_int, ↓c_bne]
  unfold ofV vY vW vD
  by_cases h : cE y m d = 0
  · obtain ⟨hv, hy⟩ := cE_zero.1 h
    have hl := lk_range y
    have hvl : valid (lk y) m d := ⟨hv.1, by rw [mdays_like]; exact hv.2⟩
    rw [if_pos h, if_pos h, if_pos h, h, beq_self_eq_true, cond_true, sp_like (k + 202)]
    simp only [k_bind, k_int]
    rw [sp_ref06_Number (k + 1) (lk y) m d hvl (by omega)]
    simp only [k_bind, k_int]
    rw [w64 (by omega), show k + 203 + 300 = (k + 500) + 3 by omega]
    exact of508 k _ y m d hv hy
  · rw [if_neg h, if_neg h, if_neg h, show (cE y m d == 0) = false by rw [beq_eq_false_iff_ne]; exact h, cond_false]

theorem sp_first (k : Nat) (y : Int) : CP C (k + 4) F_weeks_first [.int .i64 y] = some (.int .i64 (wday (jan1 y))) := by
  rw [eq_weeks_first]
  unfold R_weeks_first
  have hl := lk_range y
  have hj := jan1_b (show -30000 ≤ lk y ∧ lk y ≤ 30000 by omega)
  have hw : wday (jan1 (lk y)) = wday (jan1 y) := by rw [jan1_like, wday_shift]
  have f1 := sp_Number k (lk y) (by omega)
  have f2 := sp_civil_Weekday (k + 1) (jan1 (lk y)) (by omega)
  rw [hw] at f2
  by_cases g : Int.tmod y 400 < 0
  · have e1 : IntKind.i64.wrap (Int.tmod y 400 + 400) = y % 400 := by simp only [IntKind.wrap_i64, tdiv_pos, tmod_pos, Int.reduceLT] at g ⊢; omega
    rw [decide_eq_true g, cond_true, e1, bnd_eq _ (show _ = lk y by unfold lk; rw [w64 (by omega)])]
    simp only [f1, f2, k_bind, k_int]
  · have e1 : Int.tmod y 400 = y % 400 := by simp only [IntKind.wrap_i64, tdiv_pos, tmod_pos, Int.reduceLT] at g ⊢; omega
    rw [decide_eq_false g, cond_false, e1, show IntKind.i64.wrap (2000 + y % 400) = lk y by unfold lk; rw [w64 (by omega)]]
    simp only [f1, f2, k_bind, k_int]
theorem sp_Weeks (k : Nat) (y : Int) : CP C (k + 5) F_weeks_Weeks [.int .i64 y] = some (.int .i64 (wks y)) := by
  rw [eq_weeks_Weeks]
  unfold R_weeks_Weeks wks
  rw [sp_first]
  simp only [k_bind, k_int]
  by_cases h4 : wday (jan1 y) = 4
  · rw [h4]; simp
  · rw [show (wday (jan1 y) == 4) = false by rw [beq_eq_false_iff_ne]; exact h4, cond_false]
    by_cases h3 : wday (jan1 y) = 3
    · rw [h3, sp_civil_Leap (k + 3)]
      simp only [beq_self_eq_true, cond_true, k_bind, k_bool]
      by_cases g : leap y <;> simp [g]
    · rw [show (wday (jan1 y) == 3) = false by rw [beq_eq_false_iff_ne]; exact h3, cond_false, if_neg (by omega)]
theorem sp_ref07_Weeks (k : Nat) (y : Int) : CP C (k + 204) F_ref07_Weeks [.int .i64 y] = some (.int .i64 (wks y)) := by
  rw [eq_ref07_Weeks]
  unfold R_ref07_Weeks
  have hl := lk_range y
  have hb := beg_b (y := lk y) (by omega)
  have hs := beg_succ (lk y)
  rw [wks_like] at hs
  have hw := wks_range y
  rw [sp_like (k + 202)]
  simp only [k_bind, k_int]
  rw [w64 (show -9223372036854775808 ≤ lk y + 1 ∧ lk y + 1 ≤ 9223372036854775807 by omega), sp_one k (lk y + 1) (by omega), sp_one k (lk y) (by omega)]
  simp only [k_bind, k_int]
  rw [show IntKind.i64.wrap (Int.tdiv (IntKind.i64.wrap (beg (lk y + 1) + 1 - (beg (lk y) + 1))) 7) = wks y by simp (disch := omega) only [w64, td_nn]; omega]

def wdE (y w d : Int) : Int := if w < 1 ∨ w > wks y ∨ d < 1 ∨ d > 7 then 7 else if y < -10000 ∨ y > 10000 then 8 else 0
def wdN (y w d : Int) : Int := beg y + (w - 1) * 7 + d
def xY (y w d : Int) : Int := if wdE y w d = 0 then gY (wdN y w d) else 0
def xM (y w d : Int) : Int := if wdE y w d = 0 then gM (wdN y w d) else 0
def xD (y w d : Int) : Int := if wdE y w d = 0 then gD (wdN y w d) else 0
def xE (y w d : Int) : Int := if wdE y w d = 0 then gE (wdN y w d) else wdE y w d
abbrev dtV (y w d : Int) : AV := .tup [date (xY y w d) (xM y w d) (xD y w d), .int .i64 (xE y w d)]
theorem wdE_zero {y w d : Int} (h : wdE y w d = 0) : (1 ≤ w ∧ w ≤ wks y) ∧ (1 ≤ d ∧ d ≤ 7) ∧ (-10000 ≤ y ∧ y ≤ 10000) := by
  have := wks_range y
  unfold wdE at h; omega
/-- The tests ahead of the day's number. -/
theorem tests {y w d : Int} {X : Option AV} (hX : wdE y w d = 0 → X = some (dtV y w d)) :
    cond (decide (w < 1)) (some (AV.tup [date 0 0 0, .int .i64 7]))
      (cond (decide (w > wks y)) (some (AV.tup [date 0 0 0, .int .i64 7]))
      (cond (decide (d < 1)) (some (AV.tup [date 0 0 0, .int .i64 7]))
      (cond (decide (d > 7)) (some (AV.tup [date 0 0 0, .int .i64 7]))
      (cond (decide (y < -10000)) (some (AV.tup [date 0 0 0, .int .i64 8]))
      (cond (decide (y > 10000)) (some (AV.tup [date 0 0 0, .int .i64 8])) X))))) = some (dtV y w d) := by
  by_cases h : wdE y w d = 0
  · obtain ⟨h1, h2, h3⟩ := wdE_zero h
    rw [decide_eq_false (show ¬ w < 1 by omega), cond_false, decide_eq_false (show ¬ w > wks y by omega), cond_false, decide_eq_false (show ¬ d < 1 by omega), cond_false, decide_eq_false (show ¬ d > 7 by omega), cond_false,
      decide_eq_false (show ¬ y < -10000 by omega), cond_false, decide_eq_false (show ¬ y > 10000 by omega), cond_false]
    exact hX h
  · unfold dtV xY xM xD xE
    rw [if_neg h, if_neg h, if_neg h, if_neg h]
    unfold wdE at h ⊢
    by_cases a1 : w < 1
    · rw [decide_eq_true a1, cond_true, if_pos (by omega)]
    rw [decide_eq_false a1, cond_false]
    by_cases a2 : w > wks y
    · rw [decide_eq_true a2, cond_true, if_pos (by omega)]
    rw [decide_eq_false a2, cond_false]
    by_cases a3 : d < 1
    · rw [decide_eq_true a3, cond_true, if_pos (by omega)]
    rw [decide_eq_false a3, cond_false]
    by_cases a4 : d > 7
    · rw [decide_eq_true a4, cond_true, if_pos (by omega)]
    rw [decide_eq_false a4, cond_false]
    rw [if_neg (show ¬ (w < 1 ∨ w > wks y ∨ d < 1 ∨ d > 7) by omega)] at h ⊢
    by_cases a5 : y < -10000
    · rw [decide_eq_true a5, cond_true, if_pos (by omega)]
    rw [decide_eq_false a5, cond_false]
    by_cases a6 : y > 10000
    · rw [decide_eq_true a6, cond_true, if_pos (by omega)]
    exact absurd (if_neg (by omega)) h

theorem sp_weeks_Date (k : Nat) (y w d : Int) : CP C (k + 6) F_weeks_Date [.int .i64 y, .int .i64 w, .int .i64 d] = some (dtV y w d) := by
  rw [eq_weeks_Date]
  unfold R_weeks_Date
  rw [sp_Weeks k]
  simp only [k_bind, k_int]
  refine tests fun h => ?_
  obtain ⟨h1, h2, h3⟩ := wdE_zero h
  have hb := beg_b (y := y) (by omega)
  have hw := wks_range y
  rw [sp_begin (k + 1) y (by omega)]
  simp only [k_bind, k_int]
  rw [bnd_eq _ (show _ = beg y + (w - 1) * 7 by simp (disch := omega) only [w64])]
  rw [w64 (by omega), show beg y + (w - 1) * 7 + d = wdN y w d by rfl, sp_civil_DateOf (k + 3)]
  simp only [k_bind, k_tup, k_cons, k_agg, k_int, k_nil]
  unfold dtV xY xM xD xE
  rw [if_pos h, if_pos h, if_pos h, if_pos h]
theorem sp_ref07_Date (k : Nat) (y w d : Int) : CP C (k + 205) F_ref07_Date [.int .i64 y, .int .i64 w, .int .i64 d] = some (dtV y w d) := by
  rw [eq_ref07_Date]
  unfold R_ref07_Date
  rw [sp_ref07_Weeks k]
  simp only [k_bind, k_int]
  refine tests fun h => ?_
  obtain ⟨h1, h2, h3⟩ := wdE_zero h
  have hl := lk_range y
  have hb := beg_b (y := lk y) (by omega)
  have hs := beg_like y
  have hw := wks_range y
  rw [sp_like (k + 203)]
  simp only [k_bind, k_int]
  rw [sp_one (k + 1) (lk y) (by omega)]
  simp only [k_bind, k_int]
  have e1 : lk y = y + 400 * (5 - y / 400) := by unfold lk; omega
  rw [bnd_eq _ (show _ = beg (lk y) + 1 + 7 * (w - 1) by simp (disch := omega) only [w64])]
  rw [bnd_eq _ (show _ = -(5 - y / 400) by simp (disch := omega) only [w64]; rw [tdiv_pos _ (by decide)]; rw [w64 (by omega)]; omega)]
  rw [bnd_eq _ (show _ = wdN y w d by unfold wdN; simp (disch := omega) only [w64]; omega)]
  rw [sp_ref06_DateOf (k + 3)]
  simp only [k_bind, k_tup, k_cons, k_agg, k_int, k_nil]
  unfold dtV xY xM xD xE
  rw [if_pos h, if_pos h, if_pos h, if_pos h]

theorem sp_awake (k : Nat) : CP C (k + 7) F_law07_awake [] = some (.bool true) := by
  rw [eq_law07_awake]
  unfold R_law07_awake
  rw [sp_weeks_Of k 2021 1 3, sp_weeks_Date k 2020 53 7, sp_weeks_Date k 2021 53 1, sp_Weeks (k + 1) 2020]
  rfl
theorem law_WeeksOf (k : Nat) (y m d : Int) : CP C (k + 205) F_law07_WeeksOf [date y m d] = some (.bool true) := by
  rw [eq_law07_WeeksOf]
  unfold R_law07_WeeksOf
  rw [sp_weeks_Of (k + 198), sp_ref07_Of k, sp_awake (k + 197)]
  simp only [k_int, k_anyInt, k_bool, k_str, k_agg, k_tup, k_cons, k_nil, k_bind, ↓c_not, ↓c_bne, ite_cond, Bool.and_eq_true, Bool.or_eq_true, beq_iff_eq, Bool.and_true, decide_eq_true_eq, Bool.false_eq_true, if_true, if_false, bne_self_eq_false, and_self, Int.reduceEq, Int.reduceLT, Int.reduceNeg, beq_self_eq_true]
theorem law_WeeksDates (k : Nat) (y w d : Int) : CP C (k + 206) F_law07_WeeksDates [.int .i64 y, .int .i64 w, .int .i64 d] = some (.bool true) := by
  rw [eq_law07_WeeksDates]
  unfold R_law07_WeeksDates
  rw [sp_weeks_Date (k + 199), sp_ref07_Date k, sp_Weeks (k + 200), sp_ref07_Weeks (k + 1), sp_awake (k + 198)]
  simp only [k_int, k_anyInt, k_bool, k_str, k_agg, k_tup, k_cons, k_nil, k_bind, ↓c_not, ↓c_bne, ite_cond, Bool.and_eq_true, Bool.or_eq_true, beq_iff_eq, Bool.and_true, decide_eq_true_eq, Bool.false_eq_true, if_true, if_false, bne_self_eq_false, and_self, Int.reduceEq, Int.reduceLT, Int.reduceNeg, beq_self_eq_true]

theorem beg_mod (y : Int) : beg y % 7 = 3 := by unfold beg wday; omega
theorem wW_facts {y m d : Int} (hv : valid y m d) : (1 ≤ wW y m d ∧ wW y m d ≤ wks (wY y m d)) ∧ wdN (wY y m d) (wW y m d) (wday (num y m d)) = num y m d := by
  have hf := wY_facts hv
  have hs := beg_succ (wY y m d)
  have hm := beg_mod (wY y m d)
  unfold wdN
  have hw : wW y m d = (num y m d - beg (wY y m d) + 6) / 7 := rfl
  refine ⟨by omega, ?_⟩
  rw [hw]
  unfold wday
  omega
theorem law_WeeksBack (k : Nat) (y m d : Int) : CP C (k + 8) F_law07_WeeksBack [date y m d] = some (.bool true) := by
  rw [eq_law07_WeeksBack]
  unfold R_law07_WeeksBack
  rw [sp_weeks_Of (k + 1), sp_awake k]
  unfold ofV vY vW vD
  by_cases h : cE y m d = 0
  · obtain ⟨hv, hy⟩ := cE_zero.1 h
    have hr := num_bound hv hy
    have hf := wY_facts hv
    obtain ⟨g1, g2⟩ := wW_facts hv
    have hw := wday_range (num y m d)
    have hE : wdE (wY y m d) (wW y m d) (wday (num y m d)) = 0 := by unfold wdE; omega
    have hi : inDays (num y m d) := hr
    obtain ⟨d1, d2⟩ := date_ok (num y m d)
    obtain ⟨u1, u2, u3⟩ := unique hv d1 (by rw [d2])
    have f1 := sp_weeks_Date (k + 1) (wY y m d) (wW y m d) (wday (num y m d))
    unfold dtV xY xM xD xE gY gM gD gE at f1
    rw [if_pos hE, if_pos hE, if_pos hE, if_pos hE, g2, if_pos hi, if_pos hi, if_pos hi, if_pos hi, ← u1, ← u2, ← u3] at f1
    rw [if_pos h, if_pos h, if_pos h, h]
    have f2 := sp_Weeks (k + 2) (wY y m d)
    simp only [k_bind, k_tup, k_cons, k_agg, k_int, k_nil, k_bool, show ((0 : Int) != 0) = false from rfl, cond_false, f1, f2, beq_self_eq_true, Bool.and_self, cond_true, decide_eq_true (show wW y m d ≥ 1 from g1.1), decide_eq_true g1.2]
  · rw [if_neg h, if_neg h, if_neg h]
    simp only [k_bind, k_tup, k_cons, k_agg, k_int, k_nil, k_bool, show (cE y m d != 0) = true by rw [bne_iff_ne]; exact h, cond_true, beq_self_eq_true]

theorem year_unique {x a b : Int} (h1 : jan1 a ≤ x ∧ x < jan1 (a + 1)) (h2 : jan1 b ≤ x ∧ x < jan1 (b + 1)) : a = b := by
  rcases Int.lt_trichotomy a b with h | h | h
  · have := jan1_mono (show a + 1 ≤ b by omega); omega
  · exact h
  · have := jan1_mono (show b + 1 ≤ a by omega); omega
theorem inDays_year {x : Int} (h : inDays x) : -9999 ≤ dY x ∧ dY x ≤ 9999 := by
  obtain ⟨d1, d2⟩ := date_ok x
  have h1 := num_in_year d1
  rw [d2] at h1
  have e1 : jan1 (-9999) = -4371587 := by decide
  have e2 : jan1 10000 = 2932897 := by decide
  unfold inDays at h
  constructor
  · apply Classical.byContradiction; intro g
    have := jan1_mono (show dY x + 1 ≤ -9999 by omega); omega
  · apply Classical.byContradiction; intro g
    have := jan1_mono (show 10000 ≤ dY x by omega); omega

theorem law_WeeksThursdays (k : Nat) (y m d : Int) : CP C (k + 205) F_law07_WeeksThursdays [date y m d] = some (.bool true) := by
  rw [eq_law07_WeeksThursdays]
  unfold R_law07_WeeksThursdays
  rw [sp_weeks_Of (k + 198), sp_awake (k + 197), sp_ref06_Days (k + 1)]
  unfold ofV vY vW vD nE
  by_cases h : cE y m d = 0
  · obtain ⟨hv, hy⟩ := cE_zero.1 h
    have hr := num_bound hv hy
    have hf := wY_facts hv
    obtain ⟨g1, g2⟩ := wW_facts hv
    have hw := wday_range (num y m d)
    rw [if_pos h, if_pos h, if_pos h, if_pos h, h]
    have e1 : IntKind.i64.wrap (IntKind.i64.wrap (num y m d + 4) - wday (num y m d)) = num y m d + 4 - wday (num y m d) := by simp (disch := omega) only [w64]
    have f1 := sp_ref06_DateOf (k + 3) (num y m d + 4 - wday (num y m d))
    generalize hT : num y m d + 4 - wday (num y m d) = T at e1 f1
    have hT2 : T = beg (wY y m d) + (wW y m d - 1) * 7 + 4 := by unfold wdN at g2; omega
    by_cases hi : inDays T
    · obtain ⟨d1, d2⟩ := date_ok T
      have hdy := inDays_year hi
      have nb := beg_near (wY y m d)
      have nb2 := beg_near (wY y m d + 1)
      have hs := beg_succ (wY y m d)
      have hin := num_in_year d1
      rw [d2] at hin
      have hyr : dY T = wY y m d := year_unique hin ⟨by omega, by omega⟩
      have f2 := sp_ref06_Ordinal (k + 1) (dY T) (dM T) (dd T)
      have hc : cE (dY T) (dM T) (dd T) = 0 := cE_zero.2 ⟨d1, hdy⟩
      unfold uE at f2
      rw [if_pos hc, hc, d2] at f2
      unfold gY gM gD gE at f1
      rw [if_pos hi, if_pos hi, if_pos hi, if_pos hi] at f1
      have hjb := jan1_b (show -30000 ≤ dY T ∧ dY T ≤ 30000 by omega)
      unfold inDays at hi
      simp only [k_bind, k_tup, k_cons, k_agg, k_int, k_nil, k_bool, show ((0 : Int) != 0) = false from rfl, cond_false, e1, f1, f2]
      rw [show (dY T == wY y m d) = true by rw [beq_iff_eq]; exact hyr, cond_true]
      rw [bnd_eq _ (show _ = wW y m d by simp (disch := omega) only [w64, td_nn]; rw [hyr]; omega)]
      rw [beq_self_eq_true, cond_true]
    · unfold gE at f1
      rw [if_neg hi] at f1
      simp only [k_bind, k_tup, k_cons, k_agg, k_int, k_nil, k_bool, show ((0 : Int) != 0) = false from rfl, show ((8 : Int) != 0) = true from rfl, cond_false, cond_true, e1, f1]
  · rw [if_neg h, if_neg h, if_neg h, if_neg h]
    simp only [k_bind, k_tup, k_cons, k_agg, k_int, k_nil, k_bool, show (cE y m d != 0) = true by rw [bne_iff_ne]; exact h, cond_true]

theorem sum244 (k : Nat) : ∀ (j f : Nat) (x s i : Int), i + j = 400 → j < f → 0 ≤ i → 7 * s = beg (x + i) - beg x → (-200000 ≤ x ∧ x ≤ 200000) →
    J_law07_WeeksSum_244 (CP C (k + 7)) (k + 7) f x s i = some (.bool true) := by
  intro j
  induction j with
  | zero =>
    intro f x s i h1 hf h2 h3 h4
    obtain ⟨f, rfl⟩ : ∃ f', f = f' + 1 := ⟨f - 1, by omega⟩
    have hi : i = 400 := by omega
    subst hi
    have hb := beg_shift x 1
    have hs : s = 20871 := by rw [show x + 400 * 1 = x + 400 by omega] at hb; omega
    rw [Js_law07_WeeksSum_244]
    unfold T_law07_WeeksSum_244
    rw [hs, sp_awake k]
    rfl
  | succ j ih =>
    intro f x s i h1 hf h2 h3 h4
    obtain ⟨f, rfl⟩ : ∃ f', f = f' + 1 := ⟨f - 1, by omega⟩
    have hs := beg_succ (x + i)
    have hr := wks_range (x + i)
    have nb := beg_near x
    have nb2 := beg_near (x + i)
    have j1 : -400000000 ≤ jan1 x ∧ jan1 x ≤ 400000000 := jan1_bound (by omega)
    have j2 : -400000000 ≤ jan1 (x + i) ∧ jan1 (x + i) ≤ 400000000 := jan1_bound (by omega)
    rw [Js_law07_WeeksSum_244]
    unfold T_law07_WeeksSum_244
    rw [decide_eq_true (show i < 400 by omega), cond_true, w64 (show -9223372036854775808 ≤ x + i ∧ x + i ≤ 9223372036854775807 by omega), sp_Weeks (k + 2)]
    simp only [k_bind, k_int]
    have step := ih f x (s + wks (x + i)) (i + 1) (by omega) (by omega) (by omega) (by rw [show x + (i + 1) = x + i + 1 by omega]; omega) h4
    rw [w64 (show -9223372036854775808 ≤ s + wks (x + i) ∧ s + wks (x + i) ≤ 9223372036854775807 by omega), w64 (show -9223372036854775808 ≤ i + 1 ∧ i + 1 ≤ 9223372036854775807 by omega), step]
    rcases hr with h | h <;> rw [h] <;> rfl
theorem law_WeeksSum (k : Nat) (y : Int) : CP C (k + 208) F_law07_WeeksSum [.int .i64 y] = some (.bool true) := by
  rw [eq_law07_WeeksSum]
  unfold R_law07_WeeksSum T_law07_WeeksSum_1
  have ht : -100000 < Int.tmod y 100000 ∧ Int.tmod y 100000 < 100000 := by simp only [IntKind.wrap_i64, tdiv_pos, tmod_pos, Int.reduceLT]; omega
  exact sum244 (k + 200) 400 _ _ 0 0 (by omega) (by omega) (by omega) (by rw [Int.add_zero]; omega) (by omega)
end Go.Proofs.Ytleedachcphbmaa.Sim.S
