/- The civil calendar in plain numbers: days of a year and of a month, a date's number and a number's date. Condition: none beyond what each theorem says. -/
import Derived.Test.YtceigcoipifloaaSimKit
set_option linter.unusedSimpArgs false
namespace Go.Proofs.Ytceigcoipifloaa.Sim.Civil

def leap (y : Int) : Prop := y % 4 = 0 ∧ (y % 100 ≠ 0 ∨ y % 400 = 0)
instance (y : Int) : Decidable (leap y) := by unfold leap; infer_instance
def lp (y : Int) : Int := if leap y then 1 else 0
theorem lp_eq (y : Int) : lp y = if y % 4 = 0 ∧ (y % 100 ≠ 0 ∨ y % 400 = 0) then 1 else 0 := by unfold lp leap; rfl
def mdays (y m : Int) : Int :=
  if m = 1 ∨ m = 3 ∨ m = 5 ∨ m = 7 ∨ m = 8 ∨ m = 10 ∨ m = 12 then 31 else if m = 4 ∨ m = 6 ∨ m = 9 ∨ m = 11 then 30 else if m = 2 then 28 + lp y else 0
def ydays (y : Int) : Int := 365 + lp y
/-- The days of a year ahead of a month. -/
def cum (y m : Int) : Int :=
  if m ≤ 1 then 0 else if m = 2 then 31 else if m = 3 then 59 + lp y else if m = 4 then 90 + lp y else if m = 5 then 120 + lp y else if m = 6 then 151 + lp y else if m = 7 then 181 + lp y
  else if m = 8 then 212 + lp y else if m = 9 then 243 + lp y else if m = 10 then 273 + lp y else if m = 11 then 304 + lp y else if m = 12 then 334 + lp y else 365 + lp y
/-- The number of the first day of a year. -/
def jan1 (y : Int) : Int := 365 * (y - 1) + (y - 1) / 4 - (y - 1) / 100 + (y - 1) / 400 - 719162
def num (y m d : Int) : Int := jan1 y + cum y m + d - 1
def valid (y m d : Int) : Prop := (1 ≤ m ∧ m ≤ 12) ∧ 1 ≤ d ∧ d ≤ mdays y m
instance (y m d : Int) : Decidable (valid y m d) := by unfold valid; infer_instance

theorem lp_range (y : Int) : 0 ≤ lp y ∧ lp y ≤ 1 := by unfold lp; split <;> omega
theorem div4 (y : Int) : y / 4 = (y - 1) / 4 + if y % 4 = 0 then 1 else 0 := by omega
theorem div100 (y : Int) : y / 100 = (y - 1) / 100 + if y % 100 = 0 then 1 else 0 := by omega
theorem div400 (y : Int) : y / 400 = (y - 1) / 400 + if y % 400 = 0 then 1 else 0 := by omega
theorem jan1_succ (y : Int) : jan1 (y + 1) = jan1 y + ydays y := by
  unfold jan1 ydays
  rw [lp_eq, Int.add_sub_cancel]
  omega
theorem jan1_mono {y z : Int} (h : y ≤ z) : jan1 y + 365 * (z - y) ≤ jan1 z := by
  unfold jan1; omega
theorem cum_succ {y m : Int} (h : 1 ≤ m ∧ m ≤ 12) : cum y (m + 1) = cum y m + mdays y m := by
  have : m = 1 ∨ m = 2 ∨ m = 3 ∨ m = 4 ∨ m = 5 ∨ m = 6 ∨ m = 7 ∨ m = 8 ∨ m = 9 ∨ m = 10 ∨ m = 11 ∨ m = 12 := by omega
  unfold cum mdays
  rcases this with rfl | rfl | rfl | rfl | rfl | rfl | rfl | rfl | rfl | rfl | rfl | rfl <;> simp <;> omega
theorem cum_13 (y : Int) : cum y 13 = ydays y := by unfold cum ydays; simp
theorem cum_1 (y : Int) : cum y 1 = 0 := by unfold cum; simp
theorem cum_mono {y m k : Int} (h : m ≤ k) : cum y m ≤ cum y k := by
  have := lp_range y
  unfold cum; omega
theorem cum_nonneg (y m : Int) : 0 ≤ cum y m := by
  have := lp_range y
  unfold cum; omega
theorem mdays_range {y m : Int} (h : 1 ≤ m ∧ m ≤ 12) : 28 ≤ mdays y m ∧ mdays y m ≤ 31 := by
  have := lp_range y
  unfold mdays; omega
theorem mdays_le (y m : Int) : 0 ≤ mdays y m ∧ mdays y m ≤ 31 := by
  have := lp_range y
  unfold mdays; omega

theorem num_in_year {y m d : Int} (h : valid y m d) : jan1 y ≤ num y m d ∧ num y m d < jan1 (y + 1) := by
  obtain ⟨hm, hd⟩ := h
  have h1 := cum_succ (y := y) hm
  have h2 : cum y (m + 1) ≤ cum y 13 := cum_mono (by omega)
  rw [cum_13] at h2
  have h3 := cum_nonneg y m
  rw [jan1_succ]
  unfold num
  omega

theorem num_lt_year {y m d z k e : Int} (h : valid y m d) (h' : valid z k e) (hy : y < z) : num y m d < num z k e := by
  have h1 := (num_in_year h).2
  have h2 := (num_in_year h').1
  have h3 := jan1_mono (y := y + 1) (z := z) (by omega)
  omega

theorem num_lt_month {y m d k e : Int} (h : valid y m d) (h' : valid y k e) (hy : m < k) : num y m d < num y k e := by
  have h1 := cum_succ (y := y) h.1
  have h2 : cum y (m + 1) ≤ cum y k := cum_mono (by omega)
  have := h.2
  have := h'.2
  unfold num; omega

theorem unique {y m d z k e : Int} (h : valid y m d) (h' : valid z k e) (he : num y m d = num z k e) : y = z ∧ m = k ∧ d = e := by
  rcases Int.lt_trichotomy y z with hy | rfl | hy
  · have := num_lt_year h h' hy; omega
  · rcases Int.lt_trichotomy m k with hm | rfl | hm
    · have := num_lt_month h h' hm; omega
    · unfold num at he; exact ⟨rfl, rfl, by omega⟩
    · have := num_lt_month h' h hm; omega
  · have := num_lt_year h' h hy; omega

/-! ### years that begin in March -/
def mnum (y m d : Int) : Int := y / 400 * 146097 + y % 400 * 365 + y % 400 / 4 - y % 400 / 100 + (153 * m + 2) / 5 + d - 1 - 719468

theorem jan1_march (y : Int) : jan1 y + 59 + lp y + 719468 = y / 400 * 146097 + y % 400 * 365 + y % 400 / 4 - y % 400 / 100 := by
  unfold jan1
  rw [lp_eq]
  have h4 := div4 y
  have h1 := div100 y
  have h0 := div400 y
  omega

theorem num_march {y m d : Int} (hm : 3 ≤ m ∧ m ≤ 12) : num y m d = mnum y (m - 3) d := by
  have h := jan1_march y
  unfold mnum num
  have : m = 3 ∨ m = 4 ∨ m = 5 ∨ m = 6 ∨ m = 7 ∨ m = 8 ∨ m = 9 ∨ m = 10 ∨ m = 11 ∨ m = 12 := by omega
  rw [← h]
  unfold cum
  rcases this with rfl | rfl | rfl | rfl | rfl | rfl | rfl | rfl | rfl | rfl <;> simp <;> omega

theorem num_jan {y m d : Int} (hm : 1 ≤ m ∧ m ≤ 2) : num y m d = mnum (y - 1) (m + 9) d := by
  have h := jan1_march (y - 1)
  have h2 := jan1_succ (y - 1)
  rw [Int.sub_add_cancel] at h2
  unfold ydays at h2
  unfold mnum num
  rw [← h]
  unfold cum
  have : m = 1 ∨ m = 2 := by omega
  rcases this with rfl | rfl <;> simp <;> omega

/-! ### a number's date -/
def qq (n : Int) : Int := (n + 719468) / 146097
def rr (n : Int) : Int := (n + 719468) % 146097
def cc (n : Int) : Int := if 3 < rr n / 36524 then 3 else rr n / 36524
def r1 (n : Int) : Int := rr n - cc n * 36524
def ff (n : Int) : Int := r1 n / 1461
def r2 (n : Int) : Int := r1 n - ff n * 1461
def yy (n : Int) : Int := if 3 < r2 n / 365 then 3 else r2 n / 365
def r3 (n : Int) : Int := r2 n - yy n * 365
def mm (n : Int) : Int := (5 * r3 n + 2) / 153
def dd (n : Int) : Int := r3 n - (153 * mm n + 2) / 5 + 1
def ym (n : Int) : Int := 400 * qq n + 100 * cc n + 4 * ff n + yy n
def dM (n : Int) : Int := if mm n + 3 > 12 then mm n + 3 - 12 else mm n + 3
def dY (n : Int) : Int := if mm n + 3 > 12 then ym n + 1 else ym n

theorem parts (n : Int) : (0 ≤ rr n ∧ rr n < 146097) ∧ (0 ≤ cc n ∧ cc n ≤ 3) ∧ (0 ≤ r1 n ∧ r1 n ≤ 36524 ∧ (r1 n = 36524 → cc n = 3)) ∧ (0 ≤ ff n ∧ ff n ≤ 24) ∧
    (0 ≤ r2 n ∧ r2 n ≤ 1460 ∧ (r2 n = 1460 → ff n = 24 → cc n = 3)) ∧ (0 ≤ yy n ∧ yy n ≤ 3) ∧ (0 ≤ r3 n ∧ r3 n ≤ 365 ∧ (r3 n = 365 → r2 n = 1460 ∧ yy n = 3)) := by
  have h1 : 0 ≤ rr n ∧ rr n < 146097 := by unfold rr; omega
  have h2 : 0 ≤ cc n ∧ cc n ≤ 3 := by unfold cc; omega
  have h3 : 0 ≤ r1 n ∧ r1 n ≤ 36524 ∧ (r1 n = 36524 → cc n = 3) := by unfold r1 cc; omega
  have h4 : 0 ≤ ff n ∧ ff n ≤ 24 := by unfold ff; omega
  have h5 : 0 ≤ r2 n ∧ r2 n ≤ 1460 ∧ (r2 n = 1460 → ff n = 24 → cc n = 3) := by
    have e : r2 n = r1 n - ff n * 1461 := rfl
    have e2 : ff n = r1 n / 1461 := rfl
    refine ⟨by omega, by omega, fun a b => h3.2.2 (by omega)⟩
  have h6 : 0 ≤ yy n ∧ yy n ≤ 3 := by unfold yy; omega
  have h7 : 0 ≤ r3 n ∧ r3 n ≤ 365 ∧ (r3 n = 365 → r2 n = 1460 ∧ yy n = 3) := by
    have e : r3 n = r2 n - yy n * 365 := rfl
    have e2 : yy n = if 3 < r2 n / 365 then 3 else r2 n / 365 := rfl
    omega
  exact ⟨h1, h2, h3, h4, h5, h6, h7⟩

theorem mnum_date (n : Int) : mnum (ym n) (mm n) (dd n) = n := by
  obtain ⟨h1, h2, h3, h4, h5, h6, h7⟩ := parts n
  have e1 : n + 719468 = 146097 * qq n + rr n := by unfold qq rr; omega
  have e2 : rr n = cc n * 36524 + ff n * 1461 + yy n * 365 + r3 n := by unfold r3 r2 r1; omega
  have e3 : ym n / 400 = qq n := by unfold ym; omega
  have e4 : ym n % 400 = 100 * cc n + 4 * ff n + yy n := by unfold ym; omega
  have e5 : (100 * cc n + 4 * ff n + yy n) / 4 = 25 * cc n + ff n := by omega
  have e6 : (100 * cc n + 4 * ff n + yy n) / 100 = cc n := by omega
  unfold mnum dd
  rw [e3, e4, e5, e6]
  clear e3 e4 e5 e6 h1 h2 h3 h4 h5 h6 h7
  generalize (153 * mm n + 2) / 5 = t
  omega

theorem date_ok (n : Int) : valid (dY n) (dM n) (dd n) ∧ num (dY n) (dM n) (dd n) = n := by
  obtain ⟨h1, h2, h3, h4, h5, h6, h7⟩ := parts n
  have hmm : 0 ≤ mm n ∧ mm n ≤ 11 := by unfold mm; omega
  have hn := mnum_date n
  by_cases hc : mm n + 3 > 12
  · have e1 : dM n = mm n - 9 := by unfold dM; rw [if_pos hc]; omega
    have e2 : dY n = ym n + 1 := by unfold dY; rw [if_pos hc]
    rw [e1, e2]
    refine ⟨⟨by omega, ?_⟩, ?_⟩
    · have em : mm n = 10 ∨ mm n = 11 := by omega
      have e3 : dd n = r3 n - (153 * mm n + 2) / 5 + 1 := rfl
      have e4 : mm n = (5 * r3 n + 2) / 153 := rfl
      rcases em with e | e
      · unfold mdays; rw [e] at e3 e4 ⊢; simp; omega
      · unfold mdays; rw [e] at e3 e4 ⊢; simp
        have e5 : ym n = 400 * qq n + 100 * cc n + 4 * ff n + yy n := rfl
        rw [lp_eq]
        by_cases g : r3 n = 365
        · obtain ⟨g1, g2⟩ := h7.2.2 g
          have g3 := h5.2.2 g1
          by_cases g4 : ff n = 24
          · have g5 := g3 g4
            omega
          · omega
        · omega
    · rw [num_jan (by omega)]
      rw [show ym n + 1 - 1 = ym n by omega, show mm n - 9 + 9 = mm n by omega]
      exact hn
  · have e1 : dM n = mm n + 3 := by unfold dM; rw [if_neg hc]
    have e2 : dY n = ym n := by unfold dY; rw [if_neg hc]
    rw [e1, e2]
    refine ⟨⟨by omega, ?_⟩, ?_⟩
    · have em : mm n = 0 ∨ mm n = 1 ∨ mm n = 2 ∨ mm n = 3 ∨ mm n = 4 ∨ mm n = 5 ∨ mm n = 6 ∨ mm n = 7 ∨ mm n = 8 ∨ mm n = 9 := by omega
      have e3 : dd n = r3 n - (153 * mm n + 2) / 5 + 1 := rfl
      have e4 : mm n = (5 * r3 n + 2) / 153 := rfl
      unfold mdays
      rcases em with e | e | e | e | e | e | e | e | e | e <;> (rw [e] at e3 e4 ⊢; simp; omega)
    · rw [num_march (by omega)]
      rw [show mm n + 3 - 3 = mm n by omega]
      exact hn

end Go.Proofs.Ytceigcoipifloaa.Sim.Civil
