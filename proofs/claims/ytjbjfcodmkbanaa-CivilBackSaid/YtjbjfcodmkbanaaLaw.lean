/- The laws of civil dates answer true. Condition: none beyond what each theorem says. -/
import Derived.Test.YtjbjfcodmkbanaaSpecCivil
set_option linter.unusedSimpArgs false
namespace Go.Proofs.Ytjbjfcodmkbanaa.Sim.S
open Go Civil

theorem sp_awake (n : Nat) : CP C (n + 5) F_law06_awake [] = some (.bool true) := by
  rw [eq_law06_awake]
  unfold R_law06_awake
  rw [sp_civil_Days n 2000 3 1, sp_civil_Days n 2023 2 29, sp_civil_Days n 10000 1 1, sp_civil_Days n 10000 13 1, sp_civil_OfOrdinal (n + 1) 2024 366, sp_civil_Weekday (n + 2) 11017 (by decide)]
  rfl

theorem law_CivilMonths (n : Nat) (y m : Int) : CP C (n + 6) F_law06_CivilMonths [.int .i64 y, .int .i64 m] = some (.bool true) := by
  rw [eq_law06_CivilMonths]
  unfold R_law06_CivilMonths
  rw [sp_civil_Leap (n + 4), sp_ref06_Leap (n + 4), sp_civil_MonthDays (n + 3), sp_ref06_MonthDays (n + 3), sp_awake n]
  simp only [k_int, k_anyInt, k_bool, k_str, k_agg, k_tup, k_cons, k_nil, k_bind, ↓c_not, ↓c_bne, ite_cond, Bool.and_eq_true, Bool.or_eq_true, beq_iff_eq, Bool.and_true, decide_eq_true_eq, Bool.false_eq_true, if_true, if_false, bne_self_eq_false, and_self, Int.reduceEq, Int.reduceLT, Int.reduceNeg, beq_self_eq_true]

theorem law_CivilDates (n : Nat) (x y k : Int) (hx : IntKind.i64.has x) (_hy : IntKind.i64.has y) (_hk : IntKind.i64.has k) : CP C (n + 203) F_law06_CivilDates [.int .i64 x, .int .i64 y, .int .i64 k] = some (.bool true) := by
  rw [eq_law06_CivilDates]
  unfold R_law06_CivilDates
  have h : -9223372036854775808 ≤ x ∧ x ≤ 9223372036854775807 := hx
  rw [sp_civil_DateOf (n + 200), sp_ref06_DateOf (n + 1), sp_civil_OfOrdinal (n + 199), sp_ref06_OfOrdinal n, sp_civil_Weekday (n + 200) x h, sp_ref06_Weekday (n + 201), sp_awake (n + 197)]
  simp only [k_int, k_anyInt, k_bool, k_str, k_agg, k_tup, k_cons, k_nil, k_bind, ↓c_not, ↓c_bne, ite_cond, Bool.and_eq_true, Bool.or_eq_true, beq_iff_eq, Bool.and_true, decide_eq_true_eq, Bool.false_eq_true, if_true, if_false, bne_self_eq_false, and_self, Int.reduceEq, Int.reduceLT, Int.reduceNeg, beq_self_eq_true]

theorem law_CivilDays (n : Nat) (y m d : Int) : CP C (n + 204) F_law06_CivilDays [date y m d] = some (.bool true) := by
  rw [eq_law06_CivilDays]
  unfold R_law06_CivilDays
  rw [sp_civil_Days (n + 199), sp_ref06_Days n, sp_civil_Ordinal (n + 198), sp_ref06_Ordinal n, sp_civil_Check (n + 200), sp_ref06_Check (n + 199), sp_awake (n + 198)]
  simp only [k_int, k_anyInt, k_bool, k_str, k_agg, k_tup, k_cons, k_nil, k_bind, ↓c_not, ↓c_bne, ite_cond, Bool.and_eq_true, Bool.or_eq_true, beq_iff_eq, Bool.and_true, decide_eq_true_eq, Bool.false_eq_true, if_true, if_false, bne_self_eq_false, and_self, Int.reduceEq, Int.reduceLT, Int.reduceNeg, beq_self_eq_true]

def cmp1 (a b : Int) : Int := if a < b then -1 else if a > b then 1 else 0
def cmpD (y m d z k e : Int) : Int := if cmp1 y z ≠ 0 then cmp1 y z else if cmp1 m k ≠ 0 then cmp1 m k else cmp1 d e
theorem sp_isNaN (n : Nat) (a : Int) : CP C (n + 1) F_cmp_isNaN_int [.int .i64 a] = some (.bool false) := by
  rw [eq_cmp_isNaN_int]
  unfold R_cmp_isNaN_int
  simp
theorem sp_Compare (n : Nat) (a b : Int) : CP C (n + 2) F_cmp_Compare_int [.int .i64 a, .int .i64 b] = some (.int .i64 (cmp1 a b)) := by
  rw [eq_cmp_Compare_int]
  unfold R_cmp_Compare_int
  rw [sp_isNaN, sp_isNaN]
  unfold cmp1
  simp only [k_int, k_anyInt, k_bool, k_str, k_agg, k_tup, k_cons, k_nil, k_bind, ↓c_not, ↓c_bne, ite_cond, Bool.and_eq_true, Bool.or_eq_true, beq_iff_eq, Bool.and_true, decide_eq_true_eq, Bool.false_eq_true, if_true, if_false, bne_self_eq_false, and_self, Int.reduceEq, Int.reduceLT, Int.reduceNeg, i_some, i_int, i_bool, i_agg, i_tup, i_cons, i_self, Option.some.injEq, AV.int.injEq, AV.bool.injEq, AV.agg.injEq, AV.tup.injEq, List.cons.injEq, true_and, and_true, cond_false]
theorem sp_civil_Cmp (n : Nat) (y m d z k e : Int) : CP C (n + 3) F_civil_Cmp [date y m d, date z k e] = some (.int .i64 (cmpD y m d z k e)) := by
  rw [eq_civil_Cmp]
  unfold R_civil_Cmp
  rw [sp_Compare, sp_Compare, sp_Compare]
  simp only [k_int, k_anyInt, k_bool, k_str, k_agg, k_tup, k_cons, k_nil, k_bind, ↓c_not, ↓c_bne, ite_cond, Bool.and_eq_true, Bool.or_eq_true, beq_iff_eq, Bool.and_true, decide_eq_true_eq, Bool.false_eq_true, if_true, if_false, bne_self_eq_false, and_self, Int.reduceEq, Int.reduceLT, Int.reduceNeg, i_some, i_int, i_bool, i_agg, i_tup, i_cons, i_self, Option.some.injEq, AV.int.injEq, AV.bool.injEq, AV.agg.injEq, AV.tup.injEq, List.cons.injEq, true_and, and_true]
  unfold cmpD
  omega
theorem sp_ref06_Cmp (n : Nat) (y m d z k e : Int) : CP C (n + 1) F_ref06_Cmp [date y m d, date z k e] = some (.int .i64 (cmpD y m d z k e)) := by
  rw [eq_ref06_Cmp]
  unfold R_ref06_Cmp cmpD cmp1
  simp only [k_int, k_anyInt, k_bool, k_str, k_agg, k_tup, k_cons, k_nil, k_bind, ↓c_not, ↓c_bne, ite_cond, Bool.and_eq_true, Bool.or_eq_true, beq_iff_eq, Bool.and_true, decide_eq_true_eq, Bool.false_eq_true, if_true, if_false, bne_self_eq_false, and_self, Int.reduceEq, Int.reduceLT, Int.reduceNeg, i_some, i_int, i_bool, i_agg, i_tup, i_cons, i_self, Option.some.injEq, AV.int.injEq, AV.bool.injEq, AV.agg.injEq, AV.tup.injEq, List.cons.injEq, true_and, and_true]
  omega
theorem cmp_num {y m d z k e : Int} (h : valid y m d) (h' : valid z k e) : cmpD y m d z k e = cmp1 (num y m d) (num z k e) := by
  unfold cmpD cmp1
  rcases Int.lt_trichotomy y z with hy | rfl | hy
  · have := num_lt_year h h' hy; omega
  · rcases Int.lt_trichotomy m k with hm | rfl | hm
    · have := num_lt_month h h' hm; omega
    · unfold num; omega
    · have := num_lt_month h' h hm; omega
  · have := num_lt_year h' h hy; omega

theorem law_CivilOrder (n : Nat) (y m d z k e : Int) : CP C (n + 6) F_law06_CivilOrder [date y m d, date z k e] = some (.bool true) := by
  rw [eq_law06_CivilOrder]
  unfold R_law06_CivilOrder
  rw [sp_civil_Cmp (n + 2), sp_ref06_Cmp (n + 4), sp_civil_Days (n + 1), sp_civil_Days (n + 1), sp_awake n]
  by_cases h : cE y m d = 0
  · by_cases h2 : cE z k e = 0
    · obtain ⟨hv, hy⟩ := cE_zero.1 h
      obtain ⟨hv2, hy2⟩ := cE_zero.1 h2
      rw [cmp_num hv hv2]
      have e1 : nE y m d = num y m d := by unfold nE; rw [if_pos h]
      have e2 : nE z k e = num z k e := by unfold nE; rw [if_pos h2]
      rw [e1, e2, h, h2]
      simp only [k_int, k_anyInt, k_bool, k_str, k_agg, k_tup, k_cons, k_nil, k_bind, ↓c_not, ↓c_bne, ite_cond, Bool.and_eq_true, Bool.or_eq_true, beq_iff_eq, Bool.and_true, decide_eq_true_eq, Bool.false_eq_true, if_true, if_false, bne_self_eq_false, and_self, Int.reduceEq, Int.reduceLT, Int.reduceNeg]
      generalize num y m d = a
      generalize num z k e = b
      unfold cmp1
      rcases Int.lt_trichotomy a b with g | rfl | g
      · have g2 : ¬ a > b := by omega
        simp [g, g2]
      · simp
      · have g2 : ¬ a < b := by omega
        simp [g, g2]
    · simp only [k_int, k_anyInt, k_bool, k_str, k_agg, k_tup, k_cons, k_nil, k_bind, ↓c_not, ↓c_bne, ite_cond, Bool.and_eq_true, Bool.or_eq_true, beq_iff_eq, Bool.and_true, decide_eq_true_eq, Bool.false_eq_true, if_true, if_false, bne_self_eq_false, and_self, Int.reduceEq, Int.reduceLT, Int.reduceNeg, h, h2]
  · simp only [k_int, k_anyInt, k_bool, k_str, k_agg, k_tup, k_cons, k_nil, k_bind, ↓c_not, ↓c_bne, ite_cond, Bool.and_eq_true, Bool.or_eq_true, beq_iff_eq, Bool.and_true, decide_eq_true_eq, Bool.false_eq_true, if_true, if_false, bne_self_eq_false, and_self, Int.reduceEq, Int.reduceLT, Int.reduceNeg, h]

theorem back4095 (n : Nat) (x : Int) (b1 b2 : Bool) (y m d z k e : Int) (hb : b1 = true ∨ b2 = true) (hv : valid y m d) (hv2 : valid z k e) (hx : num y m d = x) (hx2 : num z k e = x + 1) (hr : -4371587 ≤ x ∧ x ≤ 2932896) :
    J_law06_CivilBack_4095 (CP C (n + 5)) (n + 5) x b1 b2 y m d z k e = some (.bool true) := by
  unfold J_law06_CivilBack_4095 T_law06_CivilBack_4095 J_law06_CivilBack_8191 T_law06_CivilBack_8191
  rw [w64 (by omega), sp_civil_Weekday (n + 3) (x + 1) (by omega), sp_civil_Weekday (n + 3) x (by omega), sp_civil_Cmp (n + 2), sp_civil_Cmp (n + 2), cmp_num hv2 hv, cmp_num hv hv2, hx, hx2, sp_awake n]
  have e1 : cmp1 (x + 1) x = 1 := by unfold cmp1; omega
  have e2 : cmp1 x (x + 1) = -1 := by unfold cmp1; omega
  have e3 : wday (x + 1) = IntKind.i64.wrap (Int.tmod (wday x) 7 + 1) := by unfold wday; simp (disch := omega) only [tm_nn, w64]; omega
  simp only [k_bind, k_int, k_bool, e1, e2, ← e3, beq_self_eq_true, cond_true]
  rcases hb with rfl | rfl
  · rfl
  · cases b1 <;> rfl

theorem next_day {y m d : Int} (hv : valid y m d) : ∃ z k e, valid z k e ∧ num z k e = num y m d + 1 ∧
    ((d < mdays y m ∧ z = y ∧ k = m ∧ e = d + 1) ∨ (d = mdays y m ∧ m < 12 ∧ z = y ∧ k = m + 1 ∧ e = 1) ∨ (d = mdays y m ∧ m = 12 ∧ z = y + 1 ∧ k = 1 ∧ e = 1)) := by
  by_cases h : d < mdays y m
  · exact ⟨y, m, d + 1, ⟨hv.1, by have := hv.2; omega⟩, by unfold num; omega, .inl ⟨h, rfl, rfl, rfl⟩⟩
  · have hd : d = mdays y m := by have := hv.2; omega
    have hs := cum_succ (y := y) hv.1
    by_cases h2 : m < 12
    · have := mdays_range (y := y) (m := m + 1) (by have := hv.1; omega)
      exact ⟨y, m + 1, 1, ⟨by have := hv.1; omega, by omega⟩, by unfold num; omega, .inr (.inl ⟨hd, h2, rfl, rfl, rfl⟩)⟩
    · have hm : m = 12 := by have := hv.1; omega
      have := mdays_range (y := y + 1) (m := 1) (by omega)
      refine ⟨y + 1, 1, 1, ⟨by omega, by omega⟩, ?_, .inr (.inr ⟨hd, hm, rfl, rfl, rfl⟩)⟩
      unfold num
      rw [jan1_succ, cum_1]
      subst hm
      rw [show (12 : Int) + 1 = 13 by rfl, cum_13] at hs
      omega

theorem back509 (n : Nat) (y m d : Int) (hv : valid y m d) (hy : -9999 ≤ y ∧ y ≤ 9999) : J_law06_CivilBack_509 (CP C (n + 5)) (n + 5) (num y m d) false y m d = some (.bool true) := by
  have hr := num_bound hv hy
  have hmd := mdays_le y m
  obtain ⟨z, k, e, v2, n2, hc⟩ := next_day hv
  unfold J_law06_CivilBack_509 T_law06_CivilBack_509
  rw [cond_false, w64 (by omega), sp_civil_DateOf (n + 3)]
  by_cases hi : inDays (num y m d + 1)
  · obtain ⟨d1, d2⟩ := date_ok (num y m d + 1)
    obtain ⟨u1, u2, u3⟩ := unique v2 d1 (by rw [d2, n2])
    have eg : gY (num y m d + 1) = z ∧ gM (num y m d + 1) = k ∧ gD (num y m d + 1) = e ∧ gE (num y m d + 1) = 0 := by
      unfold gY gM gD gE; rw [if_pos hi, if_pos hi, if_pos hi, if_pos hi]; exact ⟨u1.symm, u2.symm, u3.symm, rfl⟩
    rw [eg.1, eg.2.1, eg.2.2.1, eg.2.2.2]
    rw [sp_civil_MonthDays (n + 3)]
    have J : ∀ b1 b2 : Bool, (b1 = true ∨ b2 = true) → J_law06_CivilBack_4095 (CP C (n + 5)) (n + 5) (num y m d) b1 b2 y m d z k e = some (.bool true) :=
      fun b1 b2 hb => back4095 n _ b1 b2 y m d z k e hb hv v2 rfl n2 hr
    have f0 : ((0 : Int) != 0) = false := rfl
    rcases hc with ⟨c1, rfl, rfl, rfl⟩ | ⟨c1, c2, rfl, rfl, rfl⟩ | ⟨c1, c2, rfl, rfl, rfl⟩
    · have g1 : ((d + 1) == 1) = false := by simp; have := hv.2; omega
      have g2 : IntKind.i64.wrap (d + 1) = d + 1 := w64 (by have := hv.2; omega)
      simp only [k_bind, k_tup, k_cons, k_agg, k_int, k_nil, f0, cond_false, beq_self_eq_true, cond_true, g1, g2]
      exact J true false (.inl rfl)
    · have g1 : ((m + 1) == m) = false := by rw [beq_eq_false_iff_ne]; omega
      have g2 : IntKind.i64.wrap (m + 1) = m + 1 := w64 (by have := hv.1; omega)
      simp only [k_bind, k_tup, k_cons, k_agg, k_int, k_nil, f0, cond_false, beq_self_eq_true, cond_true, g1, g2, ← c1]
      exact J false true (.inr rfl)
    · have g1 : ((y + 1) == y) = false := by rw [beq_eq_false_iff_ne]; omega
      have g2 : IntKind.i64.wrap (y + 1) = y + 1 := w64 (by omega)
      have g3 : (m == 12) = true := by simp [c2]
      simp only [k_bind, k_tup, k_cons, k_agg, k_int, k_nil, f0, cond_false, beq_self_eq_true, cond_true, g1, g2, g3, ← c1]
      exact J false true (.inr rfl)
  · have hn : num y m d = 2932896 := by unfold inDays at hi; omega
    have eg : gE (num y m d + 1) = 8 := by unfold gE; rw [if_neg hi]
    rw [eg, sp_awake n, hn]
    have f0 : ((8 : Int) != 0) = true := rfl
    simp only [k_bind, k_tup, k_cons, k_agg, k_int, k_nil, k_bool, f0, beq_self_eq_true, cond_true]

theorem law_CivilBack (n : Nat) (y m d : Int) : CP C (n + 6) F_law06_CivilBack [date y m d] = some (.bool true) := by
  rw [eq_law06_CivilBack]
  unfold R_law06_CivilBack T_law06_CivilBack_1
  rw [sp_civil_Days (n + 1), sp_awake n]
  by_cases h : cE y m d = 0
  · obtain ⟨hv, hy⟩ := cE_zero.1 h
    have hr := num_bound hv hy
    have hi : inDays (num y m d) := hr
    obtain ⟨d1, d2⟩ := date_ok (num y m d)
    obtain ⟨u1, u2, u3⟩ := unique hv d1 (by rw [d2])
    have e1 : nE y m d = num y m d := by unfold nE; rw [if_pos h]
    have e2 : uE y m d = num y m d - jan1 y + 1 := by unfold uE; rw [if_pos h]
    have hin := num_in_year hv
    rw [jan1_succ] at hin
    have ho : oE y (num y m d - jan1 y + 1) = 0 := by unfold oE; omega
    have eg : gY (num y m d) = y ∧ gM (num y m d) = m ∧ gD (num y m d) = d ∧ gE (num y m d) = 0 := by
      unfold gY gM gD gE; rw [if_pos hi, if_pos hi, if_pos hi, if_pos hi]; exact ⟨u1.symm, u2.symm, u3.symm, rfl⟩
    have eo : oY y (num y m d - jan1 y + 1) = y ∧ oM y (num y m d - jan1 y + 1) = m ∧ oD y (num y m d - jan1 y + 1) = d := by
      unfold oY oM oD; rw [if_pos ho, if_pos ho, if_pos ho, show jan1 y + (num y m d - jan1 y + 1) - 1 = num y m d by omega]; exact ⟨u1.symm, u2.symm, u3.symm⟩
    have f1 := sp_civil_DateOf (n + 3) (num y m d)
    have f2 := sp_civil_Ordinal n y m d
    have f3 := sp_civil_OfOrdinal (n + 2) y (num y m d - jan1 y + 1)
    rw [eg.1, eg.2.1, eg.2.2.1, eg.2.2.2] at f1
    rw [e2, h] at f2
    rw [eo.1, eo.2.1, eo.2.2, ho] at f3
    have f0 : ((0 : Int) != 0) = false := rfl
    rw [e1, h]
    simp only [k_bind, k_tup, k_cons, k_agg, k_int, k_nil, f0, cond_false, f1, f2, f3, beq_self_eq_true, Bool.and_self, Bool.not_true]
    exact back509 n y m d hv hy
  · have e1 : nE y m d = 0 := by unfold nE; rw [if_neg h]
    rw [e1]
    simp only [k_int, k_anyInt, k_bool, k_str, k_agg, k_tup, k_cons, k_nil, k_bind, ↓c_not, ↓c_bne, ite_cond, Bool.and_eq_true, Bool.or_eq_true, beq_iff_eq, Bool.and_true, decide_eq_true_eq, Bool.false_eq_true, if_true, if_false, bne_self_eq_false, and_self, Int.reduceEq, Int.reduceLT, Int.reduceNeg, h]
end Go.Proofs.Ytjbjfcodmkbanaa.Sim.S
