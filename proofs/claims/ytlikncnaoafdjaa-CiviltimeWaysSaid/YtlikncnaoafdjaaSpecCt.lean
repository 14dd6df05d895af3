/- Civil times. Condition: none beyond what each theorem says. -/
import Derived.Test.YtlikncnaoafdjaaSpecClock
import Derived.Test.YtlikncnaoafdjaaSpecCivil
set_option linter.unusedSimpArgs false
set_option linter.unusedVariables false
namespace Go.Proofs.Ytlikncnaoafdjaa.Sim.S
open Go Civil

abbrev ct (y m d h i s n : Int) : AV := .agg [.int .i64 y, .int .i64 m, .int .i64 d, .int .i64 h, .int .i64 i, .int .i64 s, .int .i64 n]
/-- What is wrong with a civil time. -/
def tE (y m d h i s n : Int) : Int := if clkOk h i s n then cE y m d else 5
/-- Its nanoseconds. -/
def tZ (y m d h i s n : Int) : Int := num y m d * 86400000000000 + nan h i s n
def zv (e x : Int) : Int := if e = 0 then x else 0
theorem gE_in {x : Int} (h : -4371587 ≤ x ∧ x ≤ 2932896) : gE x = 0 := by unfold gE; exact if_pos h
theorem gE_out {x : Int} (h : ¬ (-4371587 ≤ x ∧ x ≤ 2932896)) : gE x = 8 := by unfold gE; exact if_neg h
theorem tE_zero {y m d h i s n : Int} : tE y m d h i s n = 0 ↔ clkOk h i s n ∧ cE y m d = 0 := by
  unfold tE
  by_cases g : clkOk h i s n
  · rw [if_pos g]; exact ⟨fun x => ⟨g, x⟩, fun x => x.2⟩
  · rw [if_neg g]; exact ⟨fun x => absurd x (by decide), fun x => absurd x.1 g⟩
theorem nan_range {h i s n : Int} (g : clkOk h i s n) : 0 ≤ nan h i s n ∧ nan h i s n < 86400000000000 := by
  unfold clkOk at g; unfold nan; omega
/-- An error, or else the civil time of a number of nanoseconds. -/
abbrev ciV (e z : Int) : AV := .tup [ct (zv e (gY (z / 86400000000000))) (zv e (gM (z / 86400000000000))) (zv e (gD (z / 86400000000000))) (zv e (ofH (z % 86400000000000))) (zv e (ofM (z % 86400000000000))) (zv e (ofS (z % 86400000000000))) (zv e (ofN (z % 86400000000000))), .int .i64 e]
theorem ciV_err {e : Int} (z : Int) (h : e ≠ 0) : ciV e z = .tup [ct 0 0 0 0 0 0 0, .int .i64 e] := by
  unfold ciV zv
  simp only [if_neg h]
theorem ciV_ok {e : Int} (z : Int) (h : e = 0) : ciV e z = .tup [ct (gY (z / 86400000000000)) (gM (z / 86400000000000)) (gD (z / 86400000000000)) (ofH (z % 86400000000000)) (ofM (z % 86400000000000)) (ofS (z % 86400000000000)) (ofN (z % 86400000000000)), .int .i64 0] := by
  subst h
  unfold ciV zv
  simp only [if_true]
/-- A civil time is that of its number. -/
theorem of_tZ {y m d h i s n : Int} (g : tE y m d h i s n = 0) : ciV 0 (tZ y m d h i s n) = .tup [ct y m d h i s n, .int .i64 0] := by
  obtain ⟨g1, g2⟩ := tE_zero.1 g
  obtain ⟨hv, hy⟩ := cE_zero.1 g2
  have hb := num_bound hv hy
  have hr := nan_range g1
  have e1 : tZ y m d h i s n / 86400000000000 = num y m d := by unfold tZ; omega
  have e2 : tZ y m d h i s n % 86400000000000 = nan h i s n := by unfold tZ; omega
  obtain ⟨d1, d2⟩ := date_ok (num y m d)
  obtain ⟨u1, u2, u3⟩ := unique hv d1 d2.symm
  have hi : inDays (num y m d) := hb
  rw [ciV_ok _ rfl, e1, e2]
  unfold gY gM gD ofH ofM ofS ofN
  rw [if_pos hi, if_pos hi, if_pos hi, if_pos hr, if_pos hr, if_pos hr, if_pos hr, ← u1, ← u2, ← u3]
  unfold clkOk at g1
  rw [show nan h i s n / 3600000000000 = h by unfold nan; omega, show nan h i s n / 60000000000 % 60 = i by unfold nan; omega, show nan h i s n / 1000000000 % 60 = s by unfold nan; omega, show nan h i s n % 1000000000 = n by unfold nan; omega]
theorem sp_ct_of (k : Nat) (y m d h i s n : Int) : CP C (k + 5) F_civiltime_of [ct y m d h i s n] = some (.tup [.agg [.int .i64 (zv (tE y m d h i s n) (num y m d)), .int .i64 (zv (tE y m d h i s n) (nan h i s n))], .int .i64 (tE y m d h i s n)]) := by
  rw [eq_civiltime_of]
  unfold R_civiltime_of
  rw [sp_clock_Nanos (k + 1), sp_civil_Days k]
  simp only [k_bind, k_tup, k_agg, k_cons, k_int, k_nil]
  unfold zv ck nanE nE
  by_cases g : clkOk h i s n
  · have e : tE y m d h i s n = cE y m d := by unfold tE; rw [if_pos g]
    rw [if_pos g, if_pos g, e]
    by_cases g2 : cE y m d = 0
    · rw [g2]; rfl
    · rw [if_neg g2, if_neg g2, show (cE y m d != 0) = true from bne_iff_ne.2 g2]; rfl
  · have e : tE y m d h i s n = 5 := by unfold tE; rw [if_neg g]
    rw [if_neg g, if_neg g, e]; rfl
theorem sp_ct_Check (k : Nat) (y m d h i s n : Int) : CP C (k + 6) F_civiltime_Check [ct y m d h i s n] = some (.int .i64 (tE y m d h i s n)) := by
  rw [eq_civiltime_Check]
  unfold R_civiltime_Check
  rw [sp_ct_of k]
  simp only [k_bind, k_tup, k_agg, k_cons, k_int, k_nil]
theorem sp_ct_secs (k : Nat) (x : Int) (h : -100000000 ≤ x ∧ x ≤ 100000000) : CP C (k + 1) F_civiltime_day_seconds [.agg [.int .i64 x]] = some (.int .i64 (x * 86400)) := by
  rw [eq_civiltime_day_seconds]
  unfold R_civiltime_day_seconds
  rw [w64 (by omega)]
theorem sp_ct_Secs (k : Nat) (y m d h i s n : Int) : CP C (k + 6) F_civiltime_Secs [ct y m d h i s n] = some (.tup [.int .i64 (zv (tE y m d h i s n) (tZ y m d h i s n / 1000000000)), .int .i64 (tE y m d h i s n)]) := by
  rw [eq_civiltime_Secs]
  unfold R_civiltime_Secs
  rw [sp_ct_of k]
  simp only [k_bind, k_tup, k_agg, k_cons, k_int, k_nil]
  by_cases g : tE y m d h i s n = 0
  · obtain ⟨g1, g2⟩ := tE_zero.1 g
    obtain ⟨hv, hy⟩ := cE_zero.1 g2
    have hb := num_bound hv hy
    have hr := nan_range g1
    unfold zv
    rw [g, if_pos rfl, if_pos rfl, if_pos rfl, show ((0 : Int) != 0) = false from rfl, cond_false, sp_ct_secs (k + 4) _ (by omega)]
    simp only [k_bind, k_int]
    rw [bnd_eq _ (show _ = tZ y m d h i s n / 1000000000 by unfold tZ; simp (disch := omega) only [td_nn, w64]; omega)]
  · rw [show (tE y m d h i s n != 0) = true from bne_iff_ne.2 g, cond_true]
    unfold zv
    rw [if_neg g]
theorem sp_ct_date (k : Nat) (x : Int) : CP C (k + 3) F_civiltime_day_date [.agg [.int .i64 x]] = some (.tup [date (gY x) (gM x) (gD x), .int .i64 (gE x)]) := by
  rw [eq_civiltime_day_date]
  unfold R_civiltime_day_date
  rw [sp_civil_DateOf k]
  simp only [k_bind, k_tup, k_agg, k_cons, k_int, k_nil]
theorem sp_ct_civil (k : Nat) (x t : Int) (ht : 0 ≤ t ∧ t < 86400000000000) : CP C (k + 4) F_civiltime_reading_civil [.agg [.int .i64 x, .int .i64 t]] = some (ciV (gE x) (x * 86400000000000 + t)) := by
  rw [eq_civiltime_reading_civil]
  unfold R_civiltime_reading_civil
  have e1 : (x * 86400000000000 + t) / 86400000000000 = x := by omega
  have e2 : (x * 86400000000000 + t) % 86400000000000 = t := by omega
  rw [sp_ct_date k, sp_clock_Of (k + 2)]
  simp only [k_bind, k_tup, k_agg, k_cons, k_int, k_nil]
  by_cases g : gE x = 0
  · rw [ciV_ok _ g, e1, e2, g, show ((0 : Int) != 0) = false from rfl, cond_false, show ofE t = 0 by unfold ofE; rw [if_pos ht]]
  · rw [ciV_err _ g, show (gE x != 0) = true from bne_iff_ne.2 g, cond_true]
theorem sp_ct_Of (k : Nat) (s n : Int) : CP C (k + 5) F_civiltime_Of [.int .i64 s, .int .i64 n] = some (ciV (iE s n) (s * 1000000000 + n)) := by
  rw [eq_civiltime_Of]
  unfold R_civiltime_Of
  by_cases g1 : n < 0
  · rw [decide_eq_true g1, cond_true, show iE s n = 5 by unfold iE; omega, ciV_err _ (by decide)]
  rw [decide_eq_false g1, cond_false]
  by_cases g2 : n ≥ 1000000000
  · rw [decide_eq_true g2, cond_true, show iE s n = 5 by unfold iE; omega, ciV_err _ (by decide)]
  rw [decide_eq_false g2, cond_false]
  by_cases g3 : s < -377705116800
  · rw [decide_eq_true g3, cond_true, show iE s n = 8 by unfold iE; omega, ciV_err _ (by decide)]
  rw [decide_eq_false g3, cond_false]
  by_cases g4 : s > 253402300799
  · rw [decide_eq_true g4, cond_true, show iE s n = 8 by unfold iE; omega, ciV_err _ (by decide)]
  rw [decide_eq_false g4, cond_false, show iE s n = 0 by unfold iE; omega]
  rw [w64 (show -9223372036854775808 ≤ s - -377705116800 ∧ s - -377705116800 ≤ 9223372036854775807 by omega), td_nn (by omega), tm_nn (by omega)]
  rw [bnd_eq _ (w64 (by omega)), bnd_eq _ (w64 (by omega)), w64 (by omega), w64 (by omega)]
  rw [sp_ct_civil k _ _ (by omega)]
  simp only [k_bind, k_tup, k_agg, k_cons, k_int, k_nil]
  have e : (-4371587 + (s - -377705116800) / 86400) * 86400000000000 + ((s - -377705116800) % 86400 * 1000000000 + n) = s * 1000000000 + n := by omega
  have eg : gE (-4371587 + (s - -377705116800) / 86400) = 0 := gE_in (by omega)
  rw [e, eg]
def ctaE (y m d h i s n t u : Int) : Int := if lst (tE y m d h i s n) (dE t u) ≠ 0 then lst (tE y m d h i s n) (dE t u) else gE ((tZ y m d h i s n + (t * 1000000000 + u)) / 86400000000000)
theorem lst_alt (a b : Int) : lst a b = if a ≠ 0 ∧ (b = 0 ∨ a < b) then a else b := by unfold lst; omega
theorem sp_ct_Add (k : Nat) (y m d h i s n t u : Int) : CP C (k + 6) F_civiltime_Add [ct y m d h i s n, ins t u] = some (ciV (ctaE y m d h i s n t u) (tZ y m d h i s n + (t * 1000000000 + u))) := by
  rw [eq_civiltime_Add]
  unfold R_civiltime_Add T_civiltime_Add_1
  rw [sp_ct_of k, sp_dur_Check (k + 4)]
  simp only [k_bind, k_tup, k_agg, k_cons, k_int, k_nil]
  by_cases g : lst (tE y m d h i s n) (dE t u) = 0
  · obtain ⟨g1, g2⟩ := lst_zero g
    obtain ⟨c1, c2⟩ := tE_zero.1 g1
    obtain ⟨hv, hy⟩ := cE_zero.1 c2
    have hb := num_bound hv hy
    have hr := nan_range c1
    have hd := dE_ok g2
    rw [g1, g2, show ((0 : Int) != 0) = false from rfl, cond_false]
    unfold J_civiltime_Add_61 T_civiltime_Add_61
    rw [cond_false, show ((0 : Int) != 0) = false from rfl, cond_false, sp_clock_Add (k + 1)]
    simp only [k_bind, k_tup, k_agg, k_cons, k_int, k_nil]
    have hs : sumOk h i s n t u := ⟨c1, g2⟩
    have eX : sumX h i s n t u = sumT h i s n t u % 86400000000000 := by unfold sumX; rw [if_pos hs]
    have eD : sumD h i s n t u = sumT h i s n t u / 86400000000000 := by unfold sumD; rw [if_pos hs]
    rw [eX, eD, sp_clock_Nanos (k + 2)]
    have hT : sumT h i s n t u = nan h i s n + t * 1000000000 + u := rfl
    have eN : nanE (ofH (sumT h i s n t u % 86400000000000)) (ofM (sumT h i s n t u % 86400000000000)) (ofS (sumT h i s n t u % 86400000000000)) (ofN (sumT h i s n t u % 86400000000000)) = sumT h i s n t u % 86400000000000 := by
      have hx : 0 ≤ sumT h i s n t u % 86400000000000 ∧ sumT h i s n t u % 86400000000000 < 86400000000000 := by omega
      generalize sumT h i s n t u % 86400000000000 = x at hx
      unfold ofH ofM ofS ofN
      rw [if_pos hx, if_pos hx, if_pos hx, if_pos hx]
      have hok : clkOk (x / 3600000000000) (x / 60000000000 % 60) (x / 1000000000 % 60) (x % 1000000000) := by unfold clkOk; omega
      unfold nanE nan
      rw [if_pos hok]
      omega
    rw [eN]
    simp only [k_bind, k_tup, k_agg, k_cons, k_int, k_nil]
    rw [show zv 0 (num y m d) = num y m d from rfl, w64 (by omega), sp_ct_civil (k + 1) _ _ (by omega)]
    simp only [k_bind, k_tup, k_agg, k_cons, k_int, k_nil]
    have eZ : (num y m d + sumT h i s n t u / 86400000000000) * 86400000000000 + sumT h i s n t u % 86400000000000 = tZ y m d h i s n + (t * 1000000000 + u) := by unfold tZ; omega
    have eQ : num y m d + sumT h i s n t u / 86400000000000 = (tZ y m d h i s n + (t * 1000000000 + u)) / 86400000000000 := by unfold tZ; omega
    have eE : ctaE y m d h i s n t u = gE (num y m d + sumT h i s n t u / 86400000000000) := by unfold ctaE; rw [if_neg (by omega), eQ]
    rw [eZ, eE]
  · have eE : ctaE y m d h i s n t u = lst (tE y m d h i s n) (dE t u) := by unfold ctaE; rw [if_pos g]
    rw [eE, ciV_err _ g]
    rw [lst_alt] at g ⊢
    generalize tE y m d h i s n = a at *
    generalize dE t u = b at *
    by_cases c1 : a = 0
    · have c2 : b ≠ 0 := by rw [if_neg (by omega)] at g; exact g
      rw [if_neg (show ¬ (a ≠ 0 ∧ (b = 0 ∨ a < b)) by omega), c1, show ((0 : Int) != 0) = false from rfl, cond_false]
      unfold J_civiltime_Add_61 T_civiltime_Add_61
      rw [cond_false, show (b != 0) = true from bne_iff_ne.2 c2, cond_true]
    · rw [show (a != 0) = true from bne_iff_ne.2 c1, cond_true]
      by_cases c2 : b = 0
      · rw [if_pos ⟨c1, .inl c2⟩, c2, show ((0 : Int) == 0) = true from rfl, cond_true]; rfl
      · rw [show (b == 0) = false from beq_eq_false_iff_ne.2 c2, cond_false]
        unfold J_civiltime_Add_61 T_civiltime_Add_61
        by_cases c3 : a < b
        · rw [decide_eq_true c3, cond_true, if_pos ⟨c1, .inr c3⟩]
        · rw [decide_eq_false c3, cond_false, if_neg (by omega), show (b != 0) = true from bne_iff_ne.2 c2, cond_true]
theorem sp_ct_Sub (k : Nat) (y m d h i s n y' m' d' h' i' s' n' : Int) : CP C (k + 8) F_civiltime_Sub [ct y m d h i s n, ct y' m' d' h' i' s' n'] = some (betV (lst (tE y m d h i s n) (tE y' m' d' h' i' s' n')) (tZ y m d h i s n - tZ y' m' d' h' i' s' n')) := by
  rw [eq_civiltime_Sub]
  unfold R_civiltime_Sub
  rw [sp_ct_of (k + 2), sp_ct_of (k + 2)]
  simp only [k_bind, k_tup, k_agg, k_cons, k_int, k_nil]
  by_cases g : lst (tE y m d h i s n) (tE y' m' d' h' i' s' n') = 0
  · obtain ⟨g1, g2⟩ := lst_zero g
    obtain ⟨c1, c2⟩ := tE_zero.1 g1
    obtain ⟨hv, hy⟩ := cE_zero.1 c2
    have hb := num_bound hv hy
    have hr := nan_range c1
    obtain ⟨c1', c2'⟩ := tE_zero.1 g2
    obtain ⟨hv', hy'⟩ := cE_zero.1 c2'
    have hb' := num_bound hv' hy'
    have hr' := nan_range c1'
    rw [betV_ok _ g, g1, g2, show ((0 : Int) != 0) = false from rfl, cond_false, cond_false]
    rw [show zv 0 (num y m d) = num y m d from rfl, show zv 0 (num y' m' d') = num y' m' d' from rfl, show zv 0 (nan h i s n) = nan h i s n from rfl, show zv 0 (nan h' i' s' n') = nan h' i' s' n' from rfl]
    rw [sp_ct_secs (k + 6) _ (by omega), sp_ct_secs (k + 6) _ (by omega)]
    simp only [k_bind, k_int]
    rw [w64 (by omega), w64 (by omega), sp_dur_New k _ _ (by omega) (by omega)]
    simp only [k_bind, k_tup, k_agg, k_cons, k_int, k_nil]
    have eZ : (num y m d * 86400 - num y' m' d' * 86400) * 1000000000 + (nan h i s n - nan h' i' s' n') = tZ y m d h i s n - tZ y' m' d' h' i' s' n' := by unfold tZ; omega
    rw [eZ]
    have hd : din (tZ y m d h i s n - tZ y' m' d' h' i' s' n') := by unfold din tZ; omega
    have := duV_ok hd
    unfold duV at this
    rw [this]
  · rw [betV_err _ g]
    rw [lst_alt] at g ⊢
    generalize tE y m d h i s n = a at *
    generalize tE y' m' d' h' i' s' n' = b at *
    by_cases c1 : a = 0
    · have c2 : b ≠ 0 := by rw [if_neg (by omega)] at g; exact g
      rw [if_neg (show ¬ (a ≠ 0 ∧ (b = 0 ∨ a < b)) by omega), c1, show ((0 : Int) != 0) = false from rfl, cond_false]
      rw [show (b != 0) = true from bne_iff_ne.2 c2, cond_true]
    · rw [show (a != 0) = true from bne_iff_ne.2 c1, cond_true]
      by_cases c2 : b = 0
      · rw [if_pos ⟨c1, .inl c2⟩, c2, show ((0 : Int) == 0) = true from rfl, cond_true]
      · rw [show (b == 0) = false from beq_eq_false_iff_ne.2 c2, cond_false]
        by_cases c3 : a < b
        · rw [decide_eq_true c3, cond_true, if_pos ⟨c1, .inr c3⟩]
        · rw [decide_eq_false c3, cond_false, if_neg (by omega), show (b != 0) = true from bne_iff_ne.2 c2, cond_true]
def cmpD (y m d z k e : Int) : Int := if cmp1 y z ≠ 0 then cmp1 y z else if cmp1 m k ≠ 0 then cmp1 m k else cmp1 d e
theorem cmp_num {y m d z k e : Int} (h : valid y m d) (h' : valid z k e) : cmpD y m d z k e = cmp1 (num y m d) (num z k e) := by
  unfold cmpD cmp1
  rcases Int.lt_trichotomy y z with hy | rfl | hy
  · have := num_lt_year h h' hy; omega
  · rcases Int.lt_trichotomy m k with hm | rfl | hm
    · have := num_lt_month h h' hm; omega
    · unfold num; omega
    · have := num_lt_month h' h hm; omega
  · have := num_lt_year h' h hy; omega
/-- Dates, and then clocks. -/
def cmpT (y m d h i s n y' m' d' h' i' s' n' : Int) : Int :=
  if cmpD y m d y' m' d' ≠ 0 then cmpD y m d y' m' d' else if cmp1 h h' ≠ 0 then cmp1 h h' else if cmp1 i i' ≠ 0 then cmp1 i i' else if cmp1 s s' ≠ 0 then cmp1 s s' else cmp1 n n'
theorem sp_civil_Cmp (n : Nat) (y m d z k e : Int) : CP C (n + 3) F_civil_Cmp [date y m d, date z k e] = some (.int .i64 (cmpD y m d z k e)) := by
  rw [eq_civil_Cmp]
  unfold R_civil_Cmp
  rw [sp_Compare, sp_Compare, sp_Compare]
  simp only [k_int, k_anyInt, k_bool, k_str, k_agg, k_tup, k_cons, k_nil, k_bind, ↓c_not, ↓c_bne, ite_cond, Bool.and_eq_true, Bool.or_eq_true, beq_iff_eq, Bool.and_true, decide_eq_true_eq, Bool.false_eq_true, if_true, if_false, bne_self_eq_false, and_self, Int.reduceEq, Int.reduceLT, Int.reduceNeg, i_some, i_int, i_bool, i_agg, i_tup, i_cons, i_self, Option.some.injEq, AV.int.injEq, AV.bool.injEq, AV.agg.injEq, AV.tup.injEq, List.cons.injEq, true_and, and_true]
  unfold cmpD
  omega
theorem sp_ref06_Cmp (n : Nat) (y m d z k e : Int) : CP C (n + 1) F_ref06_Cmp [date y m d, date z k e] = some (.int .i64 (cmpD y m d z k e)) := by
  rw [eq_ref06_Cmp]
  unfold R_ref06_Cmp cmpD cmp1
  simp only [k_int, k_anyInt, k_bool, k_str, k_agg, k_tup, k_cons, k_nil, k_bind, ↓c_not, ↓c_bne, ite_cond, Bool.and_eq_true, Bool.or_eq_true, beq_iff_eq, Bool.and_true, decide_eq_true_eq, Bool.false_eq_true, if_true, if_false, bne_self_eq_false, and_self, Int.reduceEq, Int.reduceLT, Int.reduceNeg, i_some, i_int, i_bool, i_agg, i_tup, i_cons, i_self, Option.some.injEq, AV.int.injEq, AV.bool.injEq, AV.agg.injEq, AV.tup.injEq, List.cons.injEq, true_and, and_true]
  omega
theorem sp_ct_Cmp (k : Nat) (y m d h i s n y' m' d' h' i' s' n' : Int) : CP C (k + 4) F_civiltime_Cmp [ct y m d h i s n, ct y' m' d' h' i' s' n'] = some (.int .i64 (cmpT y m d h i s n y' m' d' h' i' s' n')) := by
  rw [eq_civiltime_Cmp]
  unfold R_civiltime_Cmp
  rw [sp_civil_Cmp k, sp_Compare (k + 1), sp_Compare (k + 1), sp_Compare (k + 1), sp_Compare (k + 1)]
  simp only [k_int, k_anyInt, k_bool, k_str, k_agg, k_tup, k_cons, k_nil, k_bind, ↓c_not, ↓c_bne, ite_cond, Bool.and_eq_true, Bool.or_eq_true, beq_iff_eq, Bool.and_true, decide_eq_true_eq, Bool.false_eq_true, if_true, if_false, bne_self_eq_false, and_self, Int.reduceEq, Int.reduceLT, Int.reduceNeg, i_some, i_int, i_bool, i_agg, i_tup, i_cons, i_self, Option.some.injEq, AV.int.injEq, AV.bool.injEq, AV.agg.injEq, AV.tup.injEq, List.cons.injEq, true_and, and_true]
  unfold cmpT
  omega
theorem cmpT_num {y m d h i s n y' m' d' h' i' s' n' : Int} (g : tE y m d h i s n = 0) (g' : tE y' m' d' h' i' s' n' = 0) : cmpT y m d h i s n y' m' d' h' i' s' n' = cmp1 (tZ y m d h i s n) (tZ y' m' d' h' i' s' n') := by
  obtain ⟨c1, c2⟩ := tE_zero.1 g
  obtain ⟨c1', c2'⟩ := tE_zero.1 g'
  obtain ⟨hv, hy⟩ := cE_zero.1 c2
  obtain ⟨hv', hy'⟩ := cE_zero.1 c2'
  unfold cmpT
  rw [cmp_num hv hv']
  unfold clkOk at c1 c1'
  unfold tZ nan
  generalize num y m d = a
  generalize num y' m' d' = b
  unfold cmp1
  rcases Int.lt_trichotomy a b with h1 | rfl | h1
  · rw [if_pos h1, if_pos (by decide), if_pos (by omega)]
  · rw [if_neg (Int.lt_irrefl a), if_neg (Int.lt_irrefl a), if_neg (by decide)]
    omega
  · rw [if_neg (show ¬ a < b by omega), if_pos (show a > b from h1), if_pos (show (1 : Int) ≠ 0 by decide)]
    omega
theorem sp_ref09_Check (k : Nat) (y m d h i s n : Int) : CP C (k + 5) F_ref09_Check [ct y m d h i s n] = some (.int .i64 (tE y m d h i s n)) := by
  rw [eq_ref09_Check]
  unfold R_ref09_Check
  rw [sp_ref08_Check (k + 3), sp_ref06_Check k]
  simp only [k_bind, k_int]
  unfold ck tE
  by_cases g : clkOk h i s n
  · rw [if_pos g, if_pos g]; rfl
  · rw [if_neg g, if_neg g]; rfl
theorem sp_ref09_Number (k : Nat) (y m d h i s n : Int) (g : tE y m d h i s n = 0) : CP C (k + 203) F_ref09_Number [ct y m d h i s n] = some (.int .i64 (tZ y m d h i s n / 1000000000)) := by
  obtain ⟨c1, c2⟩ := tE_zero.1 g
  obtain ⟨hv, hy⟩ := cE_zero.1 c2
  have hb := num_bound hv hy
  rw [eq_ref09_Number]
  unfold R_ref09_Number
  rw [sp_ref06_Number k y m d hv (by omega), sp_ref08_Secs (k + 201) h i s n c1]
  simp only [k_bind, k_int]
  unfold clkOk at c1
  rw [show IntKind.i64.wrap (IntKind.i64.wrap (num y m d * 86400) + (3600 * h + 60 * i + s)) = tZ y m d h i s n / 1000000000 by unfold tZ nan; simp (disch := omega) only [w64]; omega]
theorem sp_ref09_Secs (k : Nat) (y m d h i s n : Int) : CP C (k + 204) F_ref09_Secs [ct y m d h i s n] = some (.tup [.int .i64 (zv (tE y m d h i s n) (tZ y m d h i s n / 1000000000)), .int .i64 (tE y m d h i s n)]) := by
  rw [eq_ref09_Secs]
  unfold R_ref09_Secs
  rw [sp_ref09_Check (k + 198)]
  simp only [k_bind, k_int]
  unfold zv
  by_cases g : tE y m d h i s n = 0
  · rw [sp_ref09_Number k _ _ _ _ _ _ _ g, g, if_pos rfl]; rfl
  · rw [if_neg g, show (tE y m d h i s n != 0) = true from bne_iff_ne.2 g, cond_true]
theorem sp_ref09_Of (k : Nat) (s n : Int) : CP C (k + 202) F_ref09_Of [.int .i64 s, .int .i64 n] = some (ciV (iE s n) (s * 1000000000 + n)) := by
  rw [eq_ref09_Of]
  unfold R_ref09_Of
  by_cases g1 : n < 0
  · rw [decide_eq_true g1, cond_true, show iE s n = 5 by unfold iE; omega, ciV_err _ (by decide)]
  rw [decide_eq_false g1, cond_false]
  by_cases g2 : n ≥ 1000000000
  · rw [decide_eq_true g2, cond_true, show iE s n = 5 by unfold iE; omega, ciV_err _ (by decide)]
  rw [decide_eq_false g2, cond_false]
  by_cases g3 : s < -377705116800
  · rw [decide_eq_true g3, cond_true, show iE s n = 8 by unfold iE; omega, ciV_err _ (by decide)]
  rw [decide_eq_false g3, cond_false]
  by_cases g4 : s > 253402300799
  · rw [decide_eq_true g4, cond_true, show iE s n = 8 by unfold iE; omega, ciV_err _ (by decide)]
  rw [decide_eq_false g4, cond_false, show iE s n = 0 by unfold iE; omega, ciV_ok _ rfl]
  have hx : 0 ≤ (s * 1000000000 + n) % 86400000000000 ∧ (s * 1000000000 + n) % 86400000000000 < 86400000000000 := by omega
  have fin : s * 1000000000 + n = s / 86400 * 86400000000000 + (s % 86400 * 1000000000 + n) := by omega
  have tail : some (AV.tup [ct (gY (s / 86400)) (gM (s / 86400)) (gD (s / 86400)) (s % 86400 / 3600) (s % 86400 / 60 % 60) (s % 86400 % 60) n, .int .i64 0]) = some (.tup [ct (gY ((s * 1000000000 + n) / 86400000000000)) (gM ((s * 1000000000 + n) / 86400000000000)) (gD ((s * 1000000000 + n) / 86400000000000)) (ofH ((s * 1000000000 + n) % 86400000000000)) (ofM ((s * 1000000000 + n) % 86400000000000)) (ofS ((s * 1000000000 + n) % 86400000000000)) (ofN ((s * 1000000000 + n) % 86400000000000)), .int .i64 0]) := by
    unfold ofH ofM ofS ofN
    rw [if_pos hx, if_pos hx, if_pos hx, if_pos hx, show (s * 1000000000 + n) / 86400000000000 = s / 86400 by omega, show (s * 1000000000 + n) % 86400000000000 / 3600000000000 = s % 86400 / 3600 by omega, show (s * 1000000000 + n) % 86400000000000 / 60000000000 % 60 = s % 86400 / 60 % 60 by omega, show (s * 1000000000 + n) % 86400000000000 / 1000000000 % 60 = s % 86400 % 60 by omega, show (s * 1000000000 + n) % 86400000000000 % 1000000000 = n by omega]
  by_cases g5 : Int.tmod s 86400 < 0
  · rw [decide_eq_true g5, cond_true]
    rw [bnd_eq _ (show _ = s / 86400 by simp only [IntKind.wrap_i64, tdiv_pos, tmod_pos, Int.reduceLT] at g5 ⊢; omega), show IntKind.i64.wrap (Int.tmod s 86400 + 86400) = s % 86400 by simp only [IntKind.wrap_i64, tdiv_pos, tmod_pos, Int.reduceLT] at g5 ⊢; omega]
    rw [sp_ref06_DateOf k, sp_ref08_OfSecs (k + 200) _ _ (by omega)]
    simp only [k_bind, k_tup, k_agg, k_cons, k_int, k_nil]
    exact tail
  · rw [decide_eq_false g5, cond_false, show IntKind.i64.wrap (Int.tdiv s 86400) = s / 86400 by simp only [IntKind.wrap_i64, tdiv_pos, tmod_pos, Int.reduceLT] at g5 ⊢; omega, show Int.tmod s 86400 = s % 86400 by simp only [IntKind.wrap_i64, tdiv_pos, tmod_pos, Int.reduceLT] at g5 ⊢; omega]
    rw [sp_ref06_DateOf k, sp_ref08_OfSecs (k + 200) _ _ (by omega)]
    simp only [k_bind, k_tup, k_agg, k_cons, k_int, k_nil]
    exact tail
theorem sp_ref09_instant (k : Nat) (y m d h i s n : Int) (g : tE y m d h i s n = 0) : CP C (k + 204) F_ref09_instant [ct y m d h i s n] = some (ins (tZ y m d h i s n / 1000000000) n) := by
  rw [eq_ref09_instant]
  unfold R_ref09_instant
  rw [sp_ref09_Number k _ _ _ _ _ _ _ g]
  simp only [k_bind, k_int]
theorem tZ_ins {y m d h i s n : Int} (g : tE y m d h i s n = 0) : iE (tZ y m d h i s n / 1000000000) n = 0 ∧ tZ y m d h i s n / 1000000000 * 1000000000 + n = tZ y m d h i s n := by
  obtain ⟨c1, c2⟩ := tE_zero.1 g
  obtain ⟨hv, hy⟩ := cE_zero.1 c2
  have hb := num_bound hv hy
  unfold clkOk at c1
  unfold tZ nan iE
  omega
theorem first_err2 (a b : Int) (A : Int → Option AV) (Q : Option AV) (h : lst a b ≠ 0) :
    (cond (a != 0) (cond (b != 0) (cond (a == 0) (cond (b != 0) (A b) Q) (cond (decide (b < a)) (cond (b != 0) (A b) Q) (cond (a != 0) (A a) Q))) (cond (a != 0) (A a) Q)) (cond (b != 0) (cond (b != 0) (A b) Q) Q)) = A (lst a b) := first_err a b A Q h
theorem sp_ref09_Add (k : Nat) (y m d h i s n t u : Int) : CP C (k + 205) F_ref09_Add [ct y m d h i s n, ins t u] = some (ciV (ctaE y m d h i s n t u) (tZ y m d h i s n + (t * 1000000000 + u))) := by
  rw [eq_ref09_Add]
  unfold R_ref09_Add T_ref09_Add_1
  rw [sp_ref09_Check (k + 199), sp_ref03_CheckDur]
  simp only [k_bind, k_int]
  by_cases g : lst (tE y m d h i s n) (dE t u) = 0
  · obtain ⟨g1, g2⟩ := lst_zero g
    obtain ⟨i1, i2⟩ := tZ_ins g1
    have hd := dE_ok g2
    rw [g1, g2, show ((0 : Int) != 0) = false from rfl, cond_false, cond_false]
    unfold J_ref09_Add_7 T_ref09_Add_7
    rw [sp_ref09_instant k _ _ _ _ _ _ _ g1]
    simp only [k_bind, k_tup, k_agg, k_cons, k_int, k_nil]
    rw [sp_ref03_Add (k + 197), i1, g2, i2, errV_ok _ (show lst 0 0 = 0 from rfl)]
    have eE : ctaE y m d h i s n t u = gE ((tZ y m d h i s n + (t * 1000000000 + u)) / 86400000000000) := by unfold ctaE; rw [if_neg (by omega)]
    rw [eE]
    generalize tZ y m d h i s n + (t * 1000000000 + u) = z
    unfold insV qS qN qE
    by_cases hq : qin z
    · have hg : gE (z / 86400000000000) = 0 := gE_in (by unfold qin at hq; omega)
      rw [if_pos hq, if_pos hq, if_pos hq]
      simp only [k_bind, k_tup, k_agg, k_cons, k_int, k_nil]
      have hi : iE (z / 1000000000) (z % 1000000000) = 0 := by unfold iE; unfold qin at hq; omega
      rw [show ((0 : Int) != 0) = false from rfl, cond_false, sp_ref09_Of (k + 2), hi, show z / 1000000000 * 1000000000 + z % 1000000000 = z by omega]
      simp only [k_bind, k_tup, k_agg, k_cons, k_int, k_nil]
      rw [hg]
    · have hg : gE (z / 86400000000000) = 8 := gE_out (by unfold qin at hq; omega)
      rw [if_neg hq, if_neg hq, if_neg hq, hg, ciV_err _ (by decide)]
      rfl
  · have eE : ctaE y m d h i s n t u = lst (tE y m d h i s n) (dE t u) := by unfold ctaE; rw [if_pos g]
    rw [eE, ciV_err _ g]
    generalize tE y m d h i s n = a at *
    generalize dE t u = b at *
    generalize J_ref09_Add_7 (CP C (k + 204)) (k + 204) y m d h i s n t u = Q
    exact first_err a b (fun e => some (.tup [.agg [.int .i64 0, .int .i64 0, .int .i64 0, .int .i64 0, .int .i64 0, .int .i64 0, .int .i64 0], .int .i64 e])) Q g
theorem sp_ref09_Sub (k : Nat) (y m d h i s n y' m' d' h' i' s' n' : Int) : CP C (k + 205) F_ref09_Sub [ct y m d h i s n, ct y' m' d' h' i' s' n'] = some (betV (lst (tE y m d h i s n) (tE y' m' d' h' i' s' n')) (tZ y m d h i s n - tZ y' m' d' h' i' s' n')) := by
  rw [eq_ref09_Sub]
  unfold R_ref09_Sub T_ref09_Sub_1
  rw [sp_ref09_Check (k + 199), sp_ref09_Check (k + 199)]
  simp only [k_bind, k_int]
  by_cases g : lst (tE y m d h i s n) (tE y' m' d' h' i' s' n') = 0
  · obtain ⟨g1, g2⟩ := lst_zero g
    obtain ⟨i1, i2⟩ := tZ_ins g1
    obtain ⟨j1, j2⟩ := tZ_ins g2
    rw [g1, g2, show ((0 : Int) != 0) = false from rfl, cond_false, cond_false]
    unfold J_ref09_Sub_7 T_ref09_Sub_7
    rw [sp_ref09_instant k _ _ _ _ _ _ _ g1, sp_ref09_instant k _ _ _ _ _ _ _ g2]
    simp only [k_bind, k_tup, k_agg, k_cons, k_int, k_nil]
    rw [sp_ref03_Sub (k + 198), i1, j1, i2, j2]
    simp only [k_bind, k_tup, k_agg, k_cons, k_int, k_nil]
  · rw [betV_err _ g]
    generalize tE y m d h i s n = a at *
    generalize tE y' m' d' h' i' s' n' = b at *
    generalize J_ref09_Sub_7 (CP C (k + 204)) (k + 204) y m d h i s n y' m' d' h' i' s' n' = Q
    exact first_err a b (fun e => some (.tup [.agg [.int .i64 0, .int .i64 0], .int .i64 e])) Q g
theorem sp_ref09_Cmp (k : Nat) (y m d h i s n y' m' d' h' i' s' n' : Int) : CP C (k + 3) F_ref09_Cmp [ct y m d h i s n, ct y' m' d' h' i' s' n'] = some (.int .i64 (cmpT y m d h i s n y' m' d' h' i' s' n')) := by
  rw [eq_ref09_Cmp]
  unfold R_ref09_Cmp
  rw [sp_ref06_Cmp (k + 1), sp_ref03_Cmp k, sp_ref03_Cmp k]
  simp only [k_int, k_anyInt, k_bool, k_str, k_agg, k_tup, k_cons, k_nil, k_bind, ↓c_not, ↓c_bne, ite_cond, Bool.and_eq_true, Bool.or_eq_true, beq_iff_eq, Bool.and_true, decide_eq_true_eq, Bool.false_eq_true, if_true, if_false, bne_self_eq_false, and_self, Int.reduceEq, Int.reduceLT, Int.reduceNeg, i_some, i_int, i_bool, i_agg, i_tup, i_cons, i_self, Option.some.injEq, AV.int.injEq, AV.bool.injEq, AV.agg.injEq, AV.tup.injEq, List.cons.injEq, true_and, and_true]
  unfold cmpT cmp2
  generalize cmpD y m d y' m' d' = a
  unfold cmp1
  omega
end Go.Proofs.Ytlikncnaoafdjaa.Sim.S
