/- The greedy difference of two dates. Condition: none beyond what each theorem says. -/
import Derived.Test.YtceigcoipifloaaSpecMonths
import Derived.Test.YtceigcoipifloaaSpecPeriod2
set_option linter.unusedSimpArgs false
set_option linter.unusedVariables false
namespace Go.Proofs.Ytceigcoipifloaa.Sim.S
open Go Civil

/-! ### months one behind the other -/
/-- How many days the month of a number has, and the number of its first day. -/
def mdt (t : Int) : Int := mdays (t / 12) (t % 12 + 1)
def F1 (t : Int) : Int := num (t / 12) (t % 12 + 1) 1
theorem mdt_rng (t : Int) : 28 ≤ mdt t ∧ mdt t ≤ 31 := mdays_range (by omega)
theorem F1_succ (t : Int) : F1 (t + 1) = F1 t + mdt t := by
  unfold F1 mdt num
  by_cases h : t % 12 = 11
  · have hs := cum_succ (y := t / 12) (m := 12) (by omega)
    rw [show (12 : Int) + 1 = 13 from rfl, cum_13] at hs
    rw [show (t + 1) / 12 = t / 12 + 1 by omega, show (t + 1) % 12 + 1 = 1 by omega, show t % 12 + 1 = 12 by omega, cum_1, jan1_succ]
    omega
  · have hs := cum_succ (y := t / 12) (m := t % 12 + 1) (by omega)
    rw [show (t + 1) / 12 = t / 12 by omega, show (t + 1) % 12 + 1 = t % 12 + 1 + 1 by omega]
    omega
theorem F1_add (t : Int) : ∀ n : Nat, F1 t + 28 * (n : Int) ≤ F1 (t + (n : Int))
  | 0 => by rw [show t + ((0 : Nat) : Int) = t by omega]; omega
  | n + 1 => by
    have h1 := F1_add t n
    have h2 := F1_succ (t + (n : Int))
    have h3 := mdt_rng (t + (n : Int))
    rw [show t + ((n + 1 : Nat) : Int) = t + (n : Int) + 1 by omega]
    omega
theorem F1_mono {t u : Int} (h : t ≤ u) : F1 t + 28 * (u - t) ≤ F1 u := by
  have := F1_add t (u - t).toNat
  rw [show t + ((u - t).toNat : Int) = u by omega] at this
  omega
theorem F1_next {t u : Int} (h : t < u) : F1 t + mdt t ≤ F1 u := by
  have h1 := F1_succ t
  have h2 := F1_mono (show t + 1 ≤ u by omega)
  omega
/-- The number of months of a date. -/
def mo (y m : Int) : Int := 12 * y + m - 1
theorem mo_div {y m : Int} (h : 1 ≤ m ∧ m ≤ 12) : mo y m / 12 = y ∧ mo y m % 12 + 1 = m := by unfold mo; omega
theorem num_F1 {y m d : Int} (h : valid y m d) : num y m d = F1 (mo y m) + d - 1 ∧ mdt (mo y m) = mdays y m := by
  obtain ⟨e1, e2⟩ := mo_div (y := y) h.1
  unfold F1 mdt
  rw [e1, e2]
  unfold num
  exact ⟨by omega, rfl⟩
def lesser (a b : Int) : Int := if a > b then b else a
/-- The day so many months behind a date: its number. -/
def Xn (y m d n : Int) : Int := F1 (mo y m + n) + lesser d (mdt (mo y m + n)) - 1
theorem ma_num {y m d n : Int} (h : maE y m d n 0 = 0) : valid (maY y m d n 0) (maM y m d n 0) (maD y m d n 0) ∧ (-9999 ≤ maY y m d n 0 ∧ maY y m d n 0 ≤ 9999) ∧ num (maY y m d n 0) (maM y m d n 0) (maD y m d n 0) = Xn y m d n := by
  obtain ⟨hv, hy⟩ := ma_valid h
  refine ⟨hv, hy, ?_⟩
  rw [(num_F1 hv).1]
  unfold maY maM maD
  rw [if_pos h, if_pos h, if_pos h]
  have e : mo (mt y m n / 12) (mt y m n % 12 + 1) = mo y m + n := by unfold mo mt; omega
  rw [e]
  unfold Xn lesser mdt
  rw [show mt y m n = mo y m + n from rfl]
theorem ma_in {y m d n : Int} (hc : cE y m d = 0) (h : -9999 ≤ (mo y m + n) / 12 ∧ (mo y m + n) / 12 ≤ 9999) : maE y m d n 0 = 0 := by
  rw [maE_late (by decide) hc (show ¬ (mt y m n / 12 < -9999 ∨ mt y m n / 12 > 9999) by rw [show mt y m n = mo y m + n from rfl]; omega)]
  rw [if_neg (by omega)]
theorem ma_out {y m d n : Int} (hc : cE y m d = 0) (h : ¬ (-9999 ≤ (mo y m + n) / 12 ∧ (mo y m + n) / 12 ≤ 9999)) : maE y m d n 0 ≠ 0 := by
  rw [maE_far (by decide) hc (show mt y m n / 12 < -9999 ∨ mt y m n / 12 > 9999 by rw [show mt y m n = mo y m + n from rfl]; omega)]
  decide

def cmp1 (a b : Int) : Int := if a < b then -1 else if a > b then 1 else 0
def cmpD (y m d z k e : Int) : Int := if cmp1 y z ≠ 0 then cmp1 y z else if cmp1 m k ≠ 0 then cmp1 m k else cmp1 d e
theorem sp_isNaN (n : Nat) (a : Int) : CP C (n + 1) F_cmp_isNaN_int [.int .i64 a] = some (.bool false) := by
  rw [eq_cmp_isNaN_int]
  unfold R_cmp_isNaN_int
  simp
theorem sp_Compare (n : Nat) (a b : Int) : CP C (n + 2) F_cmp_Compare_int [.int .i64 a, .int .i64 b] = some (.int .i64 (cmp1 a b)) := by
  rw [eq_cmp_Compare_int]
  unfold R_cmp_Compare_int
  rw [sp_isNaN, sp_isNaN]
  unfold cmp1
  simp only [k_int, k_anyInt, k_bool, k_str, k_agg, k_tup, k_cons, k_nil, k_bind, ↓c_not, ↓c_bne, ite_cond, Bool.and_eq_true, Bool.or_eq_true, beq_iff_eq, Bool.and_true, decide_eq_true_eq, Bool.false_eq_true, if_true, if_false, bne_self_eq_false, and_self, Int.reduceEq, Int.reduceLT, Int.reduceNeg, i_some, i_int, i_bool, i_agg, i_tup, i_cons, i_self, Option.some.injEq, AV.int.injEq, AV.bool.injEq, AV.agg.injEq, AV.tup.injEq, List.cons.injEq, true_and, and_true, cond_false]
theorem sp_civil_Cmp (n : Nat) (y m d z k e : Int) : CP C (n + 3) F_civil_Cmp [date y m d, date z k e] = some (.int .i64 (cmpD y m d z k e)) := by
  rw [eq_civil_Cmp]
  unfold R_civil_Cmp
  rw [sp_Compare, sp_Compare, sp_Compare]
  simp only [k_int, k_anyInt, k_bool, k_str, k_agg, k_tup, k_cons, k_nil, k_bind, ↓c_not, ↓c_bne, ite_cond, Bool.and_eq_true, Bool.or_eq_true, beq_iff_eq, Bool.and_true, decide_eq_true_eq, Bool.false_eq_true, if_true, if_false, bne_self_eq_false, and_self, Int.reduceEq, Int.reduceLT, Int.reduceNeg, i_some, i_int, i_bool, i_agg, i_tup, i_cons, i_self, Option.some.injEq, AV.int.injEq, AV.bool.injEq, AV.agg.injEq, AV.tup.injEq, List.cons.injEq, true_and, and_true]
  unfold cmpD
  omega
theorem sp_ref06_Cmp (n : Nat) (y m d z k e : Int) : CP C (n + 1) F_ref06_Cmp [date y m d, date z k e] = some (.int .i64 (cmpD y m d z k e)) := by
  rw [eq_ref06_Cmp]
  unfold R_ref06_Cmp cmpD cmp1
  simp only [k_int, k_anyInt, k_bool, k_str, k_agg, k_tup, k_cons, k_nil, k_bind, ↓c_not, ↓c_bne, ite_cond, Bool.and_eq_true, Bool.or_eq_true, beq_iff_eq, Bool.and_true, decide_eq_true_eq, Bool.false_eq_true, if_true, if_false, bne_self_eq_false, and_self, Int.reduceEq, Int.reduceLT, Int.reduceNeg, i_some, i_int, i_bool, i_agg, i_tup, i_cons, i_self, Option.some.injEq, AV.int.injEq, AV.bool.injEq, AV.agg.injEq, AV.tup.injEq, List.cons.injEq, true_and, and_true]
  omega
theorem cmp_num {y m d z k e : Int} (h : valid y m d) (h' : valid z k e) : cmpD y m d z k e = cmp1 (num y m d) (num z k e) := by
  unfold cmpD cmp1
  rcases Int.lt_trichotomy y z with hy | rfl | hy
  · have := num_lt_year h h' hy; omega
  · rcases Int.lt_trichotomy m k with hm | rfl | hm
    · have := num_lt_month h h' hm; omega
    · unfold num; omega
    · have := num_lt_month h' h hm; omega
  · have := num_lt_year h' h hy; omega

/-! ### the greedy number of months -/
/-- a: months ta, day d; b: months tb, day e. -/
def uN (ta d tb e : Int) : Int :=
  if ta = tb then 0
  else if ta < tb then (if lesser d (mdt tb) ≤ e then tb - ta else tb - ta - 1)
  else (if lesser d (mdt tb) ≥ e then tb - ta else tb - ta + 1)
def nu (ta d tb e : Int) : Int := F1 (ta + uN ta d tb e) + lesser d (mdt (ta + uN ta d tb e)) - 1
/-- Where the greedy months lead to: between the two dates, and not far from the second one. -/
theorem uN_mid {ta d tb e : Int} (hd : 1 ≤ d ∧ d ≤ mdt ta) (he : 1 ≤ e ∧ e ≤ mdt tb) :
    (F1 ta + d ≤ F1 tb + e → F1 ta + d - 1 ≤ nu ta d tb e ∧ nu ta d tb e ≤ F1 tb + e - 1 ∧ 0 ≤ uN ta d tb e ∧ uN ta d tb e ≤ tb - ta) ∧
    (F1 tb + e ≤ F1 ta + d → nu ta d tb e ≤ F1 ta + d - 1 ∧ F1 tb + e - 1 ≤ nu ta d tb e ∧ uN ta d tb e ≤ 0 ∧ tb - ta ≤ uN ta d tb e) ∧
    -62 ≤ F1 tb + e - 1 - nu ta d tb e ∧ F1 tb + e - 1 - nu ta d tb e ≤ 62 := by
  have ra := mdt_rng ta
  have rb := mdt_rng tb
  have nxt1 : ta < tb → F1 ta + mdt ta ≤ F1 tb := F1_next
  have nxt2 : tb < ta → F1 tb + mdt tb ≤ F1 ta := F1_next
  unfold nu uN
  by_cases h0 : ta = tb
  · rw [if_pos h0, show ta + 0 = ta by omega]
    subst h0
    have hl : lesser d (mdt ta) = d := by unfold lesser; omega
    rw [hl]
    omega
  · rw [if_neg h0]
    by_cases h1 : ta < tb
    · have n1 := nxt1 h1
      rw [if_pos h1]
      by_cases h2 : lesser d (mdt tb) ≤ e
      · rw [if_pos h2, show ta + (tb - ta) = tb by omega]
        have : 1 ≤ lesser d (mdt tb) := by unfold lesser; omega
        omega
      · rw [if_neg h2, show ta + (tb - ta - 1) = tb - 1 by omega]
        have s := F1_succ (tb - 1)
        have r1 := mdt_rng (tb - 1)
        rw [show tb - 1 + 1 = tb by omega] at s
        have hl : 1 ≤ lesser d (mdt (tb - 1)) ∧ lesser d (mdt (tb - 1)) ≤ mdt (tb - 1) := by unfold lesser; omega
        by_cases h3 : ta = tb - 1
        · have hl2 : lesser d (mdt (tb - 1)) = d := by rw [← h3]; unfold lesser; omega
          rw [hl2, ← h3]
          rw [← h3] at s
          omega
        · have n2 := F1_next (show ta < tb - 1 by omega)
          omega
    · have h1' : tb < ta := by omega
      have n1 := nxt2 h1'
      rw [if_neg h1]
      by_cases h2 : lesser d (mdt tb) ≥ e
      · rw [if_pos h2, show ta + (tb - ta) = tb by omega]
        have : lesser d (mdt tb) ≤ mdt tb := by unfold lesser; omega
        omega
      · rw [if_neg h2, show ta + (tb - ta + 1) = tb + 1 by omega]
        have s := F1_succ tb
        have r1 := mdt_rng (tb + 1)
        have hl : 1 ≤ lesser d (mdt (tb + 1)) ∧ lesser d (mdt (tb + 1)) ≤ mdt (tb + 1) := by unfold lesser; omega
        by_cases h3 : ta = tb + 1
        · have hl2 : lesser d (mdt (tb + 1)) = d := by rw [← h3]; unfold lesser; omega
          rw [hl2, ← h3]
          rw [← h3] at s
          omega
        · have n2 := F1_next (show tb + 1 < ta by omega)
          omega
/-- One month more passes the second date. -/
theorem uN_greedy {ta d tb e : Int} (hd : 1 ≤ d ∧ d ≤ mdt ta) (he : 1 ≤ e ∧ e ≤ mdt tb) :
    (F1 ta + d ≤ F1 tb + e → F1 tb + e - 1 < F1 (ta + (uN ta d tb e + 1)) + lesser d (mdt (ta + (uN ta d tb e + 1))) - 1) ∧
    (F1 tb + e < F1 ta + d → F1 (ta + (uN ta d tb e - 1)) + lesser d (mdt (ta + (uN ta d tb e - 1))) - 1 < F1 tb + e - 1) := by
  have nxt1 : ta < tb → F1 ta + mdt ta ≤ F1 tb := F1_next
  have nxt2 : tb < ta → F1 tb + mdt tb ≤ F1 ta := F1_next
  have s := F1_succ tb
  have s2 := F1_succ (tb - 1)
  rw [show tb - 1 + 1 = tb by omega] at s2
  have r1 := mdt_rng (tb + 1)
  have r2 := mdt_rng (tb - 1)
  have l1 : 1 ≤ lesser d (mdt (tb + 1)) := by unfold lesser; omega
  have l2 : lesser d (mdt (tb - 1)) ≤ mdt (tb - 1) := by unfold lesser; omega
  unfold uN
  by_cases h0 : ta = tb
  · rw [if_pos h0]
    subst h0
    rw [show ta + (0 + 1) = ta + 1 by omega, show ta + (0 - 1) = ta - 1 by omega]
    omega
  · rw [if_neg h0]
    by_cases h1 : ta < tb
    · have n1 := nxt1 h1
      rw [if_pos h1]
      refine ⟨fun _ => ?_, fun h => by omega⟩
      by_cases h2 : lesser d (mdt tb) ≤ e
      · rw [if_pos h2, show ta + (tb - ta + 1) = tb + 1 by omega]; omega
      · rw [if_neg h2, show ta + (tb - ta - 1 + 1) = tb by omega]; omega
    · have n1 := nxt2 (show tb < ta by omega)
      rw [if_neg h1]
      refine ⟨fun h => by omega, fun _ => ?_⟩
      by_cases h2 : lesser d (mdt tb) ≥ e
      · rw [if_pos h2, show ta + (tb - ta - 1) = tb - 1 by omega]; omega
      · rw [if_neg h2, show ta + (tb - ta + 1 - 1) = tb by omega]; omega

/-! ### the program's and the document's months -/
def unE (y m d z k e : Int) : Int := if cE y m d ≠ 0 then cE y m d else cE z k e
def unM (y m d z k e : Int) : Int := if unE y m d z k e = 0 then uN (mo y m) d (mo z k) e else 0
theorem unE_zero {y m d z k e : Int} (h : unE y m d z k e = 0) : cE y m d = 0 ∧ cE z k e = 0 := by
  unfold unE at h
  by_cases c : cE y m d = 0
  · rw [if_neg (by omega)] at h; exact ⟨c, h⟩
  · rw [if_pos c] at h; exact absurd h c
/-- Two dates in months and days. -/
structure Two (y m d z k e : Int) : Prop where
  ca : cE y m d = 0
  cb : cE z k e = 0
  va : valid y m d
  vb : valid z k e
  ya : -9999 ≤ y ∧ y ≤ 9999
  yb : -9999 ≤ z ∧ z ≤ 9999
  na : num y m d = F1 (mo y m) + d - 1
  nb : num z k e = F1 (mo z k) + e - 1
  da : 1 ≤ d ∧ d ≤ mdt (mo y m)
  db : 1 ≤ e ∧ e ≤ mdt (mo z k)
theorem two_of {y m d z k e : Int} (h : cE y m d = 0) (h2 : cE z k e = 0) : Two y m d z k e := by
  obtain ⟨v1, y1⟩ := cE_zero.1 h
  obtain ⟨v2, y2⟩ := cE_zero.1 h2
  obtain ⟨n1, d1⟩ := num_F1 v1
  obtain ⟨n2, d2⟩ := num_F1 v2
  exact ⟨h, h2, v1, v2, y1, y2, n1, n2, by rw [d1]; exact v1.2, by rw [d2]; exact v2.2⟩
theorem Two.rng {y m d z k e : Int} (h : Two y m d z k e) : -9999 * 12 ≤ mo y m ∧ mo y m ≤ 9999 * 12 + 11 ∧ -9999 * 12 ≤ mo z k ∧ mo z k ≤ 9999 * 12 + 11 := by
  have := h.va.1
  have := h.vb.1
  have := h.ya
  have := h.yb
  unfold mo
  omega
theorem Two.lt {y m d z k e : Int} (h : Two y m d z k e) : (mo y m < mo z k → num y m d < num z k e) ∧ (mo z k < mo y m → num z k e < num y m d) := by
  have h1 := h.na
  have h2 := h.nb
  have h3 := h.da
  have h4 := h.db
  refine ⟨fun g => ?_, fun g => ?_⟩
  · have := F1_next g; omega
  · have := F1_next g; omega
/-- Where months within the two dates' lead to. -/
theorem Two.add {y m d z k e n : Int} (h : Two y m d z k e) (hn : (0 ≤ n ∧ n ≤ mo z k - mo y m) ∨ (mo z k - mo y m ≤ n ∧ n ≤ 0)) :
    maE y m d n 0 = 0 ∧ valid (maY y m d n 0) (maM y m d n 0) (maD y m d n 0) ∧ (-9999 ≤ maY y m d n 0 ∧ maY y m d n 0 ≤ 9999) ∧ num (maY y m d n 0) (maM y m d n 0) (maD y m d n 0) = Xn y m d n := by
  have hr := h.rng
  have h0 : maE y m d n 0 = 0 := ma_in h.ca (by omega)
  exact ⟨h0, ma_num h0⟩
theorem um_stop (c : Nat) (s n y m d z k e : Int) (f : Nat) (hn : -9223372036854775808 ≤ n ∧ n ≤ 9223372036854775807) (hz : n = 0) :
    J_until_Months_888 (CP C (c + 4)) (c + 4) (f + 1) s n y m d z k e = some (.tup [.int .i64 n, .int .i64 0]) := by
  rw [Js_until_Months_888]
  unfold T_until_Months_888
  rw [sp_months_Add c y m d n 0 hn]
  simp only [k_bind, k_tup, k_agg, k_cons, k_int, k_nil]
  rw [show (n == 0) = true from beq_iff_eq.2 hz, cond_true]
theorem um_step (c : Nat) (s n y m d z k e : Int) (f : Nat) (h : Two y m d z k e) (hn : (0 ≤ n ∧ n ≤ mo z k - mo y m) ∨ (mo z k - mo y m ≤ n ∧ n ≤ 0)) (hs : s = -1 ∨ s = 1) :
    J_until_Months_888 (CP C (c + 4)) (c + 4) (f + 1) s n y m d z k e =
      if n = 0 ∨ 0 ≤ cmp1 (num z k e) (Xn y m d n) * s then some (.tup [.int .i64 n, .int .i64 0])
      else J_until_Months_888 (CP C (c + 4)) (c + 4) f s (n - s) y m d z k e := by
  have hr := h.rng
  by_cases h0 : n = 0
  · rw [um_stop c s n y m d z k e f (by omega) h0, if_pos (.inl h0)]
  obtain ⟨a1, a2, a3, a4⟩ := h.add hn
  rw [Js_until_Months_888]
  unfold T_until_Months_888
  rw [sp_months_Add c y m d n 0 (by omega)]
  simp only [k_bind, k_tup, k_agg, k_cons, k_int, k_nil]
  rw [show (n == 0) = false from beq_eq_false_iff_ne.2 h0, cond_false, a1, show ((0 : Int) == 0) = true from rfl, cond_true, sp_civil_Cmp (c + 1), cmp_num h.vb a2, a4]
  simp only [k_bind, k_int]
  have hc : cmp1 (num z k e) (Xn y m d n) = -1 ∨ cmp1 (num z k e) (Xn y m d n) = 0 ∨ cmp1 (num z k e) (Xn y m d n) = 1 := by unfold cmp1; omega
  have hw : IntKind.i64.wrap (cmp1 (num z k e) (Xn y m d n) * s) = cmp1 (num z k e) (Xn y m d n) * s := by
    rcases hs with rfl | rfl <;> exact w64 (by omega)
  have hw2 : IntKind.i64.wrap (n - s) = n - s := w64 (by omega)
  rw [hw, hw2]
  by_cases g : cmp1 (num z k e) (Xn y m d n) * s ≥ 0
  · rw [decide_eq_true g, cond_true, if_pos (.inr g)]
  · rw [decide_eq_false g, cond_false, if_neg (by omega)]
theorem sp_until_Months (c : Nat) (y m d z k e : Int) : CP C (c + 5) F_until_Months [date y m d, date z k e] = some (.tup [.int .i64 (unM y m d z k e), .int .i64 (unE y m d z k e)]) := by
  rw [eq_until_Months]
  unfold R_until_Months T_until_Months_1
  rw [sp_civil_Check (c + 1), sp_civil_Check (c + 1), sp_civil_Cmp (c + 1)]
  simp only [k_bind, k_int]
  by_cases g : cE y m d = 0
  · by_cases g2 : cE z k e = 0
    · have h := two_of g g2
      have hr := h.rng
      have hE : unE y m d z k e = 0 := by unfold unE; rw [if_neg (by omega)]; exact g2
      have hM : unM y m d z k e = uN (mo y m) d (mo z k) e := by unfold unM; rw [if_pos hE]
      rw [g, g2, show ((0 : Int) != 0) = false from rfl, cond_false, cond_false, cmp_num h.vb h.va, hE, hM]
      have hy := h.ya
      have hz := h.yb
      have hm := h.va.1
      have hk := h.vb.1
      rw [bnd_eq _ (show _ = 12 * z - 12 * y + k by simp (disch := omega) only [w64]; omega), show IntKind.i64.wrap (12 * z - 12 * y + k - m) = mo z k - mo y m by rw [w64 (by omega)]; unfold mo; omega]
      rw [show c + 4 + 300 = (c + 302) + 1 + 1 by omega]
      obtain ⟨l1, l2⟩ := h.lt
      have hna := h.na
      have hnb := h.nb
      have hda := h.da
      have hdb := h.db
      by_cases h0 : mo y m = mo z k
      · rw [um_stop c _ _ y m d z k e _ (by omega) (by omega)]
        unfold uN; rw [if_pos h0, show mo z k - mo y m = 0 by omega]
      · by_cases h1 : mo y m < mo z k
        · have hc := l1 h1
          rw [show cmp1 (num z k e) (num y m d) = 1 by unfold cmp1; omega]
          rw [um_step c 1 _ y m d z k e _ h (.inl (by omega)) (.inr rfl)]
          have hX : Xn y m d (mo z k - mo y m) = F1 (mo z k) + lesser d (mdt (mo z k)) - 1 := by unfold Xn; rw [show mo y m + (mo z k - mo y m) = mo z k by omega]
          rw [hX, hnb]
          unfold uN
          rw [if_neg h0, if_pos h1]
          by_cases g3 : lesser d (mdt (mo z k)) ≤ e
          · rw [if_pos g3, if_pos (.inr (by unfold cmp1; omega))]
          · rw [if_neg g3, if_neg (by unfold cmp1; omega)]
            rw [um_step c 1 _ y m d z k e _ h (.inl (by omega)) (.inr rfl)]
            have hX2 : Xn y m d (mo z k - mo y m - 1) < F1 (mo z k) := by
              unfold Xn
              rw [show mo y m + (mo z k - mo y m - 1) = mo z k - 1 by omega]
              have s := F1_succ (mo z k - 1)
              rw [show mo z k - 1 + 1 = mo z k by omega] at s
              unfold lesser; omega
            rw [if_pos (.inr (by unfold cmp1; omega))]
        · have h1' : mo z k < mo y m := by omega
          have hc := l2 h1'
          rw [show cmp1 (num z k e) (num y m d) = -1 by unfold cmp1; omega]
          rw [um_step c (-1) _ y m d z k e _ h (.inr (by omega)) (.inl rfl)]
          have hX : Xn y m d (mo z k - mo y m) = F1 (mo z k) + lesser d (mdt (mo z k)) - 1 := by unfold Xn; rw [show mo y m + (mo z k - mo y m) = mo z k by omega]
          rw [hX, hnb]
          unfold uN
          rw [if_neg h0, if_neg h1]
          by_cases g3 : lesser d (mdt (mo z k)) ≥ e
          · rw [if_pos g3, if_pos (.inr (by unfold cmp1; omega))]
          · rw [if_neg g3, if_neg (by unfold cmp1; omega), show mo z k - mo y m - -1 = mo z k - mo y m + 1 by omega]
            rw [um_step c (-1) _ y m d z k e _ h (.inr (by omega)) (.inl rfl)]
            have hX2 : F1 (mo z k) + mdt (mo z k) ≤ Xn y m d (mo z k - mo y m + 1) := by
              unfold Xn
              rw [show mo y m + (mo z k - mo y m + 1) = mo z k + 1 by omega]
              have s := F1_succ (mo z k)
              have r := mdt_rng (mo z k + 1)
              unfold lesser; omega
            rw [if_pos (.inr (by unfold cmp1; omega))]
    · have hE : unE y m d z k e = cE z k e := by unfold unE; rw [if_neg (by omega)]
      have hM : unM y m d z k e = 0 := by unfold unM; rw [hE, if_neg g2]
      rw [g, hE, hM, show ((0 : Int) != 0) = false from rfl, cond_false, show (cE z k e != 0) = true from bne_iff_ne.2 g2, cond_true]
  · have hE : unE y m d z k e = cE y m d := by unfold unE; rw [if_pos g]
    have hM : unM y m d z k e = 0 := by unfold unM; rw [hE, if_neg g]
    rw [hE, hM, show (cE y m d != 0) = true from bne_iff_ne.2 g, cond_true]
end Go.Proofs.Ytceigcoipifloaa.Sim.S
