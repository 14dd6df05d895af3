/- The greedy difference of two dates, both ways. Condition: none beyond what each theorem says. -/
import Derived.Test.YtceigcoipifloaaSpecUntil
set_option linter.unusedSimpArgs false
set_option linter.unusedVariables false
namespace Go.Proofs.Ytceigcoipifloaa.Sim.S
open Go Civil

theorem cF {R : Type} (x y : R) : cond false x y = y := of_eq_true (eq_self _)
theorem cT {R : Type} (x y : R) : cond true x y = x := of_eq_true (eq_self _)
def utN (y m d z k e : Int) : Int := uN (mo y m) d (mo z k) e
def utD (y m d z k e : Int) : Int := num z k e - Xn y m d (utN y m d z k e)
abbrev untV (y m d z k e : Int) : AV := perV (unE y m d z k e) (Int.tdiv (utN y m d z k e) 12) (Int.tmod (utN y m d z k e) 12) (utD y m d z k e)
/-- What holds of the greedy difference of two dates. -/
theorem Two.mid {y m d z k e : Int} (h : Two y m d z k e) :
    (num y m d ≤ num z k e → num y m d ≤ Xn y m d (utN y m d z k e) ∧ Xn y m d (utN y m d z k e) ≤ num z k e ∧ 0 ≤ utN y m d z k e ∧ utN y m d z k e ≤ mo z k - mo y m) ∧
    (num z k e ≤ num y m d → Xn y m d (utN y m d z k e) ≤ num y m d ∧ num z k e ≤ Xn y m d (utN y m d z k e) ∧ utN y m d z k e ≤ 0 ∧ mo z k - mo y m ≤ utN y m d z k e) ∧
    -62 ≤ utD y m d z k e ∧ utD y m d z k e ≤ 62 := by
  have hm := uN_mid h.da h.db
  have h1 := h.na
  have h2 := h.nb
  unfold nu at hm
  unfold utD utN Xn
  generalize F1 (mo y m + uN (mo y m) d (mo z k) e) + lesser d (mdt (mo y m + uN (mo y m) d (mo z k) e)) - 1 = X at *
  generalize uN (mo y m) d (mo z k) e = N at *
  omega
theorem Two.greedy {y m d z k e : Int} (h : Two y m d z k e) :
    (num y m d ≤ num z k e → num z k e < Xn y m d (utN y m d z k e + 1)) ∧ (num z k e < num y m d → Xn y m d (utN y m d z k e - 1) < num z k e) := by
  have hm := uN_greedy h.da h.db
  have h1 := h.na
  have h2 := h.nb
  unfold utN Xn
  generalize F1 (mo y m + (uN (mo y m) d (mo z k) e + 1)) + lesser d (mdt (mo y m + (uN (mo y m) d (mo z k) e + 1))) - 1 = X at *
  generalize F1 (mo y m + (uN (mo y m) d (mo z k) e - 1)) + lesser d (mdt (mo y m + (uN (mo y m) d (mo z k) e - 1))) - 1 = Y at *
  omega
theorem Two.within {y m d z k e : Int} (h : Two y m d z k e) : (0 ≤ utN y m d z k e ∧ utN y m d z k e ≤ mo z k - mo y m) ∨ (mo z k - mo y m ≤ utN y m d z k e ∧ utN y m d z k e ≤ 0) := by
  obtain ⟨h1, h2, h3⟩ := h.mid
  by_cases c : num y m d ≤ num z k e
  · exact .inl (h1 c).2.2
  · have := h2 (by omega)
    exact .inr ⟨this.2.2.2, this.2.2.1⟩
theorem unE_two {y m d z k e : Int} (h : Two y m d z k e) : unE y m d z k e = 0 := by unfold unE; rw [if_neg (by have := h.ca; omega)]; exact h.cb
theorem td12 (n : Int) (h : -300000 ≤ n ∧ n ≤ 300000) : -30000 ≤ Int.tdiv n 12 ∧ Int.tdiv n 12 ≤ 30000 ∧ -12 < Int.tmod n 12 ∧ Int.tmod n 12 < 12 ∧ 12 * Int.tdiv n 12 + Int.tmod n 12 = n ∧ (0 ≤ n → 0 ≤ Int.tdiv n 12 ∧ 0 ≤ Int.tmod n 12) ∧ (n ≤ 0 → Int.tdiv n 12 ≤ 0 ∧ Int.tmod n 12 ≤ 0) := by
  simp only [IntKind.wrap_i64, tdiv_pos, tmod_pos, Int.reduceLT]; omega
theorem sp_until_Until (c : Nat) (y m d z k e : Int) : CP C (c + 6) F_until_Until [date y m d, date z k e] = some (untV y m d z k e) := by
  rw [eq_until_Until]
  unfold R_until_Until untV
  rw [sp_until_Months c]
  simp only [k_bind, k_tup, k_agg, k_cons, k_int, k_nil]
  by_cases g : unE y m d z k e = 0
  · obtain ⟨g1, g2⟩ := unE_zero g
    have h := two_of g1 g2
    have hM : unM y m d z k e = utN y m d z k e := by unfold unM; rw [if_pos g]; rfl
    have hw := h.within
    have hr := h.rng
    obtain ⟨a1, a2, a3, a4⟩ := h.add hw
    obtain ⟨_, _, m3⟩ := h.mid
    have ht := td12 (utN y m d z k e) (by omega)
    have hb := num_bound h.vb h.yb
    have hb2 := num_bound a2 a3
    rw [hM, g, show ((0 : Int) != 0) = false from rfl, cond_false, sp_months_Add (c + 1) y m d _ 0 (by omega)]
    simp only [k_bind, k_tup, k_agg, k_cons, k_int, k_nil]
    rw [sp_civil_Days (c + 1), sp_civil_Days (c + 1)]
    simp only [k_bind, k_tup, k_agg, k_cons, k_int, k_nil]
    have e1 : nE (maY y m d (utN y m d z k e) 0) (maM y m d (utN y m d z k e) 0) (maD y m d (utN y m d z k e) 0) = Xn y m d (utN y m d z k e) := by
      unfold nE; rw [if_pos (cE_zero.2 ⟨a2, a3⟩)]; exact a4
    have e2 : nE z k e = num z k e := by unfold nE; rw [if_pos h.cb]
    rw [e1, e2, show IntKind.i64.wrap (num z k e - Xn y m d (utN y m d z k e)) = utD y m d z k e by unfold utD; rw [w64 (by omega)], sp_period_Balance (c + 1)]
    simp only [k_bind, k_tup, k_agg, k_cons, k_int, k_nil]
    rw [show 12 * 0 + utN y m d z k e = utN y m d z k e by omega]
    have hp : pE 0 (utN y m d z k e) (utD y m d z k e) = 0 := pE_zero.2 (by omega)
    have hp2 : pE (Int.tdiv (utN y m d z k e) 12) (Int.tmod (utN y m d z k e) 12) (utD y m d z k e) = 0 := pE_zero.2 (by omega)
    have hpb : pbE 0 (utN y m d z k e) (utD y m d z k e) = 0 := by unfold pbE; rw [if_pos hp, show 12 * 0 + utN y m d z k e = utN y m d z k e by omega]; exact hp2
    rw [hpb]
  · rw [show (unE y m d z k e != 0) = true from bne_iff_ne.2 g, cond_true, perV_err _ _ _ g]
def fitB (y m d z k e n : Int) : Bool := if maE y m d n 0 = 0 then (if num y m d ≤ num z k e then decide (Xn y m d n ≤ num z k e) else decide (num z k e ≤ Xn y m d n)) else false
theorem sp_ref12_fits (c : Nat) (y m d z k e n : Int) (h : Two y m d z k e) (hn : -9223372036854775808 ≤ n ∧ n ≤ 9223372036854775807) : CP C (c + 7) F_ref12_fits [date y m d, date z k e, .int .i64 n] = some (.bool (fitB y m d z k e n)) := by
  rw [eq_ref12_fits]
  unfold R_ref12_fits
  rw [sp_ref11_Add c y m d n 0 hn]
  simp only [k_bind, k_tup, k_agg, k_cons, k_int, k_nil]
  unfold fitB
  by_cases g : maE y m d n 0 = 0
  · obtain ⟨a2, a3, a4⟩ := ma_num g
    rw [if_pos g, g, show ((0 : Int) != 0) = false from rfl, cond_false, sp_ref06_Cmp (c + 5), sp_ref06_Cmp (c + 5), cmp_num h.va h.vb, cmp_num a2 h.vb, a4]
    simp only [k_bind, k_int]
    by_cases g2 : num y m d ≤ num z k e
    · rw [decide_eq_true (show cmp1 (num y m d) (num z k e) ≤ 0 by unfold cmp1; omega), cond_true, if_pos g2, show decide (cmp1 (Xn y m d n) (num z k e) ≤ 0) = decide (Xn y m d n ≤ num z k e) by rw [decide_eq_decide]; unfold cmp1; omega]
    · rw [decide_eq_false (show ¬ cmp1 (num y m d) (num z k e) ≤ 0 by unfold cmp1; omega), cond_false, if_neg g2, show decide (cmp1 (Xn y m d n) (num z k e) ≥ 0) = decide (num z k e ≤ Xn y m d n) by rw [decide_eq_decide]; unfold cmp1; omega]
  · rw [if_neg g, show (maE y m d n 0 != 0) = true from bne_iff_ne.2 g, cond_true]
theorem rm_stop (c : Nat) (s y m d z k e : Int) (f : Nat) : J_ref12_Months_4084 (CP C (c + 7)) (c + 7) (f + 1) s 0 y m d z k e = some (.tup [.int .i64 0, .int .i64 0]) := by
  rw [Js_ref12_Months_4084]; rfl
theorem rm_step (c : Nat) (s i y m d z k e : Int) (f : Nat) (h : Two y m d z k e) (hi : 0 < i ∧ i ≤ 1000000) (hs : s = 1 ∨ s = -1) :
    J_ref12_Months_4084 (CP C (c + 7)) (c + 7) (f + 1) s i y m d z k e = if fitB y m d z k e (s * i) = true then some (.tup [.int .i64 (s * i), .int .i64 0]) else J_ref12_Months_4084 (CP C (c + 7)) (c + 7) f s (i - 1) y m d z k e := by
  rw [Js_ref12_Months_4084]
  unfold T_ref12_Months_4084
  have hw : IntKind.i64.wrap (s * i) = s * i := by rcases hs with rfl | rfl <;> exact w64 (by omega)
  have hb : -9223372036854775808 ≤ s * i ∧ s * i ≤ 9223372036854775807 := by rcases hs with rfl | rfl <;> omega
  rw [decide_eq_true (show i > 0 by omega), cond_true, hw, sp_ref12_fits c y m d z k e _ h hb]
  simp only [k_bind, k_bool]
  rw [w64 (by omega)]
  cases fitB y m d z k e (s * i)
  · rw [cond_false, if_neg (by decide)]
  · rw [cond_true, if_pos rfl]
theorem fit_no {y m d z k e n : Int} (h : ¬ (maE y m d n 0 = 0 ∧ ((num y m d ≤ num z k e ∧ Xn y m d n ≤ num z k e) ∨ (num z k e < num y m d ∧ num z k e ≤ Xn y m d n)))) : fitB y m d z k e n = false := by
  unfold fitB
  by_cases g : maE y m d n 0 = 0
  · rw [if_pos g]
    by_cases g2 : num y m d ≤ num z k e
    · rw [if_pos g2]; exact decide_eq_false (fun x => h ⟨g, .inl ⟨g2, x⟩⟩)
    · rw [if_neg g2]; exact decide_eq_false (fun x => h ⟨g, .inr ⟨by omega, x⟩⟩)
  · rw [if_neg g]
theorem fit_yes {y m d z k e n : Int} (h : maE y m d n 0 = 0) (h2 : (num y m d ≤ num z k e ∧ Xn y m d n ≤ num z k e) ∨ (num z k e < num y m d ∧ num z k e ≤ Xn y m d n)) : fitB y m d z k e n = true := by
  unfold fitB
  rw [if_pos h]
  by_cases g2 : num y m d ≤ num z k e
  · rw [if_pos g2]; exact decide_eq_true (by omega)
  · rw [if_neg g2]; exact decide_eq_true (by omega)
theorem sp_ref12_Months (c : Nat) (y m d z k e : Int) : CP C (c + 8) F_ref12_Months [date y m d, date z k e] = some (.tup [.int .i64 (unM y m d z k e), .int .i64 (unE y m d z k e)]) := by
  rw [eq_ref12_Months]
  unfold R_ref12_Months T_ref12_Months_1
  rw [sp_ref06_Check (c + 3), sp_ref06_Check (c + 3), sp_ref06_Cmp (c + 6)]
  simp only [k_bind, k_int]
  by_cases g : cE y m d = 0
  · by_cases g2 : cE z k e = 0
    · have h := two_of g g2
      have hr := h.rng
      have hE : unE y m d z k e = 0 := unE_two h
      have hM : unM y m d z k e = utN y m d z k e := by unfold unM; rw [if_pos hE]; rfl
      rw [g, g2, show ((0 : Int) != 0) = false from rfl, cond_false, cond_false, cmp_num h.va h.vb, hE, hM]
      have hy := h.ya
      have hz := h.yb
      have hm := h.va.1
      have hk := h.vb.1
      have eN : IntKind.i64.wrap (IntKind.i64.wrap (12 * IntKind.i64.wrap (z - y)) + k) = 12 * z - 12 * y + k := by
        simp (disch := omega) only [w64]; omega
      have e2 : IntKind.i64.wrap (12 * z - 12 * y + k - m) = mo z k - mo y m := by rw [w64 (by omega)]; unfold mo; omega
      have e3 : IntKind.i64.wrap (IntKind.i64.wrap (0 - (mo z k - mo y m)) + 1) = -(mo z k - mo y m) + 1 := by simp (disch := omega) only [w64]; omega
      have e4 : IntKind.i64.wrap (mo z k - mo y m + 1) = mo z k - mo y m + 1 := w64 (by omega)
      rw [bnd_eq _ eN, bnd_eq _ eN, e2, e4, bnd_eq _ e3, bnd_eq _ e3]
      obtain ⟨l1, l2⟩ := h.lt
      have hna := h.na
      have hnb := h.nb
      have hda := h.da
      have hdb := h.db
      obtain ⟨gr1, gr2⟩ := h.greedy
      obtain ⟨mid1, mid2, _⟩ := h.mid
      rw [show c + 7 + 300 = (c + 303) + 1 + 1 + 1 + 1 by omega]
      have nxt := F1_succ (mo z k)
      have prv := F1_succ (mo z k - 1)
      rw [show mo z k - 1 + 1 = mo z k by omega] at prv
      have rn := mdt_rng (mo z k + 1)
      have rp := mdt_rng (mo z k - 1)
      have X1 : Xn y m d (mo z k - mo y m + 1) = F1 (mo z k + 1) + lesser d (mdt (mo z k + 1)) - 1 := by unfold Xn; rw [show mo y m + (mo z k - mo y m + 1) = mo z k + 1 by omega]
      have X0 : Xn y m d (mo z k - mo y m) = F1 (mo z k) + lesser d (mdt (mo z k)) - 1 := by unfold Xn; rw [show mo y m + (mo z k - mo y m) = mo z k by omega]
      have Xp : Xn y m d (mo z k - mo y m - 1) = F1 (mo z k - 1) + lesser d (mdt (mo z k - 1)) - 1 := by unfold Xn; rw [show mo y m + (mo z k - mo y m - 1) = mo z k - 1 by omega]
      have L1 : 1 ≤ lesser d (mdt (mo z k + 1)) := by unfold lesser; omega
      have Lp : lesser d (mdt (mo z k - 1)) ≤ mdt (mo z k - 1) := by unfold lesser; omega
      by_cases g3 : num y m d ≤ num z k e
      · have hge : mo y m ≤ mo z k := by
          rcases Int.lt_or_le (mo z k) (mo y m) with q | q
          · have := l2 q; omega
          · exact q
        rw [decide_eq_false (show ¬ cmp1 (num y m d) (num z k e) > 0 by unfold cmp1; omega), cond_false, decide_eq_false (show ¬ (mo z k - mo y m < 0) by omega), cond_false]
        rw [rm_step c 1 _ y m d z k e _ h (by omega) (.inl rfl), Int.one_mul, fit_no (by rw [X1]; omega), if_neg (by decide), show mo z k - mo y m + 1 - 1 = mo z k - mo y m by omega]
        by_cases h0 : mo y m = mo z k
        · rw [show mo z k - mo y m = 0 by omega, rm_stop]
          unfold utN uN; rw [if_pos h0]
        · have h1 : mo y m < mo z k := by omega
          rw [rm_step c 1 _ y m d z k e _ h (by omega) (.inl rfl), Int.one_mul]
          unfold utN uN
          rw [if_neg h0, if_pos h1]
          by_cases h2 : lesser d (mdt (mo z k)) ≤ e
          · rw [fit_yes (h.add (.inl (by omega))).1 (.inl ⟨g3, by rw [X0]; omega⟩), if_pos rfl, if_pos h2]
          · rw [fit_no (by rw [X0]; omega), if_neg (by decide), if_neg h2]
            by_cases h4 : mo z k - mo y m - 1 = 0
            · rw [h4, rm_stop]
            · rw [rm_step c 1 _ y m d z k e _ h (by omega) (.inl rfl), Int.one_mul, fit_yes (h.add (.inl (by omega))).1 (.inl ⟨g3, by rw [Xp]; omega⟩), if_pos rfl]
      · have hle : mo z k ≤ mo y m := by
          rcases Int.lt_or_le (mo y m) (mo z k) with q | q
          · have := l1 q; omega
          · exact q
        rw [decide_eq_true (show cmp1 (num y m d) (num z k e) > 0 by unfold cmp1; omega), cond_true]
        have start : (cond (decide (mo z k - mo y m < 0)) (J_ref12_Months_4084 (CP C (c + 7)) (c + 7) (c + 303 + 1 + 1 + 1 + 1) (-1) (-(mo z k - mo y m) + 1) y m d z k e) (J_ref12_Months_4084 (CP C (c + 7)) (c + 7) (c + 303 + 1 + 1 + 1 + 1) (-1) (mo z k - mo y m + 1) y m d z k e)) = J_ref12_Months_4084 (CP C (c + 7)) (c + 7) (c + 303 + 1 + 1 + 1 + 1) (-1) (-(mo z k - mo y m) + 1) y m d z k e := by
          by_cases q : mo z k - mo y m < 0
          · rw [decide_eq_true q, cond_true]
          · rw [decide_eq_false q, cond_false, show mo z k - mo y m = 0 by omega]; rfl
        rw [start, rm_step c (-1) _ y m d z k e _ h (by omega) (.inr rfl), show -1 * (-(mo z k - mo y m) + 1) = mo z k - mo y m - 1 by omega, fit_no (by rw [Xp]; omega), if_neg (by decide), show -(mo z k - mo y m) + 1 - 1 = -(mo z k - mo y m) by omega]
        by_cases h0 : mo y m = mo z k
        · rw [show -(mo z k - mo y m) = 0 by omega, rm_stop]
          unfold utN uN; rw [if_pos h0]
        · have h1 : ¬ mo y m < mo z k := by omega
          rw [rm_step c (-1) _ y m d z k e _ h (by omega) (.inr rfl), show -1 * -(mo z k - mo y m) = mo z k - mo y m by omega]
          unfold utN uN
          rw [if_neg h0, if_neg h1]
          by_cases h2 : lesser d (mdt (mo z k)) ≥ e
          · rw [fit_yes (h.add (.inr (by omega))).1 (.inr ⟨by omega, by rw [X0]; omega⟩), if_pos rfl, if_pos h2]
          · rw [fit_no (by rw [X0]; omega), if_neg (by decide), if_neg h2]
            by_cases h4 : -(mo z k - mo y m) - 1 = 0
            · rw [h4, rm_stop, show mo z k - mo y m + 1 = 0 by omega]
            · rw [rm_step c (-1) _ y m d z k e _ h (by omega) (.inr rfl), show -1 * (-(mo z k - mo y m) - 1) = mo z k - mo y m + 1 by omega, fit_yes (h.add (.inr (by omega))).1 (.inr ⟨by omega, by rw [X1]; omega⟩), if_pos rfl]
    · have hE : unE y m d z k e = cE z k e := by unfold unE; rw [if_neg (by omega)]
      have hM : unM y m d z k e = 0 := by unfold unM; rw [hE, if_neg g2]
      rw [g, hE, hM, show ((0 : Int) != 0) = false from rfl, cond_false, show (cE z k e != 0) = true from bne_iff_ne.2 g2, cond_true]
  · have hE : unE y m d z k e = cE y m d := by unfold unE; rw [if_pos g]
    have hM : unM y m d z k e = 0 := by unfold unM; rw [hE, if_neg g]
    rw [hE, hM, show (cE y m d != 0) = true from bne_iff_ne.2 g, cond_true]
theorem sp_ref12_Until (c : Nat) (y m d z k e : Int) : CP C (c + 203) F_ref12_Until [date y m d, date z k e] = some (untV y m d z k e) := by
  rw [eq_ref12_Until]
  unfold R_ref12_Until untV
  rw [sp_ref12_Months (c + 194)]
  simp only [k_bind, k_tup, k_agg, k_cons, k_int, k_nil]
  by_cases g : unE y m d z k e = 0
  · obtain ⟨g1, g2⟩ := unE_zero g
    have h := two_of g1 g2
    have hM : unM y m d z k e = utN y m d z k e := by unfold unM; rw [if_pos g]; rfl
    have hw := h.within
    have hr := h.rng
    obtain ⟨a1, a2, a3, a4⟩ := h.add hw
    have ht := td12 (utN y m d z k e) (by omega)
    have hb := num_bound h.vb h.yb
    have hb2 := num_bound a2 a3
    have hy := h.yb
    rw [hM, g, show ((0 : Int) != 0) = false from rfl, cond_false, sp_ref11_Add (c + 196) y m d _ 0 (by omega)]
    simp only [k_bind, k_tup, k_agg, k_cons, k_int, k_nil]
    rw [sp_ref06_Number c _ _ _ a2 (by omega), sp_ref06_Number c _ _ _ h.vb (by omega), a4]
    simp only [k_bind, k_int]
    rw [w64 (show -9223372036854775808 ≤ Int.tdiv (utN y m d z k e) 12 ∧ Int.tdiv (utN y m d z k e) 12 ≤ 9223372036854775807 by omega), show IntKind.i64.wrap (num z k e - Xn y m d (utN y m d z k e)) = utD y m d z k e by unfold utD; rw [w64 (by omega)], perV_ok _ _ _ rfl]
  · rw [show (unE y m d z k e != 0) = true from bne_iff_ne.2 g, cond_true, perV_err _ _ _ g]
theorem sp_ref11_Plus (q : Nat) (y m d a b c p : Int) (hc : -9223372036854775808 ≤ c ∧ c ≤ 9223372036854775807) : CP C (q + 203) F_ref11_Plus [date y m d, per a b c, .int .i64 p] = some (plV y m d a b c p) := by
  rw [eq_ref11_Plus]
  unfold R_ref11_Plus T_ref11_Plus_1
  by_cases hp : p ≠ 0 ∧ p ≠ 1
  · rw [plV_err (show plF y m d a b c p = 5 by unfold plF; rw [if_pos hp]) (by decide), show (p != 0) = true from bne_iff_ne.2 hp.1, show (p != 1) = true from bne_iff_ne.2 hp.2]; rfl
  have two : ∀ A B : Option AV, (cond (p != 0) (cond (p != 1) B A) A) = A := by
    intro A B
    by_cases c : p = 0
    · rw [c]; rfl
    · rw [show p = 1 by omega]; rfl
  rw [two]
  unfold J_ref11_Plus_7 T_ref11_Plus_7
  rw [sp_ref06_Check (q + 198), sp_ref10_Check (q + 200), sp_ref10_Months (q + 199)]
  simp only [k_bind, k_int]
  by_cases h1 : cE y m d = 0
  · rw [h1, show ((0 : Int) != 0) = false from rfl, cond_false]
    by_cases h2 : pE a b c = 0
    · have h2' := pE_zero.1 h2
      rw [h2, show ((0 : Int) != 0) = false from rfl, cond_false, show pM a b c = 12 * a + b by unfold pM; rw [if_pos h2], sp_ref11_Add (q + 196) y m d _ p (by omega)]
      simp only [k_bind, k_tup, k_agg, k_cons, k_int, k_nil]
      have hF : plF y m d a b c p = maE y m d (12 * a + b) p := by unfold plF; rw [if_neg hp, if_neg (by omega), if_neg (by omega)]
      by_cases h3 : maE y m d (12 * a + b) p = 0
      · obtain ⟨hv, hy⟩ := ma_valid h3
        have hb := num_bound hv hy
        rw [h3, show ((0 : Int) != 0) = false from rfl, cond_false, sp_ref06_Number q _ _ _ hv (by omega)]
        simp only [k_bind, k_int]
        rw [w64 (by omega), sp_ref06_DateOf (q + 1)]
        simp only [k_bind, k_tup, k_agg, k_cons, k_int, k_nil]
        rw [plV_ok (hF.trans h3)]
        rfl
      · rw [show (maE y m d (12 * a + b) p != 0) = true from bne_iff_ne.2 h3, cond_true, plV_err hF h3]
    · have h8 := pE_8 h2
      rw [show (pE a b c != 0) = true from bne_iff_ne.2 h2, cond_true, plV_err (show plF y m d a b c p = pE a b c by unfold plF; rw [if_neg hp, if_neg (by omega), if_pos h2]) h2, h8]
  · rw [show (cE y m d != 0) = true from bne_iff_ne.2 h1, cond_true, plV_err (show plF y m d a b c p = cE y m d by unfold plF; rw [if_neg hp, if_pos h1]) h1]
end Go.Proofs.Ytceigcoipifloaa.Sim.S
