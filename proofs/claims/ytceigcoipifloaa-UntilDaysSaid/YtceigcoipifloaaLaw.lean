/- The laws of greedy differences answer true. Condition: none beyond what each theorem says. -/
import Derived.Test.YtceigcoipifloaaSpecUntil2
set_option linter.unusedSimpArgs false
set_option linter.unusedVariables false
namespace Go.Proofs.Ytceigcoipifloaa.Sim.S
open Go Civil

theorem sp_awake (n : Nat) : CP C (n + 7) F_law12_awake [] = some (.bool true) := by
  rw [eq_law12_awake]
  unfold R_law12_awake
  rw [sp_until_Until n, sp_until_Until n, sp_until_Until n]
  rfl

theorem law_UntilDates (n : Nat) (y m d z k e : Int) : CP C (n + 204) F_law12_UntilDates [date y m d, date z k e] = some (.bool true) := by
  rw [eq_law12_UntilDates]
  unfold R_law12_UntilDates
  rw [sp_until_Until (n + 197), sp_ref12_Until n, sp_until_Months (n + 198), sp_ref12_Months (n + 195), sp_awake (n + 196)]
  simp only [k_bind, k_tup, k_agg, k_cons, k_int, k_nil, k_bool, beq_self_eq_true, Bool.and_self, cT]

/-- A date is that of its number. -/
theorem g_num {z k e : Int} (hv : valid z k e) (hy : -9999 ≤ z ∧ z ≤ 9999) : gY (num z k e) = z ∧ gM (num z k e) = k ∧ gD (num z k e) = e ∧ gE (num z k e) = 0 := by
  have hi : inDays (num z k e) := num_bound hv hy
  obtain ⟨d1, d2⟩ := date_ok (num z k e)
  obtain ⟨u1, u2, u3⟩ := unique hv d1 d2.symm
  unfold gY gM gD gE
  rw [if_pos hi, if_pos hi, if_pos hi, if_pos hi]
  exact ⟨u1.symm, u2.symm, u3.symm, rfl⟩
theorem law_UntilAdds (n : Nat) (y m d z k e : Int) : CP C (n + 204) F_law12_UntilAdds [date y m d, date z k e] = some (.bool true) := by
  rw [eq_law12_UntilAdds]
  unfold R_law12_UntilAdds
  rw [sp_until_Until (n + 197), sp_awake (n + 196)]
  by_cases g : unE y m d z k e = 0
  · obtain ⟨g1, g2⟩ := unE_zero g
    have h := two_of g1 g2
    have hw := h.within
    have hr := h.rng
    obtain ⟨a1, a2, a3, a4⟩ := h.add hw
    obtain ⟨_, _, m3⟩ := h.mid
    have ht := td12 (utN y m d z k e) (by omega)
    have hp : pE (Int.tdiv (utN y m d z k e) 12) (Int.tmod (utN y m d z k e) 12) (utD y m d z k e) = 0 := pE_zero.2 (by omega)
    have eN : 12 * Int.tdiv (utN y m d z k e) 12 + Int.tmod (utN y m d z k e) 12 = utN y m d z k e := ht.2.2.2.2.1
    have hF : plF y m d (Int.tdiv (utN y m d z k e) 12) (Int.tmod (utN y m d z k e) 12) (utD y m d z k e) 0 = 0 := by
      unfold plF; rw [if_neg (by decide), if_neg (by omega), if_neg (by omega), eN]; exact a1
    have hX : plX y m d (Int.tdiv (utN y m d z k e) 12) (Int.tmod (utN y m d z k e) 12) (utD y m d z k e) 0 = num z k e := by
      unfold plX; rw [eN, a4]; unfold utD; omega
    obtain ⟨e1, e2, e3, e4⟩ := g_num h.vb h.yb
    unfold untV
    rw [perV_ok _ _ _ g]
    simp only [k_bind, k_tup, k_agg, k_cons, k_int, k_nil, k_bool]
    rw [show ((0 : Int) != 0) = false from rfl, cond_false, sp_ref11_Plus n _ _ _ _ _ _ _ (by omega), plV_ok hF, hX, e1, e2, e3, e4]
    simp only [k_bind, k_tup, k_agg, k_cons, k_int, k_nil, k_bool, beq_self_eq_true, Bool.and_self, cT]
  · unfold untV
    rw [perV_err _ _ _ g]
    simp only [k_bind, k_tup, k_agg, k_cons, k_int, k_nil, k_bool, beq_self_eq_true, Bool.and_self, cT]
    rw [show (unE y m d z k e != 0) = true from bne_iff_ne.2 g, cond_true]

theorem greedy509 (n : Nat) (y m d z k e : Int) (h : Two y m d z k e) : J_law12_UntilGreedy_509 (CP C (n + 7)) (n + 7) (utN y m d z k e) false y m d z k e = some (.bool true) := by
  have hw := h.within
  have hr := h.rng
  obtain ⟨gr1, gr2⟩ := h.greedy
  unfold J_law12_UntilGreedy_509 T_law12_UntilGreedy_509 J_law12_UntilGreedy_4095 T_law12_UntilGreedy_4095
  rw [cond_false, sp_ref06_Cmp (n + 6), cmp_num h.va h.vb, sp_awake n]
  simp only [k_bind, k_int]
  by_cases c : num z k e < num y m d
  · rw [decide_eq_true (show cmp1 (num y m d) (num z k e) > 0 by unfold cmp1; omega), cond_true, show IntKind.i64.wrap (utN y m d z k e + (-1)) = utN y m d z k e - 1 by rw [w64 (by omega)]; omega, sp_ref11_Add (n + 1) y m d _ 0 (by omega)]
    simp only [k_bind, k_tup, k_agg, k_cons, k_int, k_nil, k_bool]
    by_cases g : maE y m d (utN y m d z k e - 1) 0 = 0
    · obtain ⟨a2, a3, a4⟩ := ma_num g
      have := gr2 c
      rw [g, show ((0 : Int) != 0) = false from rfl, cond_false, sp_ref06_Cmp (n + 6), cmp_num a2 h.vb, a4, show cmp1 (Xn y m d (utN y m d z k e - 1)) (num z k e) = -1 by unfold cmp1; omega]
      rfl
    · rw [show (maE y m d (utN y m d z k e - 1) 0 != 0) = true from bne_iff_ne.2 g, cond_true]
  · rw [decide_eq_false (show ¬ cmp1 (num y m d) (num z k e) > 0 by unfold cmp1; omega), cond_false, show IntKind.i64.wrap (utN y m d z k e + 1) = utN y m d z k e + 1 by rw [w64 (by omega)], sp_ref11_Add (n + 1) y m d _ 0 (by omega)]
    simp only [k_bind, k_tup, k_agg, k_cons, k_int, k_nil, k_bool]
    by_cases g : maE y m d (utN y m d z k e + 1) 0 = 0
    · obtain ⟨a2, a3, a4⟩ := ma_num g
      have := gr1 (by omega)
      rw [g, show ((0 : Int) != 0) = false from rfl, cond_false, sp_ref06_Cmp (n + 6), cmp_num a2 h.vb, a4, show cmp1 (Xn y m d (utN y m d z k e + 1)) (num z k e) = 1 by unfold cmp1; omega]
      rfl
    · rw [show (maE y m d (utN y m d z k e + 1) 0 != 0) = true from bne_iff_ne.2 g, cond_true]
theorem nest (p q p' q' r r' : Bool) (G : Bool → Bool → Option AV) :
    (cond p (cond q (cond p' (cond q' (G r r') (G r false)) (G r false)) (cond p' (cond q' (G false r') (G false false)) (G false false))) (cond p' (cond q' (G false r') (G false false)) (G false false))) = G (p && (q && r)) (p' && (q' && r')) := by
  cases p <;> cases q <;> cases p' <;> cases q' <;> rfl
theorem law_UntilGreedy (n : Nat) (y m d z k e : Int) : CP C (n + 8) F_law12_UntilGreedy [date y m d, date z k e] = some (.bool true) := by
  rw [eq_law12_UntilGreedy]
  unfold R_law12_UntilGreedy T_law12_UntilGreedy_1
  rw [sp_until_Until (n + 1), sp_awake n]
  by_cases g : unE y m d z k e = 0
  · obtain ⟨g1, g2⟩ := unE_zero g
    have h := two_of g1 g2
    have hw := h.within
    have hr := h.rng
    obtain ⟨m1, m2, m3⟩ := h.mid
    have ht := td12 (utN y m d z k e) (by omega)
    have eN : IntKind.i64.wrap (IntKind.i64.wrap (12 * Int.tdiv (utN y m d z k e) 12) + Int.tmod (utN y m d z k e) 12) = utN y m d z k e := by
      simp (disch := omega) only [w64]; omega
    unfold untV
    rw [perV_ok _ _ _ g]
    simp only [k_bind, k_tup, k_agg, k_cons, k_int, k_nil, k_bool]
    rw [show ((0 : Int) != 0) = false from rfl, cond_false, eN]
    refine Eq.trans (nest _ _ _ _ _ _ (fun b b' => J_law12_UntilGreedy_127 (CP C (n + 7)) (n + 7) (utN y m d z k e) b b' y m d z k e (Int.tdiv (utN y m d z k e) 12) (Int.tmod (utN y m d z k e) 12) (utD y m d z k e))) ?_
    have k509 := greedy509 n y m d z k e h
    have hD : utD y m d z k e = num z k e - Xn y m d (utN y m d z k e) := rfl
    have low : decide (Int.tmod (utN y m d z k e) 12 ≤ -12) = false := decide_eq_false (by omega)
    have high : decide (Int.tmod (utN y m d z k e) 12 ≥ 12) = false := decide_eq_false (by omega)
    have up : num y m d ≤ num z k e → (decide (Int.tdiv (utN y m d z k e) 12 ≥ 0) && (decide (Int.tmod (utN y m d z k e) 12 ≥ 0) && decide (utD y m d z k e ≥ 0))) = true := by
      intro c
      have := m1 c
      rw [decide_eq_true (show Int.tdiv (utN y m d z k e) 12 ≥ 0 by omega), decide_eq_true (show Int.tmod (utN y m d z k e) 12 ≥ 0 by omega), decide_eq_true (show utD y m d z k e ≥ 0 by omega)]; rfl
    have down : num z k e ≤ num y m d → (decide (Int.tdiv (utN y m d z k e) 12 ≤ 0) && (decide (Int.tmod (utN y m d z k e) 12 ≤ 0) && decide (utD y m d z k e ≤ 0))) = true := by
      intro c
      have := m2 c
      rw [decide_eq_true (show Int.tdiv (utN y m d z k e) 12 ≤ 0 by omega), decide_eq_true (show Int.tmod (utN y m d z k e) 12 ≤ 0 by omega), decide_eq_true (show utD y m d z k e ≤ 0 by omega)]; rfl
    show J_law12_UntilGreedy_127 (CP C (n + 7)) (n + 7) (utN y m d z k e) _ _ y m d z k e (Int.tdiv (utN y m d z k e) 12) (Int.tmod (utN y m d z k e) 12) (utD y m d z k e) = _
    generalize (decide (Int.tdiv (utN y m d z k e) 12 ≥ 0) && (decide (Int.tmod (utN y m d z k e) 12 ≥ 0) && decide (utD y m d z k e ≥ 0))) = b1 at up ⊢
    generalize (decide (Int.tdiv (utN y m d z k e) 12 ≤ 0) && (decide (Int.tmod (utN y m d z k e) 12 ≤ 0) && decide (utD y m d z k e ≤ 0))) = b2 at down ⊢
    unfold J_law12_UntilGreedy_127 T_law12_UntilGreedy_127
    rw [sp_ref06_Cmp (n + 6), cmp_num h.va h.vb, low, high]
    simp only [k_bind, k_int]
    rcases Int.lt_trichotomy (num y m d) (num z k e) with c | c | c
    · rw [up (by omega), decide_eq_true (show cmp1 (num y m d) (num z k e) ≤ 0 by unfold cmp1; omega), decide_eq_false (show ¬ cmp1 (num y m d) (num z k e) ≥ 0 by unfold cmp1; omega)]
      exact k509
    · rw [up (by omega), down (by omega), decide_eq_true (show cmp1 (num y m d) (num z k e) ≤ 0 by unfold cmp1; omega), decide_eq_true (show cmp1 (num y m d) (num z k e) ≥ 0 by unfold cmp1; omega)]
      exact k509
    · rw [down (by omega), decide_eq_false (show ¬ cmp1 (num y m d) (num z k e) ≤ 0 by unfold cmp1; omega), decide_eq_true (show cmp1 (num y m d) (num z k e) ≥ 0 by unfold cmp1; omega)]
      exact k509
  · unfold untV
    rw [perV_err _ _ _ g]
    simp only [k_bind, k_tup, k_agg, k_cons, k_int, k_nil, k_bool]
    rw [show (unE y m d z k e != 0) = true from bne_iff_ne.2 g, cond_true]

theorem law_UntilDays (n : Nat) (y m d x : Int) : CP C (n + 204) F_law12_UntilDays [date y m d, .int .i64 x] = some (.bool true) := by
  rw [eq_law12_UntilDays]
  unfold R_law12_UntilDays
  have hx : -28 < Int.tmod x 28 ∧ Int.tmod x 28 < 28 := by simp only [IntKind.wrap_i64, tdiv_pos, tmod_pos, Int.reduceLT]; omega
  generalize Int.tmod x 28 = t at hx ⊢
  rw [sp_ref06_Days n, sp_awake (n + 196)]
  simp only [k_bind, k_tup, k_agg, k_cons, k_int, k_nil, k_bool]
  by_cases g : cE y m d = 0
  · obtain ⟨va, ya⟩ := cE_zero.1 g
    have hb := num_bound va ya
    have hn : nE y m d = num y m d := by unfold nE; rw [if_pos g]
    rw [g, show ((0 : Int) != 0) = false from rfl, cond_false, hn, w64 (by omega), sp_ref06_DateOf (n + 2)]
    simp only [k_bind, k_tup, k_agg, k_cons, k_int, k_nil, k_bool]
    by_cases hi : inDays (num y m d + t)
    · obtain ⟨d1, d2⟩ := date_ok (num y m d + t)
      have e1 : gY (num y m d + t) = dY (num y m d + t) := by unfold gY; exact if_pos hi
      have e2 : gM (num y m d + t) = dM (num y m d + t) := by unfold gM; exact if_pos hi
      have e3 : gD (num y m d + t) = dd (num y m d + t) := by unfold gD; exact if_pos hi
      have e4 : gE (num y m d + t) = 0 := by unfold gE; exact if_pos hi
      have hr2 : -9999 ≤ dY (num y m d + t) ∧ dY (num y m d + t) ≤ 9999 := by
        unfold inDays at hi
        have h1 := num_in_year d1
        rw [d2] at h1
        have a1 : jan1 (-9999) = -4371587 := by decide
        have a2 : jan1 10000 = 2932897 := by decide
        rcases Int.lt_or_le (dY (num y m d + t)) (-9999) with q | q
        · have := jan1_mono (show dY (num y m d + t) + 1 ≤ -9999 by omega); omega
        · rcases Int.lt_or_le 9999 (dY (num y m d + t)) with q2 | q2
          · have := jan1_mono (show (10000 : Int) ≤ dY (num y m d + t) by omega); omega
          · omega
      have g2 : cE (dY (num y m d + t)) (dM (num y m d + t)) (dd (num y m d + t)) = 0 := cE_zero.2 ⟨d1, hr2⟩
      have h := two_of g g2
      rw [e1, e2, e3, e4, show ((0 : Int) != 0) = false from rfl, cond_false, sp_until_Until (n + 197)]
      have hE := unE_two h
      obtain ⟨m1, m2, m3⟩ := h.mid
      have hna := h.na
      have hnb := h.nb
      have hda := h.da
      have hdb := h.db
      have hD : utD y m d (dY (num y m d + t)) (dM (num y m d + t)) (dd (num y m d + t)) = num y m d + t - Xn y m d (utN y m d (dY (num y m d + t)) (dM (num y m d + t)) (dd (num y m d + t))) := by unfold utD; rw [d2]
      rw [d2] at m1 m2 hnb
      have hN0 : -1 ≤ mo (dY (num y m d + t)) (dM (num y m d + t)) - mo y m ∧ mo (dY (num y m d + t)) (dM (num y m d + t)) - mo y m ≤ 1 := by
        constructor
        · rcases Int.lt_or_le (mo (dY (num y m d + t)) (dM (num y m d + t)) - mo y m) (-1) with q | q
          · have s1 := F1_succ (mo (dY (num y m d + t)) (dM (num y m d + t)))
            have s2 := F1_mono (show mo (dY (num y m d + t)) (dM (num y m d + t)) + 1 ≤ mo y m by omega)
            omega
          · exact q
        · rcases Int.lt_or_le 1 (mo (dY (num y m d + t)) (dM (num y m d + t)) - mo y m) with q | q
          · have s1 := F1_succ (mo y m)
            have s2 := F1_mono (show mo y m + 1 ≤ mo (dY (num y m d + t)) (dM (num y m d + t)) by omega)
            omega
          · exact q
      have hX0 : utN y m d (dY (num y m d + t)) (dM (num y m d + t)) (dd (num y m d + t)) = 0 → Xn y m d (utN y m d (dY (num y m d + t)) (dM (num y m d + t)) (dd (num y m d + t))) = num y m d := by
        intro q
        rw [q]
        unfold Xn
        rw [show mo y m + 0 = mo y m by omega, hna]
        have : lesser d (mdt (mo y m)) = d := by unfold lesser; omega
        rw [this]
      unfold untV
      rw [perV_ok _ _ _ hE]
      simp only [k_bind, k_tup, k_agg, k_cons, k_int, k_nil, k_bool]
      rw [hD]
      generalize utN y m d (dY (num y m d + t)) (dM (num y m d + t)) (dd (num y m d + t)) = N at *
      generalize Xn y m d N = X at *
      have hN : N = 0 ∨ N = 1 ∨ N = -1 := by omega
      rcases hN with rfl | rfl | rfl
      · have := hX0 rfl
        rw [show num y m d + t - X = t by omega, decide_eq_true (show t ≥ -30 by omega), decide_eq_true (show t ≤ 30 by omega), beq_self_eq_true]
        rfl
      · rw [decide_eq_true (show num y m d + t - X ≥ -30 by omega), decide_eq_true (show num y m d + t - X ≤ 30 by omega)]
        rfl
      · rw [decide_eq_true (show num y m d + t - X ≥ -30 by omega), decide_eq_true (show num y m d + t - X ≤ 30 by omega)]
        rfl
    · have e4 : gE (num y m d + t) = 8 := by unfold gE; exact if_neg hi
      rw [e4, show ((8 : Int) != 0) = true from rfl, cond_true]
  · rw [show (cE y m d != 0) = true from bne_iff_ne.2 g, cond_true]
end Go.Proofs.Ytceigcoipifloaa.Sim.S
