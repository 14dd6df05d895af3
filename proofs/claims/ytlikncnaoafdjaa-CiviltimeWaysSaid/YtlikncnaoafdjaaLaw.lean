/- The laws of civil times answer true. Condition: none beyond what each theorem says. -/
import Derived.Test.YtlikncnaoafdjaaSpecCt
set_option linter.unusedSimpArgs false
set_option linter.unusedVariables false
namespace Go.Proofs.Ytlikncnaoafdjaa.Sim.S
open Go Civil

theorem sp_awake (n : Nat) : CP C (n + 7) F_law09_awake [] = some (.bool true) := by
  rw [eq_law09_awake]
  unfold R_law09_awake
  rw [sp_ct_Secs n 1970 1 2 0 0 1 0, sp_ct_Of (n + 1) (-1) 5, sp_ct_Add n 9999 12 31 23 59 59 999999999 0 1]
  rw [show tE 1970 1 2 0 0 1 0 = 0 by decide, show iE (-1) 5 = 0 by decide, show ctaE 9999 12 31 23 59 59 999999999 0 1 = 8 by decide, ciV_err (e := 8) _ (by decide)]
  rfl

theorem law_CiviltimeSecs (n : Nat) (y m d h i s x sec nano : Int) : CP C (n + 206) F_law09_CiviltimeSecs [ct y m d h i s x, .int .i64 sec, .int .i64 nano] = some (.bool true) := by
  rw [eq_law09_CiviltimeSecs]
  unfold R_law09_CiviltimeSecs
  rw [sp_ct_Secs (n + 199), sp_ref09_Secs (n + 1), sp_ct_Of (n + 200), sp_ref09_Of (n + 3), sp_ct_Check (n + 199), sp_ref09_Check (n + 200), sp_awake (n + 198)]
  simp only [bnd, k_bind, k_tup, k_agg, k_cons, k_int, k_nil, k_bool, beq_self_eq_true, Bool.and_self, cond_true]

theorem law_CiviltimeSums (n : Nat) (y m d h i s x y' m' d' h' i' s' x' t u : Int) : CP C (n + 206) F_law09_CiviltimeSums [ct y m d h i s x, ct y' m' d' h' i' s' x', ins t u] = some (.bool true) := by
  rw [eq_law09_CiviltimeSums]
  unfold R_law09_CiviltimeSums T_law09_CiviltimeSums_1 J_law09_CiviltimeSums_127 T_law09_CiviltimeSums_127
  rw [sp_ct_Add (n + 199), sp_ref09_Add n, sp_ct_Sub (n + 197), sp_ref09_Sub n, sp_ct_Cmp (n + 201), sp_ref09_Cmp (n + 202), sp_awake (n + 198)]
  simp only [bnd, k_bind, k_tup, k_agg, k_cons, k_int, k_nil, k_bool, beq_self_eq_true, Bool.and_self, cond_true]

theorem law_CiviltimeBack (n : Nat) (y m d h i s x : Int) : CP C (n + 8) F_law09_CiviltimeBack [ct y m d h i s x] = some (.bool true) := by
  rw [eq_law09_CiviltimeBack]
  unfold R_law09_CiviltimeBack
  rw [sp_ct_Secs (n + 1), sp_awake n]
  simp only [k_bind, k_tup, k_agg, k_cons, k_int, k_nil, k_bool]
  by_cases g : tE y m d h i s x = 0
  · obtain ⟨i1, i2⟩ := tZ_ins g
    unfold zv
    rw [g, if_pos rfl, show ((0 : Int) != 0) = false from rfl, cond_false, sp_ct_Of (n + 2), i1, i2, of_tZ g]
    simp only [bnd, k_bind, k_tup, k_agg, k_cons, k_int, k_nil, k_bool, beq_self_eq_true, Bool.and_self, cond_true]
  · unfold zv
    rw [if_neg g, show (tE y m d h i s x != 0) = true from bne_iff_ne.2 g]
    rfl

theorem ways127 (n : Nat) (y m d h i s x y' m' d' h' i' s' x' w : Int) (g : tE y m d h i s x = 0) (g' : tE y' m' d' h' i' s' x' = 0) (hw : w = cmp1 (tZ y m d h i s x) (tZ y' m' d' h' i' s' x')) :
    J_law09_CiviltimeWays_127 (CP C (n + 8)) (n + 8) 0 w y m d h i s x y' m' d' h' i' s' x' y m d h i s x = some (.bool true) := by
  unfold J_law09_CiviltimeWays_127 T_law09_CiviltimeWays_127 J_law09_CiviltimeWays_255 T_law09_CiviltimeWays_255
  rw [sp_ct_Cmp (n + 4), cmpT_num g g', sp_awake (n + 1), hw]
  simp only [bnd, k_bind, k_int, k_bool, beq_self_eq_true, Bool.and_self, cond_true]

theorem law_CiviltimeWays (n : Nat) (y m d h i s x y' m' d' h' i' s' x' : Int) : CP C (n + 9) F_law09_CiviltimeWays [ct y m d h i s x, ct y' m' d' h' i' s' x'] = some (.bool true) := by
  rw [eq_law09_CiviltimeWays]
  unfold R_law09_CiviltimeWays T_law09_CiviltimeWays_1
  rw [sp_ct_Sub n, sp_awake (n + 1)]
  by_cases g : lst (tE y m d h i s x) (tE y' m' d' h' i' s' x') = 0
  · obtain ⟨g1, g2⟩ := lst_zero g
    obtain ⟨c1, c2⟩ := tE_zero.1 g1
    obtain ⟨hv, hy⟩ := cE_zero.1 c2
    have hb := num_bound hv hy
    have hr := nan_range c1
    obtain ⟨c1', c2'⟩ := tE_zero.1 g2
    obtain ⟨hv', hy'⟩ := cE_zero.1 c2'
    have hb' := num_bound hv' hy'
    have hr' := nan_range c1'
    rw [betV_ok _ g]
    simp only [k_bind, k_tup, k_agg, k_cons, k_int, k_nil, k_bool]
    have hz : tZ y m d h i s x = num y m d * 86400000000000 + nan h i s x := rfl
    have hz' : tZ y' m' d' h' i' s' x' = num y' m' d' * 86400000000000 + nan h' i' s' x' := rfl
    have hof := of_tZ g1
    have hD : dE ((tZ y m d h i s x - tZ y' m' d' h' i' s' x') / 1000000000) ((tZ y m d h i s x - tZ y' m' d' h' i' s' x') % 1000000000) = 0 := by
      rw [din_dE]; exact if_pos (by unfold din; omega)
    have hs : tZ y' m' d' h' i' s' x' + ((tZ y m d h i s x - tZ y' m' d' h' i' s' x') / 1000000000 * 1000000000 + (tZ y m d h i s x - tZ y' m' d' h' i' s' x') % 1000000000) = tZ y m d h i s x := by omega
    have hE : ctaE y' m' d' h' i' s' x' ((tZ y m d h i s x - tZ y' m' d' h' i' s' x') / 1000000000) ((tZ y m d h i s x - tZ y' m' d' h' i' s' x') % 1000000000) = 0 := by
      unfold ctaE
      rw [g2, hD, if_neg (show ¬ lst 0 0 ≠ 0 by decide), hs]
      exact gE_in (by omega)
    rw [show ((0 : Int) != 0) = false from rfl, cond_false, sp_ct_Add (n + 2), hE, hs, hof]
    simp only [k_bind, k_tup, k_agg, k_cons, k_int, k_nil, k_bool]
    have W := fun w hw => ways127 n y m d h i s x y' m' d' h' i' s' x' w g1 g2 hw
    generalize tZ y m d h i s x = a at *
    generalize tZ y' m' d' h' i' s' x' = b at *
    by_cases k1 : (a - b) / 1000000000 < 0
    · rw [decide_eq_true k1, cond_true]
      exact W _ (by unfold cmp1; omega)
    · rw [decide_eq_false k1, cond_false]
      by_cases k2 : a = b
      · have e1 : (a - b) / 1000000000 = 0 := by omega
        have e2 : (a - b) % 1000000000 = 0 := by omega
        rw [e1, e2]
        exact W _ (by unfold cmp1; omega)
      · rw [show ((a - b) / 1000000000 == 0 && ((a - b) % 1000000000 == 0 && true)) = false by
          rw [Bool.and_true, Bool.and_eq_false_iff, beq_eq_false_iff_ne, beq_eq_false_iff_ne]; omega]
        exact W _ (by unfold cmp1; omega)
  · rw [betV_err _ g]
    simp only [k_bind, k_tup, k_agg, k_cons, k_int, k_nil, k_bool]
    rw [show (lst (tE y m d h i s x) (tE y' m' d' h' i' s' x') != 0) = true from bne_iff_ne.2 g, cond_true]
end Go.Proofs.Ytlikncnaoafdjaa.Sim.S
