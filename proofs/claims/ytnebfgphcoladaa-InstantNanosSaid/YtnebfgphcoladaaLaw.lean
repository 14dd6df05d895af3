/- Instants' laws answer true. Condition: none beyond what each theorem says. -/
import Derived.Test.YtnebfgphcoladaaSpecInst2
set_option linter.unusedSimpArgs false
set_option linter.unusedVariables false
namespace Go.Proofs.Ytnebfgphcoladaa.Sim.S
open Go

theorem sp_awake (n : Nat) : CP C (n + 4) F_law03_awake [] = some (.bool true) := by
  rw [eq_law03_awake]
  unfold R_law03_awake
  rw [sp_instant_New (n + 1) 0 (-1) (by omega) (by omega), sp_instant_New (n + 1) 9223372036854775807 1 (by omega) (by omega), sp_instant_Add n, sp_instant_Sub (n + 1)]
  rfl

theorem law_InstantMakes (n : Nat) (s x : Int) (hs : IntKind.i64.has s) (hx : IntKind.i64.has x) : CP C (n + 8) F_law03_InstantMakes [.int .i64 s, .int .i64 x] = some (.bool true) := by
  have hs' : -9223372036854775808 ≤ s ∧ s ≤ 9223372036854775807 := hs
  have hx' : -9223372036854775808 ≤ x ∧ x ≤ 9223372036854775807 := hx
  rw [eq_law03_InstantMakes]
  unfold R_law03_InstantMakes
  rw [sp_instant_New (n + 5) s x hs' hx', sp_ref03_New n s x hs' hx', sp_instant_Check (n + 6), sp_ref03_Check (n + 6), sp_awake (n + 3)]
  simp only [k_int, k_anyInt, k_bool, k_str, k_agg, k_tup, k_cons, k_nil, k_bind, ↓c_not, ↓c_bne, ite_cond, Bool.and_eq_true, Bool.or_eq_true, beq_iff_eq, Bool.and_true, decide_eq_true_eq, Bool.false_eq_true, if_true, if_false, bne_self_eq_false, and_self, Int.reduceEq, Int.reduceLT, Int.reduceNeg, beq_self_eq_true]

theorem law_InstantSums (n : Nat) (s x t y : Int) : CP C (n + 8) F_law03_InstantSums [ins s x, ins t y] = some (.bool true) := by
  rw [eq_law03_InstantSums]
  unfold R_law03_InstantSums
  rw [sp_instant_Add (n + 4), sp_ref03_Add n, sp_awake (n + 3)]
  simp only [k_int, k_anyInt, k_bool, k_str, k_agg, k_tup, k_cons, k_nil, k_bind, ↓c_not, ↓c_bne, ite_cond, Bool.and_eq_true, Bool.or_eq_true, beq_iff_eq, Bool.and_true, decide_eq_true_eq, Bool.false_eq_true, if_true, if_false, bne_self_eq_false, and_self, Int.reduceEq, Int.reduceLT, Int.reduceNeg, beq_self_eq_true]

theorem sp_pair (n : Nat) (s x : Int) : CP C (n + 1) F_law03_pair [ins s x] = some (ins s x) := by
  rw [eq_law03_pair]; rfl
theorem cmp1_swap (a b : Int) : cmp1 b a = -cmp1 a b := by unfold cmp1; omega
theorem cmp2_num {s x t y : Int} (h : iE s x = 0) (h2 : iE t y = 0) : cmp2 s x t y = cmp1 (s * 1000000000 + x) (t * 1000000000 + y) := by
  unfold iE at h h2
  unfold cmp2 cmp1
  omega
/-- An instant in range is its number's. -/
theorem nin_of {s x : Int} (h : iE s x = 0) : insV (s * 1000000000 + x) = .tup [ins s x, .int .i64 0] := by
  unfold iE at h
  have g : qin (s * 1000000000 + x) := by unfold qin; omega
  unfold insV qS qN qE
  rw [if_pos g, if_pos g, if_pos g, show (s * 1000000000 + x) / 1000000000 = s by omega, show (s * 1000000000 + x) % 1000000000 = x by omega]
theorem law_InstantBetween (n : Nat) (s x t y : Int) : CP C (n + 7) F_law03_InstantBetween [ins s x, ins t y] = some (.bool true) := by
  rw [eq_law03_InstantBetween]
  unfold R_law03_InstantBetween
  rw [sp_instant_Sub (n + 4), sp_ref03_Sub n, sp_awake (n + 2), sp_instant_Cmp (n + 3), sp_pair (n + 5), sp_pair (n + 5)]
  by_cases h : lst (iE s x) (iE t y) = 0
  · have h1 := (lst_zero h).1
    have h2 := (lst_zero h).2
    rw [betV_ok _ h]
    simp only [k_bind, k_tup, k_agg, k_cons, k_int, k_nil, k_bool]
    rw [sp_ref03_Cmp (n + 4), sp_instant_Add (n + 3)]
    have h3 : dE ((s * 1000000000 + x - (t * 1000000000 + y)) / 1000000000) ((s * 1000000000 + x - (t * 1000000000 + y)) % 1000000000) = 0 := by
      unfold iE at h1 h2
      unfold dE
      omega
    rw [h2, h3, errV_ok _ (show lst 0 0 = 0 from rfl), show t * 1000000000 + y + ((s * 1000000000 + x - (t * 1000000000 + y)) / 1000000000 * 1000000000 + (s * 1000000000 + x - (t * 1000000000 + y)) % 1000000000) = s * 1000000000 + x by omega, nin_of h1]
    simp only [k_int, k_anyInt, k_bool, k_str, k_agg, k_tup, k_cons, k_nil, k_bind, ↓c_not, ↓c_bne, ite_cond, Bool.and_eq_true, Bool.or_eq_true, beq_iff_eq, Bool.and_true, decide_eq_true_eq, Bool.false_eq_true, if_true, if_false, bne_self_eq_false, and_self, Int.reduceEq, Int.reduceLT, Int.reduceNeg, beq_self_eq_true]
  · rw [betV_err _ h]
    simp only [k_bind, k_tup, k_agg, k_cons, k_int, k_nil, k_bool]
    rw [sp_ref03_Cmp (n + 4)]
    have e : (lst (iE s x) (iE t y) != 0) = true := bne_iff_ne.2 h
    simp only [k_bind, k_int, k_bool, beq_self_eq_true, bne_self_eq_false, Bool.and_self, Bool.not_true, cond_false, e, cond_true]
theorem law_InstantOrder (n : Nat) (s x t y : Int) : CP C (n + 7) F_law03_InstantOrder [ins s x, ins t y] = some (.bool true) := by
  rw [eq_law03_InstantOrder]
  unfold R_law03_InstantOrder
  rw [sp_instant_Add (n + 3), sp_awake (n + 2)]
  by_cases h : lst (iE s x) (dE t y) = 0
  · have h1 := (lst_zero h).1
    have h2 := (lst_zero h).2
    rw [errV_ok _ h]
    by_cases g : qin (s * 1000000000 + x + (t * 1000000000 + y))
    · unfold insV qS qN qE
      rw [if_pos g, if_pos g, if_pos g]
      simp only [k_bind, k_tup, k_agg, k_cons, k_int, k_nil, k_bool]
      rw [sp_instant_Cmp (n + 3), sp_instant_Cmp (n + 3)]
      have h3 : iE ((s * 1000000000 + x + (t * 1000000000 + y)) / 1000000000) ((s * 1000000000 + x + (t * 1000000000 + y)) % 1000000000) = 0 := by
        unfold qin at g
        unfold iE
        omega
      rw [cmp2_num h3 h1, cmp2_num h1 h3, show (s * 1000000000 + x + (t * 1000000000 + y)) / 1000000000 * 1000000000 + (s * 1000000000 + x + (t * 1000000000 + y)) % 1000000000 = s * 1000000000 + x + (t * 1000000000 + y) by omega]
      generalize s * 1000000000 + x = w
      unfold dE at h2
      simp only [k_bind, k_int, k_bool]
      rw [show ((0 : Int) != 0) = false from rfl, cond_false]
      by_cases c1 : t = 0 ∧ y = 0
      · obtain ⟨rfl, rfl⟩ := c1
        rw [show w + (0 * 1000000000 + 0) = w by omega, show cmp1 w w = 0 by unfold cmp1; omega]
        rfl
      · rw [show (t == 0 && (y == 0 && true)) = false by rw [Bool.and_true, Bool.and_eq_false_iff, beq_eq_false_iff_ne, beq_eq_false_iff_ne]; omega, cond_false]
        by_cases c2 : t ≥ 0
        · rw [decide_eq_true c2, cond_true, show cmp1 (w + (t * 1000000000 + y)) w = 1 by unfold cmp1; omega, show cmp1 w (w + (t * 1000000000 + y)) = -1 by unfold cmp1; omega]
          rfl
        · rw [decide_eq_false c2, cond_false, show cmp1 (w + (t * 1000000000 + y)) w = -1 by unfold cmp1; omega, show cmp1 w (w + (t * 1000000000 + y)) = 1 by unfold cmp1; omega]
          rfl
    · unfold insV qS qN qE
      rw [if_neg g, if_neg g, if_neg g]
      rfl
  · rw [errV_err _ h]
    simp only [k_bind, k_tup, k_agg, k_cons, k_int, k_nil, k_bool]
    rw [show (lst (iE s x) (dE t y) != 0) = true from bne_iff_ne.2 h, cond_true]
theorem words (h l : Int) (hh : IntKind.u64.has h) (hl : IntKind.u64.has l) : ∃ z : Int, (-170141183460469231731687303715884105728 ≤ z ∧ z < 170141183460469231731687303715884105728) ∧ AV.agg [.int .u64 h, .int .u64 l] = wI z := by
  have h1 : 0 ≤ h ∧ h ≤ 18446744073709551615 := hh
  have h2 : 0 ≤ l ∧ l ≤ 18446744073709551615 := hl
  refine ⟨if h ≥ 9223372036854775808 then h * 18446744073709551616 + l - 340282366920938463463374607431768211456 else h * 18446744073709551616 + l, ?_, ?_⟩
  · split <;> omega
  · unfold wI wv
    have e : (((if h ≥ 9223372036854775808 then h * 18446744073709551616 + l - 340282366920938463463374607431768211456 else h * 18446744073709551616 + l) % 340282366920938463463374607431768211456).toNat : Nat) = (h * 18446744073709551616 + l).toNat := by split <;> omega
    rw [e, show (((h * 18446744073709551616 + l).toNat / 18446744073709551616 : Nat) : Int) = h by omega, show (((h * 18446744073709551616 + l).toNat % 18446744073709551616 : Nat) : Int) = l by omega]
theorem law_InstantNanos (n : Nat) (s x h l : Int) (_hs : IntKind.i64.has s) (_hx : IntKind.i64.has x) (hh : IntKind.u64.has h) (hl : IntKind.u64.has l) :
    CP C (n + 8) F_law03_InstantNanos [ins s x, .agg [.int .u64 h, .int .u64 l]] = some (.bool true) := by
  obtain ⟨z, hz, e⟩ := words h l hh hl
  rw [e, eq_law03_InstantNanos]
  unfold R_law03_InstantNanos
  rw [sp_instant_Nanos (n + 4), sp_ref03_Nanos (n + 2), sp_instant_OfNanos (n + 2) z hz, sp_ref03_OfNanos n z hz, sp_awake (n + 3)]
  by_cases g : iE s x = 0
  · rw [numV_ok _ g]
    have g1 := g
    unfold iE at g1
    simp only [k_bind, k_tup, k_agg, k_cons, k_int, k_nil, k_bool]
    rw [sp_instant_OfNanos (n + 2) _ (by omega), nin_of g]
    simp only [k_int, k_anyInt, k_bool, k_str, k_agg, k_tup, k_cons, k_nil, k_bind, ↓c_not, ↓c_bne, ite_cond, Bool.and_eq_true, Bool.or_eq_true, beq_iff_eq, Bool.and_true, decide_eq_true_eq, Bool.false_eq_true, if_true, if_false, bne_self_eq_false, and_self, Int.reduceEq, Int.reduceLT, Int.reduceNeg, beq_self_eq_true, bne_self_eq_false, cond_true, cond_false, Bool.and_self, Bool.not_true]
  · rw [numV_err _ g]
    simp only [k_bind, k_tup, k_agg, k_cons, k_int, k_nil, k_bool]
    rw [show (iE s x == 0) = false from beq_eq_false_iff_ne.2 g]
    simp only [k_int, k_anyInt, k_bool, k_str, k_agg, k_tup, k_cons, k_nil, k_bind, ↓c_not, ↓c_bne, ite_cond, Bool.and_eq_true, Bool.or_eq_true, beq_iff_eq, Bool.and_true, decide_eq_true_eq, Bool.false_eq_true, if_true, if_false, bne_self_eq_false, and_self, Int.reduceEq, Int.reduceLT, Int.reduceNeg, beq_self_eq_true, bne_self_eq_false, cond_true, cond_false, Bool.and_self, Bool.not_true]
end Go.Proofs.Ytnebfgphcoladaa.Sim.S
