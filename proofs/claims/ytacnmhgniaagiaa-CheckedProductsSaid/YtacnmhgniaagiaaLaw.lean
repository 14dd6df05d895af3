/- The laws of sums, products and quotients that tell when they overflow answer true. Condition: none beyond what each theorem says. -/
import Derived.Test.YtacnmhgniaagiaaSpecChk2
set_option linter.unusedSimpArgs false
set_option linter.unusedVariables false
namespace Go.Proofs.Ytacnmhgniaagiaa.Sim.S
open Go

theorem sp_awake (n : Nat) : CP C (n + 6) F_law02_awake [] = some (.bool true) := by
  rw [eq_law02_awake]
  unfold R_law02_awake
  rw [sc_FloorDiv (n + 4) (-7) 2 (by decide) (by decide) (by decide), sc_FloorMod (n + 4) (-7) 2 (by decide) (by decide) (by decide), sc_FloorMod (n + 4) 7 (-2) (by decide) (by decide) (by decide),
    sc_FloorDiv (n + 4) (-9223372036854775808) (-1) (by decide) (by decide) (by decide), sc_FloorMod (n + 4) (-9223372036854775808) (-1) (by decide) (by decide) (by decide),
    sc_MulDiv n 4611686018427387904 8 4 (by decide) (by decide) (by decide) (by decide), sc_MulDiv n 4611686018427387904 3 4 (by decide) (by decide) (by decide) (by decide)]
  rfl

theorem law_CheckedSums (n : Nat) (a b : Int) (ha : IntKind.i64.has a) (hb : IntKind.i64.has b) : CP C (n + 7) F_law02_CheckedSums [.int .i64 a, .int .i64 b] = some (.bool true) := by
  have ha' : -9223372036854775808 ≤ a ∧ a ≤ 9223372036854775807 := ha
  have hb' : -9223372036854775808 ≤ b ∧ b ≤ 9223372036854775807 := hb
  rw [eq_law02_CheckedSums]
  unfold R_law02_CheckedSums
  rw [sc_Add (n + 5) a b ha' hb', sr_Add (n + 3) a b ha' hb', sc_Sub (n + 5) a b ha' hb', sr_Sub (n + 3) a b ha' hb', sp_awake n]
  simp only [k_bind, k_tup, k_cons, k_int, k_nil, k_bool, beq_self_eq_true, cond_true]

theorem law_CheckedProducts (n : Nat) (a b : Int) (ha : IntKind.i64.has a) (hb : IntKind.i64.has b) : CP C (n + 7) F_law02_CheckedProducts [.int .i64 a, .int .i64 b] = some (.bool true) := by
  have ha' : -9223372036854775808 ≤ a ∧ a ≤ 9223372036854775807 := ha
  have hb' : -9223372036854775808 ≤ b ∧ b ≤ 9223372036854775807 := hb
  rw [eq_law02_CheckedProducts]
  unfold R_law02_CheckedProducts
  rw [sp_checked_Mul (n + 3) a b ha' hb', sp_ref02_Mul (n + 1) a b ha' hb', sc_Neg (n + 4) a ha', sr_Sub (n + 3) 0 a (by decide) ha', sc_Abs (n + 3) a ha', sr_Abs (n + 2) a ha', sp_awake n]
  simp only [k_bind, k_tup, k_cons, k_int, k_nil, k_bool, beq_self_eq_true, cond_true]

theorem law_CheckedFloors (n : Nat) (a b : Int) (ha : IntKind.i64.has a) (hb : IntKind.i64.has b) : CP C (n + 7) F_law02_CheckedFloors [.int .i64 a, .int .i64 b] = some (.bool true) := by
  have ha' : -9223372036854775808 ≤ a ∧ a ≤ 9223372036854775807 := ha
  have hb' : -9223372036854775808 ≤ b ∧ b ≤ 9223372036854775807 := hb
  rw [eq_law02_CheckedFloors]
  unfold R_law02_CheckedFloors
  by_cases h : b = 0
  · subst h
    rw [sc_FloorDiv0 (n + 5) a, sr_FloorDiv0 (n + 5) a, sc_FloorMod0 (n + 5) a, sr_FloorMod0 (n + 5) a, sp_awake n]
    rfl
  · rw [sc_FloorDiv (n + 5) a b h ha' hb', sr_FloorDiv (n + 1) a b h ha' hb', sc_FloorMod (n + 5) a b h ha' hb', sr_FloorMod (n + 1) a b h ha' hb', sp_awake n]
    simp only [k_bind, k_tup, k_cons, k_int, k_nil, k_bool, beq_self_eq_true, cond_true]

theorem law_CheckedMulDivs (n : Nat) (a b c : Int) (ha : IntKind.i64.has a) (hb : IntKind.i64.has b) (hc : IntKind.i64.has c) : CP C (n + 7) F_law02_CheckedMulDivs [.int .i64 a, .int .i64 b, .int .i64 c] = some (.bool true) := by
  have ha' : -9223372036854775808 ≤ a ∧ a ≤ 9223372036854775807 := ha
  have hb' : -9223372036854775808 ≤ b ∧ b ≤ 9223372036854775807 := hb
  have hc' : -9223372036854775808 ≤ c ∧ c ≤ 9223372036854775807 := hc
  rw [eq_law02_CheckedMulDivs]
  unfold R_law02_CheckedMulDivs
  by_cases h : c = 0
  · subst h
    rw [sc_MulDiv0 (n + 1) a b ha' hb', sr_MulDiv0 (n + 5) a b, sp_awake n]
    rfl
  · rw [sc_MulDiv (n + 1) a b c h ha' hb' hc', sr_MulDiv (n + 1) a b c h ha' hb' hc', sp_awake n]
    simp only [k_bind, k_tup, k_cons, k_int, k_nil, k_bool, beq_self_eq_true, cond_true]

theorem rest_fin (n : Nat) (a b : Int) (hb : b ≠ 0) (ha : -9223372036854775808 ≤ a ∧ a ≤ 9223372036854775807) :
    J_law02_CheckedRests_127 (CP C (n + 6)) (n + 6) a b (fd a b) 0 (fm a b) 0 true = some (.bool true) := by
  have hm := fd_mul a b
  unfold J_law02_CheckedRests_127 T_law02_CheckedRests_127
  have e : IntKind.i64.wrap (IntKind.i64.wrap (fd a b * b) + fm a b) = a := by
    rw [← hm] at ha
    generalize fd a b * b = p at *
    rw [IntKind.wrap_i64, IntKind.wrap_i64]
    omega
  rw [e, sp_awake n, beq_self_eq_true, beq_self_eq_true]
  rfl
theorem law_CheckedRests (n : Nat) (a b : Int) (ha : IntKind.i64.has a) (hb : IntKind.i64.has b) : CP C (n + 7) F_law02_CheckedRests [.int .i64 a, .int .i64 b] = some (.bool true) := by
  have ha' : -9223372036854775808 ≤ a ∧ a ≤ 9223372036854775807 := ha
  have hb' : -9223372036854775808 ≤ b ∧ b ≤ 9223372036854775807 := hb
  rw [eq_law02_CheckedRests]
  unfold R_law02_CheckedRests T_law02_CheckedRests_1
  by_cases h : b = 0
  · subst h
    rw [sc_FloorDiv0 (n + 5) a, sc_FloorMod0 (n + 5) a, sp_awake n]
    rfl
  rw [sc_FloorDiv (n + 5) a b h ha' hb', sc_FloorMod (n + 5) a b h ha' hb', sp_awake n]
  simp only [k_bind, k_tup, k_cons, k_int, k_nil, k_bool]
  rw [show (b == 0) = false from beq_eq_false_iff_ne.2 h, cond_false]
  by_cases hm : a = -9223372036854775808 ∧ b = -1
  · obtain ⟨rfl, rfl⟩ := hm
    rfl
  have hbd := fd_bound (z := a) h
  have hmul := fd_mul a b
  have hfit : -9223372036854775808 ≤ fd a b ∧ fd a b ≤ 9223372036854775807 := by
    by_cases c : fd a b = 9223372036854775808
    · have ha1 : a = -9223372036854775808 := by omega
      have hb1 : b ≠ -1 := by omega
      have hs : (a < 0 ∧ b < 0) ∨ (0 ≤ a ∧ 0 < b) ∨ (a < 0 ∧ 0 < b) := by omega
      rcases hs with hs | hs | hs
      · have e := (fd_same h (.inl hs)).1
        have : a.natAbs / b.natAbs < a.natAbs := Nat.div_lt_self (by omega) (by omega)
        omega
      · omega
      · have e := (fd_unlike (z := a) h (.inr ⟨by omega, hs.2⟩)).1
        have h0 : (0 : Int) ≤ ((a.natAbs / b.natAbs : Nat) : Int) := Int.natCast_nonneg _
        by_cases c2 : a.natAbs % b.natAbs = 0
        · rw [if_pos c2] at e; omega
        · rw [if_neg c2] at e; omega
    · omega
  rw [if_pos hfit, if_pos hfit]
  have key := rest_fin n a b h ha'
  have two : ∀ X : Option AV, (cond (a == -9223372036854775808) (cond (b == -1) (cond ((0 : Int) == 8) (cond (fm a b == 0) (cond ((0 : Int) == 0) (some (AV.bool true)) (some (.bool false))) (some (.bool false))) (some (.bool false))) X) X) = X := by
    intro X
    by_cases h1 : a = -9223372036854775808
    · rw [show (b == -1) = false by rw [beq_eq_false_iff_ne]; omega]
      cases (a == -9223372036854775808) <;> rfl
    · rw [show (a == -9223372036854775808) = false from beq_eq_false_iff_ne.2 h1, cond_false]
  rw [two]
  by_cases hp : b > 0
  · have hr := fm_pos a hp
    rw [decide_eq_true hp, decide_eq_true (show fm a b ≥ 0 from hr.1), decide_eq_true hr.2]
    exact key
  · have hn : b < 0 := by omega
    have hr := fm_neg a hn
    rw [decide_eq_false hp, decide_eq_true hn, decide_eq_true hr.2, decide_eq_true (show fm a b > b from hr.1)]
    exact key
end Go.Proofs.Ytacnmhgniaagiaa.Sim.S
