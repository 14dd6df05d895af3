/- Clocks. Condition: none beyond what each theorem says. -/
import Derived.Test.YtlikncnaoafdjaaSpecDur
set_option linter.unusedSimpArgs false
set_option linter.unusedVariables false
namespace Go.Proofs.Ytlikncnaoafdjaa.Sim.S
open Go

abbrev clk (a b c d : Int) : AV := .agg [.int .i64 a, .int .i64 b, .int .i64 c, .int .i64 d]
def clkOk (a b c d : Int) : Prop := (0 ≤ a ∧ a ≤ 23) ∧ (0 ≤ b ∧ b ≤ 59) ∧ (0 ≤ c ∧ c ≤ 59) ∧ (0 ≤ d ∧ d ≤ 999999999)
instance (a b c d : Int) : Decidable (clkOk a b c d) := by unfold clkOk; infer_instance
def ck (a b c d : Int) : Int := if clkOk a b c d then 0 else 5
def nan (a b c d : Int) : Int := ((a * 60 + b) * 60 + c) * 1000000000 + d
def nanE (a b c d : Int) : Int := if clkOk a b c d then nan a b c d else 0

theorem sp_clock_Check (n : Nat) (a b c d : Int) : CP C (n + 2) F_clock_Check [clk a b c d] = some (.int .i64 (ck a b c d)) := by
  rw [eq_clock_Check]
  unfold R_clock_Check ck clkOk
  rw [eq_clock_cut]
  simp only [R_clock_cut, bnd, k_int, k_anyInt, k_bool, k_str, k_agg, k_tup, k_cons, k_nil, k_bind, ↓c_not, ↓c_bne, ite_cond, Bool.and_eq_true, Bool.or_eq_true, beq_iff_eq, Bool.and_true, decide_eq_true_eq, Bool.false_eq_true, if_true, if_false, bne_self_eq_false, and_self, Int.reduceEq, Int.reduceLT, Int.reduceNeg, i_some, i_int, i_bool, i_agg, i_tup, i_cons, i_self, Option.some.injEq, AV.int.injEq, AV.bool.injEq, AV.agg.injEq, AV.tup.injEq, List.cons.injEq, true_and, and_true]
  omega

theorem sp_ref08_Check (n : Nat) (a b c d : Int) : CP C (n + 1) F_ref08_Check [clk a b c d] = some (.int .i64 (ck a b c d)) := by
  rw [eq_ref08_Check]
  unfold R_ref08_Check ck clkOk
  simp only [k_int, k_anyInt, k_bool, k_str, k_agg, k_tup, k_cons, k_nil, k_bind, ↓c_not, ↓c_bne, ite_cond, Bool.and_eq_true, Bool.or_eq_true, beq_iff_eq, Bool.and_true, decide_eq_true_eq, Bool.false_eq_true, if_true, if_false, bne_self_eq_false, and_self, Int.reduceEq, Int.reduceLT, Int.reduceNeg, i_some, i_int, i_bool, i_agg, i_tup, i_cons, i_self, Option.some.injEq, AV.int.injEq, AV.bool.injEq, AV.agg.injEq, AV.tup.injEq, List.cons.injEq, true_and, and_true]
  omega

theorem sp_clock_Nanos (n : Nat) (a b c d : Int) : CP C (n + 3) F_clock_Nanos [clk a b c d] = some (.tup [.int .i64 (nanE a b c d), .int .i64 (ck a b c d)]) := by
  rw [eq_clock_Nanos]
  unfold R_clock_Nanos nanE
  rw [sp_clock_Check]
  simp only [k_int, k_anyInt, k_bool, k_str, k_agg, k_tup, k_cons, k_nil, k_bind, ↓c_not, ↓c_bne, ite_cond, Bool.and_eq_true, Bool.or_eq_true, beq_iff_eq, Bool.and_true, decide_eq_true_eq, Bool.false_eq_true, if_true, if_false, bne_self_eq_false, and_self, Int.reduceEq, Int.reduceLT, Int.reduceNeg]
  unfold ck nan
  by_cases h : clkOk a b c d
  · simp only [h, if_true, if_pos, bnd, Option.some.injEq, AV.int.injEq, AV.bool.injEq, AV.agg.injEq, AV.tup.injEq, List.cons.injEq, true_and, and_true]
    unfold clkOk at h
    simp only [IntKind.wrap_i64]
    omega
  · simp [h]

theorem sp_ref08_Secs (n : Nat) (a b c d : Int) (h : clkOk a b c d) : CP C (n + 1) F_ref08_Secs [clk a b c d] = some (.int .i64 (3600 * a + 60 * b + c)) := by
  rw [eq_ref08_Secs]
  unfold R_ref08_Secs
  unfold clkOk at h
  simp only [bnd, IntKind.wrap_i64, Option.some.injEq, AV.int.injEq, AV.bool.injEq, AV.agg.injEq, AV.tup.injEq, List.cons.injEq, true_and, and_true]
  omega

def ofH (x : Int) : Int := if 0 ≤ x ∧ x < 86400000000000 then x / 3600000000000 else 0
def ofM (x : Int) : Int := if 0 ≤ x ∧ x < 86400000000000 then x / 60000000000 % 60 else 0
def ofS (x : Int) : Int := if 0 ≤ x ∧ x < 86400000000000 then x / 1000000000 % 60 else 0
def ofN (x : Int) : Int := if 0 ≤ x ∧ x < 86400000000000 then x % 1000000000 else 0
def ofE (x : Int) : Int := if 0 ≤ x ∧ x < 86400000000000 then 0 else 8

theorem sp_clock_Of (n : Nat) (x : Int) : CP C (n + 1) F_clock_Of [.int .i64 x] = some (.tup [clk (ofH x) (ofM x) (ofS x) (ofN x), .int .i64 (ofE x)]) := by
  rw [eq_clock_Of]
  unfold R_clock_Of ofH ofM ofS ofN ofE
  simp only [bnd, k_int, k_anyInt, k_bool, k_str, k_agg, k_tup, k_cons, k_nil, k_bind, ↓c_not, ↓c_bne, ite_cond, Bool.and_eq_true, Bool.or_eq_true, beq_iff_eq, Bool.and_true, decide_eq_true_eq, Bool.false_eq_true, if_true, if_false, bne_self_eq_false, and_self, Int.reduceEq, Int.reduceLT, Int.reduceNeg, i_some, i_int, i_bool, i_agg, i_tup, i_cons, i_self, Option.some.injEq, AV.int.injEq, AV.bool.injEq, AV.agg.injEq, AV.tup.injEq, List.cons.injEq, true_and, and_true, IntKind.wrap_i64, tdiv_pos, tmod_pos, Int.reduceLT]
  omega

theorem sp_ref08_OfSecs (n : Nat) (s d : Int) (h : 0 ≤ s ∧ s < 86400) : CP C (n + 1) F_ref08_OfSecs [.int .i64 s, .int .i64 d] = some (clk (s / 3600) (s / 60 % 60) (s % 60) d) := by
  rw [eq_ref08_OfSecs]
  unfold R_ref08_OfSecs
  simp only [k_int, k_anyInt, k_bool, k_str, k_agg, k_tup, k_cons, k_nil, k_bind, ↓c_not, ↓c_bne, ite_cond, Bool.and_eq_true, Bool.or_eq_true, beq_iff_eq, Bool.and_true, decide_eq_true_eq, Bool.false_eq_true, if_true, if_false, bne_self_eq_false, and_self, Int.reduceEq, Int.reduceLT, Int.reduceNeg, i_some, i_int, i_bool, i_agg, i_tup, i_cons, i_self, Option.some.injEq, AV.int.injEq, AV.bool.injEq, AV.agg.injEq, AV.tup.injEq, List.cons.injEq, true_and, and_true, IntKind.wrap_i64, tdiv_pos, tmod_pos, Int.reduceLT]
  omega

def sumT (a b c d s e : Int) : Int := nan a b c d + s * 1000000000 + e
def sumOk (a b c d s e : Int) : Prop := clkOk a b c d ∧ dE s e = 0
instance (a b c d s e : Int) : Decidable (sumOk a b c d s e) := by unfold sumOk; infer_instance
def sumX (a b c d s e : Int) : Int := if sumOk a b c d s e then sumT a b c d s e % 86400000000000 else 0
def sumD (a b c d s e : Int) : Int := if sumOk a b c d s e then sumT a b c d s e / 86400000000000 else 0
def sumE (a b c d s e : Int) : Int := if clkOk a b c d then dE s e else 5
abbrev sumV (a b c d s e : Int) : AV :=
  .tup [clk (ofH (sumX a b c d s e)) (ofM (sumX a b c d s e)) (ofS (sumX a b c d s e)) (ofN (sumX a b c d s e)), .int .i64 (sumD a b c d s e), .int .i64 (sumE a b c d s e)]

theorem dE_ok {s e : Int} (h : dE s e = 0) : (0 ≤ e ∧ e ≤ 999999999) ∧ -1099511627776 ≤ s ∧ s ≤ 1099511627776 := by
  unfold dE at h; omega

theorem add2_a (n m : Nat) (x y : Int) (h : 0 ≤ x ∧ x < 86400000000000) :
    J_clock_Add_2040 (CP C (n + 1)) (n + 1) (m + 1) x y = some (.tup [clk (ofH x) (ofM x) (ofS x) (ofN x), .int .i64 y, .int .i64 0]) := by
  have h1 : ¬ x ≥ 86400000000000 := by omega
  rw [Js_clock_Add_2040]
  unfold T_clock_Add_2040
  simp only [h1, decide_false, cond_false, sp_clock_Of, k_int, k_anyInt, k_bool, k_str, k_agg, k_tup, k_cons, k_nil, k_bind, ↓c_not, ↓c_bne, ite_cond, Bool.and_eq_true, Bool.or_eq_true, beq_iff_eq, Bool.and_true, decide_eq_true_eq, Bool.false_eq_true, if_true, if_false, bne_self_eq_false, and_self, Int.reduceEq, Int.reduceLT, Int.reduceNeg]
theorem add2_b (n m : Nat) (x y : Int) (h : 86400000000000 ≤ x ∧ x < 172800000000000) (hy : -1099511627776 ≤ y ∧ y ≤ 1099511627776) :
    J_clock_Add_2040 (CP C (n + 1)) (n + 1) (m + 2) x y = some (.tup [clk (ofH (x - 86400000000000)) (ofM (x - 86400000000000)) (ofS (x - 86400000000000)) (ofN (x - 86400000000000)), .int .i64 (y + 1), .int .i64 0]) := by
  have h1 : x ≥ 86400000000000 := by omega
  rw [Js_clock_Add_2040]
  unfold T_clock_Add_2040
  have e1 : IntKind.i64.wrap (x - 86400000000000) = x - 86400000000000 := by rw [IntKind.wrap_i64]; omega
  have e2 : IntKind.i64.wrap (y + 1) = y + 1 := by rw [IntKind.wrap_i64]; omega
  simp only [h1, decide_true, cond_true, e1, e2]
  exact add2_a n m _ _ (by omega)

theorem add1_a (n m : Nat) (x y : Int) (h : 0 ≤ x ∧ x < 172800000000000) (hy : -1099511627776 ≤ y ∧ y ≤ 1099511627776) :
    J_clock_Add_1016 (CP C (n + 1)) (n + 1) (m + 1) x y = some (.tup [clk (ofH (x % 86400000000000)) (ofM (x % 86400000000000)) (ofS (x % 86400000000000)) (ofN (x % 86400000000000)), .int .i64 (y + x / 86400000000000), .int .i64 0]) := by
  have h1 : ¬ x < 0 := by omega
  rw [Js_clock_Add_1016]
  unfold T_clock_Add_1016
  simp only [h1, decide_false, cond_false]
  by_cases h2 : x < 86400000000000
  · rw [show n + 1 + 300 = (n + 300) + 1 by omega, add2_a n _ x y (by omega)]
    rw [show x % 86400000000000 = x by omega, show y + x / 86400000000000 = y by omega]
  · rw [show n + 1 + 300 = (n + 299) + 2 by omega, add2_b n _ x y (by omega) hy]
    rw [show x % 86400000000000 = x - 86400000000000 by omega, show y + x / 86400000000000 = y + 1 by omega]

theorem add1_b (n m : Nat) (x y : Int) (h : -86400000000000 ≤ x ∧ x < 172800000000000) (hy : -1099511627775 ≤ y ∧ y ≤ 1099511627776) :
    J_clock_Add_1016 (CP C (n + 1)) (n + 1) (m + 2) x y = some (.tup [clk (ofH (x % 86400000000000)) (ofM (x % 86400000000000)) (ofS (x % 86400000000000)) (ofN (x % 86400000000000)), .int .i64 (y + x / 86400000000000), .int .i64 0]) := by
  by_cases h1 : x < 0
  · rw [Js_clock_Add_1016]
    unfold T_clock_Add_1016
    have e1 : IntKind.i64.wrap (x + 86400000000000) = x + 86400000000000 := by rw [IntKind.wrap_i64]; omega
    have e2 : IntKind.i64.wrap (y - 1) = y - 1 := by rw [IntKind.wrap_i64]; omega
    simp only [h1, decide_true, cond_true, e1, e2]
    rw [add1_a n m _ _ (by omega) (by omega)]
    rw [show (x + 86400000000000) % 86400000000000 = x % 86400000000000 by omega, show y - 1 + (x + 86400000000000) / 86400000000000 = y + x / 86400000000000 by omega]
  · exact add1_a n _ x y (by omega) (by omega)

theorem sp_clock_Add (n : Nat) (a b c d s e : Int) : CP C (n + 4) F_clock_Add [clk a b c d, ins s e] = some (sumV a b c d s e) := by
  rw [eq_clock_Add]
  unfold R_clock_Add T_clock_Add_1
  rw [sp_clock_Nanos, sp_dur_Check (n + 2)]
  unfold sumV sumX sumD sumE ck nanE sumOk
  by_cases h : clkOk a b c d
  · by_cases h2 : dE s e = 0
    · obtain ⟨he, hs⟩ := dE_ok h2
      have hn : 0 ≤ nan a b c d ∧ nan a b c d < 86400000000000 := by unfold nan; unfold clkOk at h; omega
      have e1 : IntKind.i64.wrap (nan a b c d + IntKind.i64.wrap (IntKind.i64.wrap (s.tmod 86400 * 1000000000) + e)) = nan a b c d + s.tmod 86400 * 1000000000 + e := by
        simp only [IntKind.wrap_i64, tdiv_pos, tmod_pos, Int.reduceLT]; omega
      have e2 : IntKind.i64.wrap (s.tdiv 86400) = s.tdiv 86400 := by simp only [IntKind.wrap_i64, tdiv_pos, tmod_pos, Int.reduceLT]; omega
      simp only [h, h2, if_true, if_pos, bnd, k_int, k_anyInt, k_bool, k_str, k_agg, k_tup, k_cons, k_nil, k_bind, ↓c_not, ↓c_bne, ite_cond, Bool.and_eq_true, Bool.or_eq_true, beq_iff_eq, Bool.and_true, decide_eq_true_eq, Bool.false_eq_true, if_true, if_false, bne_self_eq_false, and_self, Int.reduceEq, Int.reduceLT, Int.reduceNeg, e1, e2, and_self]
      rw [show n + 3 + 300 = (n + 301) + 2 by omega, add1_b (n + 2) _ _ _ (by simp only [IntKind.wrap_i64, tdiv_pos, tmod_pos, Int.reduceLT]; omega) (by simp only [IntKind.wrap_i64, tdiv_pos, tmod_pos, Int.reduceLT]; omega)]
      have e3 : (nan a b c d + s.tmod 86400 * 1000000000 + e) % 86400000000000 = sumT a b c d s e % 86400000000000 := by
        unfold sumT; simp only [IntKind.wrap_i64, tdiv_pos, tmod_pos, Int.reduceLT]; omega
      have e4 : s.tdiv 86400 + (nan a b c d + s.tmod 86400 * 1000000000 + e) / 86400000000000 = sumT a b c d s e / 86400000000000 := by
        unfold sumT; simp only [IntKind.wrap_i64, tdiv_pos, tmod_pos, Int.reduceLT]; omega
      rw [e3, e4]
    · simp only [k_int, k_anyInt, k_bool, k_str, k_agg, k_tup, k_cons, k_nil, k_bind, ↓c_not, ↓c_bne, ite_cond, Bool.and_eq_true, Bool.or_eq_true, beq_iff_eq, Bool.and_true, decide_eq_true_eq, Bool.false_eq_true, if_true, if_false, bne_self_eq_false, and_self, Int.reduceEq, Int.reduceLT, Int.reduceNeg]
      simp [h, h2, ofH, ofM, ofS, ofN]
  · simp only [k_int, k_anyInt, k_bool, k_str, k_agg, k_tup, k_cons, k_nil, k_bind, ↓c_not, ↓c_bne, ite_cond, Bool.and_eq_true, Bool.or_eq_true, beq_iff_eq, Bool.and_true, decide_eq_true_eq, Bool.false_eq_true, if_true, if_false, bne_self_eq_false, and_self, Int.reduceEq, Int.reduceLT, Int.reduceNeg]
    simp [h, ofH, ofM, ofS, ofN]

end Go.Proofs.Ytlikncnaoafdjaa.Sim.S
