/- What periods are reckoned to. Condition: none beyond what each theorem says. -/
import Derived.Test.YtceigcoipifloaaSpecPeriod
import Derived.Test.YtceigcoipifloaaSpecChk
set_option linter.unusedSimpArgs false
set_option linter.unusedVariables false
namespace Go.Proofs.Ytceigcoipifloaa.Sim.S
open Go

def pv (e x : Int) : Int := if e = 0 then x else 0
abbrev perV (e a b c : Int) : AV := .tup [per (pv e a) (pv e b) (pv e c), .int .i64 e]
theorem perV_err {e : Int} (a b c : Int) (h : e ≠ 0) : perV e a b c = .tup [per 0 0 0, .int .i64 e] := by unfold perV pv; rw [if_neg h, if_neg h, if_neg h]
theorem perV_ok {e : Int} (a b c : Int) (h : e = 0) : perV e a b c = .tup [per a b c, .int .i64 0] := by unfold perV pv; rw [if_pos h, if_pos h, if_pos h, h]
theorem pE_8 {a b c : Int} (h : ¬ pE a b c = 0) : pE a b c = 8 := by unfold pE at h ⊢; omega
def pwE (e a b c : Int) : Int := if e ≠ 0 then e else pE a b c
theorem sp_period_whole (k : Nat) (a b c e : Int) : CP C (k + 2) F_period_whole [per a b c, .int .i64 e] = some (perV (pwE e a b c) a b c) := by
  rw [eq_period_whole]
  unfold R_period_whole
  rw [sp_period_in k, sp_period_in k, sp_period_in k]
  simp only [k_bind, k_tup, k_agg, k_cons, k_int, k_nil]
  by_cases he : e = 0
  · subst he
    rw [show pwE 0 a b c = pE a b c from rfl, show ((0 : Int) == 0) = true from rfl, cond_true]
    rcases pin_eq a with h | h
    · rcases pin_eq b with h2 | h2
      · rcases pin_eq c with h3 | h3
        · have : pE a b c = 0 := by unfold pE; rw [h, h2, h3]; rfl
          rw [perV_ok _ _ _ this, h, h2, h3]; rfl
        · have : pE a b c = 8 := by unfold pE; omega
          rw [perV_err _ _ _ (by omega), this, h, h2, h3]; rfl
      · have : pE a b c = 8 := by unfold pE; omega
        rw [perV_err _ _ _ (by omega), this, h, h2]; rfl
    · have : pE a b c = 8 := by unfold pE; omega
      rw [perV_err _ _ _ (by omega), this, h]; rfl
  · have : pwE e a b c = e := by unfold pwE; rw [if_pos he]
    rw [this, perV_err _ _ _ he, show (e == 0) = false from beq_eq_false_iff_ne.2 he, cond_false, show (e != 0) = true from bne_iff_ne.2 he, cond_true]
def paE (a b c x y z : Int) : Int := if pE a b c = 0 ∧ pE x y z = 0 then pE (a + x) (b + y) (c + z) else 8
def pmE (a b c n : Int) : Int := if pE a b c = 0 then pE (a * n) (b * n) (c * n) else 8
def pbE (a b c : Int) : Int := if pE a b c = 0 then pE (Int.tdiv (12 * a + b) 12) (Int.tmod (12 * a + b) 12) c else 8
theorem sp_period_Balance (k : Nat) (a b c : Int) : CP C (k + 4) F_period_Balance [per a b c] = some (perV (pbE a b c) (Int.tdiv (12 * a + b) 12) (Int.tmod (12 * a + b) 12) c) := by
  rw [eq_period_Balance]
  unfold R_period_Balance
  rw [sp_period_Check (k + 1), sp_period_Months k]
  by_cases h : pE a b c = 0
  · have g := pE_zero.1 h
    rw [h, show pM a b c = 12 * a + b by unfold pM; rw [if_pos h]]
    simp only [k_bind, k_tup, k_agg, k_cons, k_int, k_nil]
    rw [show IntKind.i64.wrap (Int.tdiv (12 * a + b) 12) = Int.tdiv (12 * a + b) 12 by simp only [IntKind.wrap_i64, tdiv_pos, tmod_pos, Int.reduceLT]; omega, sp_period_whole (k + 1)]
    have e1 : pbE a b c = pE (Int.tdiv (12 * a + b) 12) (Int.tmod (12 * a + b) 12) c := by unfold pbE; rw [if_pos h]
    rw [e1]
    rfl
  · have e1 : pbE a b c = 8 := by unfold pbE; rw [if_neg h]
    rw [e1, perV_err _ _ _ (by decide), pE_8 h]; rfl
theorem sp_ref10_in (k : Nat) (v : Int) : CP C (k + 1) F_ref10_in [.int .i64 v] = some (.bool (decide (pin v = 0))) := by
  rw [eq_ref10_in]
  unfold R_ref10_in
  by_cases g : v ≥ -1000000
  · rw [decide_eq_true g, cond_true, show decide (v ≤ 1000000) = decide (pin v = 0) by rw [decide_eq_decide]; unfold pin; omega]
  · rw [decide_eq_false g, cond_false, show decide (pin v = 0) = false by rw [decide_eq_false_iff_not]; unfold pin; omega]
theorem sp_ref10_Check (k : Nat) (a b c : Int) : CP C (k + 2) F_ref10_Check [per a b c] = some (.int .i64 (pE a b c)) := by
  rw [eq_ref10_Check]
  unfold R_ref10_Check
  rw [sp_ref10_in k, sp_ref10_in k, sp_ref10_in k]
  simp only [k_bind, k_bool]
  unfold pE
  by_cases h : pin a = 0
  · rw [decide_eq_true h]
    by_cases h2 : pin b = 0
    · rw [decide_eq_true h2]
      by_cases h3 : pin c = 0
      · rw [decide_eq_true h3, if_pos ⟨h, h2, h3⟩]; rfl
      · rw [decide_eq_false h3, if_neg (by omega)]; rfl
    · rw [decide_eq_false h2, if_neg (by omega)]; rfl
  · rw [decide_eq_false h, if_neg (by omega)]; rfl
theorem sp_ref10_Months (k : Nat) (a b c : Int) : CP C (k + 3) F_ref10_Months [per a b c] = some (.int .i64 (pM a b c)) := by
  rw [eq_ref10_Months]
  unfold R_ref10_Months pM
  rw [sp_ref10_Check k]
  simp only [k_bind, k_int]
  by_cases h : pE a b c = 0
  · have h' := pE_zero.1 h
    rw [if_pos h, h, show ((0 : Int) != 0) = false from rfl, cond_false, show IntKind.i64.wrap (IntKind.i64.wrap (12 * a) + b) = 12 * a + b by (first | omega | (simp (disch := omega) only [w64, td_nn, tm_nn] <;> omega))]
  · rw [if_neg h, show (pE a b c != 0) = true from bne_iff_ne.2 h, cond_true]
end Go.Proofs.Ytceigcoipifloaa.Sim.S
