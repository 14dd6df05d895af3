/- Instants and durations as numbers of nanoseconds. Condition: none beyond what each theorem says. -/
import Derived.Test.YtlikncnaoafdjaaSpecWide
set_option linter.unusedSimpArgs false
set_option linter.unusedVariables false
namespace Go.Proofs.Ytlikncnaoafdjaa.Sim.S
open Go

abbrev ins (s n : Int) : AV := .agg [.int .i64 s, .int .i64 n]
def iE (s n : Int) : Int := if n < 0 ∨ n ≥ 1000000000 then 5 else if s < -377705116800 ∨ s > 253402300799 then 8 else 0
/-- What a number of nanoseconds is as an instant: seconds, nanoseconds, error. -/
def qin (z : Int) : Prop := -377705116800 ≤ z / 1000000000 ∧ z / 1000000000 ≤ 253402300799
instance (z : Int) : Decidable (qin z) := by unfold qin; infer_instance
def qS (z : Int) : Int := if qin z then z / 1000000000 else 0
def qN (z : Int) : Int := if qin z then z % 1000000000 else 0
def qE (z : Int) : Int := if qin z then 0 else 8
abbrev insV (z : Int) : AV := .tup [ins (qS z) (qN z), .int .i64 (qE z)]

theorem sp_ref03_Wide (n : Nat) (s x : Int) (hs : -9223372036854775808 ≤ s ∧ s ≤ 9223372036854775807) (hx : -9223372036854775808 ≤ x ∧ x ≤ 9223372036854775807) :
    CP C (n + 4) F_ref03_Wide [.int .i64 s, .int .i64 x] = some (wI (s * 1000000000 + x)) := by
  rw [eq_ref03_Wide]
  unfold R_ref03_Wide
  rw [sp_ref02_Amount (n + 2) s hs]
  simp only [k_bind, k_int]
  have fm := sp_ref01_Mul (n + 1) s.natAbs 1000000000 (by omega) (by omega)
  rw [show ((1000000000 : Nat) : Int) = 1000000000 from rfl] at fm
  rw [fm, wI_of _ (by omega)]
  simp only [k_bind, k_agg, k_cons, k_int, k_nil]
  by_cases g : s < 0
  · rw [decide_eq_true g, cond_true, sg_ref01_Neg n]
    simp only [k_bind, k_agg, k_cons, k_int, k_nil]
    rw [sp_ref01_Of (n + 2) x hx]
    simp only [k_bind, k_agg, k_cons, k_int, k_nil]
    rw [sg_ref01_Add (n + 1)]
    simp only [k_bind, k_agg, k_tup, k_bool, k_cons, k_int, k_nil]
    rw [show -((s.natAbs * 1000000000 : Nat) : Int) + x = s * 1000000000 + x by omega]
  · rw [decide_eq_false g, cond_false]
    rw [sp_ref01_Of (n + 2) x hx]
    simp only [k_bind, k_agg, k_cons, k_int, k_nil]
    rw [sg_ref01_Add (n + 1)]
    simp only [k_bind, k_agg, k_tup, k_bool, k_cons, k_int, k_nil]
    rw [show ((s.natAbs * 1000000000 : Nat) : Int) + x = s * 1000000000 + x by omega]
theorem sp_ref03_Check (k : Nat) (s n : Int) : CP C (k + 1) F_ref03_Check [ins s n] = some (.int .i64 (iE s n)) := by
  rw [eq_ref03_Check]
  unfold R_ref03_Check iE
  simp only [k_int, k_anyInt, k_bool, k_str, k_agg, k_tup, k_cons, k_nil, k_bind, ↓c_not, ↓c_bne, ite_cond, Bool.and_eq_true, Bool.or_eq_true, beq_iff_eq, Bool.and_true, decide_eq_true_eq, Bool.false_eq_true, if_true, if_false, bne_self_eq_false, and_self, Int.reduceEq, Int.reduceLT, Int.reduceNeg, i_some, i_int, i_bool, i_agg, i_tup, i_cons, i_self, Option.some.injEq, AV.int.injEq, AV.bool.injEq, AV.agg.injEq, AV.tup.injEq, List.cons.injEq, true_and, and_true]
  omega

theorem sp_Parts (k : Nat) (z : Int) (h : -170141183460469231731687303715884105728 ≤ z ∧ z < 170141183460469231731687303715884105728) :
    CP C (k + 5) F_ref03_Parts [wI z] = some (.tup [.int .i64 (if -9223372036854775808 ≤ z / 1000000000 ∧ z / 1000000000 ≤ 9223372036854775807 then z / 1000000000 else 0), .int .i64 (z % 1000000000), .bool (decide (-9223372036854775808 ≤ z / 1000000000 ∧ z / 1000000000 ≤ 9223372036854775807))]) := by
  rw [eq_ref03_Parts]
  unfold R_ref03_Parts
  rw [sp_ref02_Floor k z 1000000000 h (by omega)]
  simp only [k_bind, k_tup, k_agg, k_cons, k_int, k_nil]
  rw [sp_ref01_Int (k + 2) (z / 1000000000) (by omega)]
  simp only [k_bind, k_tup, k_agg, k_cons, k_int, k_nil]
  by_cases g : -9223372036854775808 ≤ z / 1000000000 ∧ z / 1000000000 ≤ 9223372036854775807
  · rw [if_pos g, if_pos g, decide_eq_true g]; rfl
  · rw [if_neg g, if_neg g, decide_eq_false g]; rfl
theorem sp_instant (k : Nat) (z : Int) (h : -170141183460469231731687303715884105728 ≤ z ∧ z < 170141183460469231731687303715884105728) : CP C (k + 6) F_ref03_instant [wI z] = some (insV z) := by
  rw [eq_ref03_instant]
  unfold R_ref03_instant
  rw [sp_Parts k z h]
  simp only [k_bind, k_tup, k_agg, k_cons, k_int, k_nil, k_bool, ↓c_not]
  unfold insV qS qN qE
  by_cases g : -9223372036854775808 ≤ z / 1000000000 ∧ z / 1000000000 ≤ 9223372036854775807
  · rw [decide_eq_true g, cond_true, if_pos g]
    by_cases g1 : z / 1000000000 < -377705116800
    · have : ¬ qin z := by unfold qin; omega
      rw [decide_eq_true g1, cond_true, if_neg this, if_neg this, if_neg this]
    rw [decide_eq_false g1, cond_false]
    by_cases g2 : z / 1000000000 > 253402300799
    · have : ¬ qin z := by unfold qin; omega
      rw [decide_eq_true g2, cond_true, if_neg this, if_neg this, if_neg this]
    have : qin z := by unfold qin; omega
    rw [decide_eq_false g2, cond_false, if_pos this, if_pos this, if_pos this]
  · have : ¬ qin z := by unfold qin; omega
    rw [decide_eq_false g, cond_false, if_neg this, if_neg this, if_neg this]
/-- The least error of two. -/
def lst (a b : Int) : Int := if a = 0 ∨ (b ≠ 0 ∧ b < a) then b else a
theorem lst_zero {a b : Int} (h : lst a b = 0) : a = 0 ∧ b = 0 := by unfold lst at h; omega
theorem first_err (a b : Int) (A : Int → Option AV) (Q : Option AV) (h : lst a b ≠ 0) :
    (cond (a != 0) (cond (b != 0) (cond (a == 0) (cond (b != 0) (A b) Q) (cond (decide (b < a)) (cond (b != 0) (A b) Q) (cond (a != 0) (A a) Q))) (cond (a != 0) (A a) Q)) (cond (b != 0) (cond (b != 0) (A b) Q) Q)) = A (lst a b) := by
  unfold lst at h ⊢
  by_cases c1 : a = 0
  · subst c1
    have c2 : b ≠ 0 := by simpa using h
    have e : (b != 0) = true := bne_iff_ne.2 c2
    rw [e, if_pos (.inl rfl)]; rfl
  · have e1 : (a != 0) = true := bne_iff_ne.2 c1
    have e2 : (a == 0) = false := beq_eq_false_iff_ne.2 c1
    rw [e1, e2, cond_true, cond_false, cond_true]
    by_cases c2 : b = 0
    · subst c2
      rw [if_neg (by omega)]; rfl
    · have e : (b != 0) = true := bne_iff_ne.2 c2
      rw [e, cond_true, cond_true]
      by_cases c3 : b < a
      · rw [decide_eq_true c3, cond_true, if_pos (.inr ⟨c2, c3⟩)]
      · rw [decide_eq_false c3, cond_false, if_neg (by omega)]
/-- What is wrong with a duration. -/
def dE (s n : Int) : Int := if n < 0 ∨ n ≥ 1000000000 then 5 else if s < -1099511627776 ∨ s > 1099511627776 ∨ (s = 1099511627776 ∧ n > 0) then 8 else 0
/-- An error, or else the instant of a number. -/
def eS (e z : Int) : Int := if e ≠ 0 then 0 else qS z
def eN (e z : Int) : Int := if e ≠ 0 then 0 else qN z
def eE (e z : Int) : Int := if e ≠ 0 then e else qE z
abbrev errV (e z : Int) : AV := .tup [ins (eS e z) (eN e z), .int .i64 (eE e z)]
theorem errV_err {e : Int} (z : Int) (h : e ≠ 0) : errV e z = .tup [ins 0 0, .int .i64 e] := by unfold errV eS eN eE; rw [if_pos h, if_pos h, if_pos h]
theorem errV_ok {e : Int} (z : Int) (h : e = 0) : errV e z = insV z := by unfold errV eS eN eE; rw [if_neg (by omega), if_neg (by omega), if_neg (by omega)]
/-- The duration between two instants. -/
def fS (e z : Int) : Int := if e ≠ 0 then 0 else z / 1000000000
def fN (e z : Int) : Int := if e ≠ 0 then 0 else z % 1000000000
abbrev betV (e z : Int) : AV := .tup [ins (fS e z) (fN e z), .int .i64 e]
theorem betV_err {e : Int} (z : Int) (h : e ≠ 0) : betV e z = .tup [ins 0 0, .int .i64 e] := by unfold betV fS fN; rw [if_pos h, if_pos h]
theorem betV_ok {e : Int} (z : Int) (h : e = 0) : betV e z = .tup [ins (z / 1000000000) (z % 1000000000), .int .i64 0] := by unfold betV fS fN; rw [if_neg (by omega), if_neg (by omega), h]
theorem sp_ref03_CheckDur (k : Nat) (s n : Int) : CP C (k + 1) F_ref03_CheckDur [ins s n] = some (.int .i64 (dE s n)) := by
  rw [eq_ref03_CheckDur]
  unfold R_ref03_CheckDur dE
  simp only [k_int, k_anyInt, k_bool, k_str, k_agg, k_tup, k_cons, k_nil, k_bind, ↓c_not, ↓c_bne, ite_cond, Bool.and_eq_true, Bool.or_eq_true, beq_iff_eq, Bool.and_true, decide_eq_true_eq, Bool.false_eq_true, if_true, if_false, bne_self_eq_false, and_self, Int.reduceEq, Int.reduceLT, Int.reduceNeg, i_some, i_int, i_bool, i_agg, i_tup, i_cons, i_self, Option.some.injEq, AV.int.injEq, AV.bool.injEq, AV.agg.injEq, AV.tup.injEq, List.cons.injEq, true_and, and_true]
  omega
theorem sp_ref03_Add (k : Nat) (s n t m : Int) : CP C (k + 7) F_ref03_Add [ins s n, ins t m] = some (errV (lst (iE s n) (dE t m)) ((s * 1000000000 + n) + (t * 1000000000 + m))) := by
  rw [eq_ref03_Add]
  unfold R_ref03_Add T_ref03_Add_1
  rw [sp_ref03_Check, sp_ref03_CheckDur]
  simp only [k_bind, k_int]
  by_cases h : lst (iE s n) (dE t m) = 0
  · have h1 : iE s n = 0 := (lst_zero h).1
    have h2 : dE t m = 0 := (lst_zero h).2
    rw [errV_ok _ h, h1, h2]
    unfold iE at h1
    unfold dE at h2
    rw [show ((0 : Int) != 0) = false from rfl, cond_false, cond_false]
    unfold J_ref03_Add_7 T_ref03_Add_7
    rw [sp_ref03_Wide (k + 2) s n (by omega) (by omega), sp_ref03_Wide (k + 2) t m (by omega) (by omega)]
    simp only [k_bind, k_tup, k_agg, k_cons, k_int, k_nil]
    rw [sg_ref01_Add]
    simp only [k_bind, k_tup, k_agg, k_cons, k_int, k_nil, k_bool]
    rw [sp_instant k _ (by omega)]
    simp only [k_bind, k_tup, k_agg, k_cons, k_int, k_nil]
  · rw [errV_err _ h]
    generalize iE s n = a at *
    generalize dE t m = b at *
    generalize J_ref03_Add_7 (CP C (k + 6)) (k + 6) s n t m = Q
    exact first_err a b (fun e => some (.tup [.agg [.int .i64 0, .int .i64 0], .int .i64 e])) Q h
theorem sp_ref03_Sub (k : Nat) (s n t m : Int) : CP C (k + 6) F_ref03_Sub [ins s n, ins t m] = some (betV (lst (iE s n) (iE t m)) ((s * 1000000000 + n) - (t * 1000000000 + m))) := by
  rw [eq_ref03_Sub]
  unfold R_ref03_Sub T_ref03_Sub_1
  rw [sp_ref03_Check, sp_ref03_Check]
  simp only [k_bind, k_int]
  by_cases h : lst (iE s n) (iE t m) = 0
  · have h1 : iE s n = 0 := (lst_zero h).1
    have h2 : iE t m = 0 := (lst_zero h).2
    rw [betV_ok _ h, h1, h2]
    unfold iE at h1 h2
    rw [show ((0 : Int) != 0) = false from rfl, cond_false, cond_false]
    unfold J_ref03_Sub_7 T_ref03_Sub_7
    rw [sp_ref03_Wide (k + 1) s n (by omega) (by omega), sp_ref03_Wide (k + 1) t m (by omega) (by omega)]
    simp only [k_bind, k_tup, k_agg, k_cons, k_int, k_nil]
    rw [sg_ref01_Sub]
    simp only [k_bind, k_tup, k_agg, k_cons, k_int, k_nil, k_bool]
    rw [sp_Parts k _ (by omega)]
    simp only [k_bind, k_tup, k_agg, k_cons, k_int, k_nil, k_bool]
    rw [if_pos (by omega)]
  · rw [betV_err _ h]
    generalize iE s n = a at *
    generalize iE t m = b at *
    generalize J_ref03_Sub_7 (CP C (k + 5)) (k + 5) s n t m = Q
    exact first_err a b (fun e => some (.tup [.agg [.int .i64 0, .int .i64 0], .int .i64 e])) Q h
def cmp1 (a b : Int) : Int := if a < b then -1 else if a > b then 1 else 0
def cmp2 (s n t m : Int) : Int := if s ≠ t then cmp1 s t else cmp1 n m
theorem sp_isNaN (n : Nat) (a : Int) : CP C (n + 1) F_cmp_isNaN_int [.int .i64 a] = some (.bool false) := by
  rw [eq_cmp_isNaN_int]
  unfold R_cmp_isNaN_int
  simp
theorem sp_Compare (n : Nat) (a b : Int) : CP C (n + 2) F_cmp_Compare_int [.int .i64 a, .int .i64 b] = some (.int .i64 (cmp1 a b)) := by
  rw [eq_cmp_Compare_int]
  unfold R_cmp_Compare_int
  rw [sp_isNaN, sp_isNaN]
  unfold cmp1
  simp only [k_int, k_anyInt, k_bool, k_str, k_agg, k_tup, k_cons, k_nil, k_bind, ↓c_not, ↓c_bne, ite_cond, Bool.and_eq_true, Bool.or_eq_true, beq_iff_eq, Bool.and_true, decide_eq_true_eq, Bool.false_eq_true, if_true, if_false, bne_self_eq_false, and_self, Int.reduceEq, Int.reduceLT, Int.reduceNeg, i_some, i_int, i_bool, i_agg, i_tup, i_cons, i_self, Option.some.injEq, AV.int.injEq, AV.bool.injEq, AV.agg.injEq, AV.tup.injEq, List.cons.injEq, true_and, and_true, cond_false]
theorem sp_ref03_order (k : Nat) (a b : Int) : CP C (k + 1) F_ref03_order [.int .i64 a, .int .i64 b] = some (.int .i64 (cmp1 a b)) := by
  rw [eq_ref03_order]
  unfold R_ref03_order cmp1
  simp only [k_int, k_anyInt, k_bool, k_str, k_agg, k_tup, k_cons, k_nil, k_bind, ↓c_not, ↓c_bne, ite_cond, Bool.and_eq_true, Bool.or_eq_true, beq_iff_eq, Bool.and_true, decide_eq_true_eq, Bool.false_eq_true, if_true, if_false, bne_self_eq_false, and_self, Int.reduceEq, Int.reduceLT, Int.reduceNeg, i_some, i_int, i_bool, i_agg, i_tup, i_cons, i_self, Option.some.injEq, AV.int.injEq, AV.bool.injEq, AV.agg.injEq, AV.tup.injEq, List.cons.injEq, true_and, and_true]
theorem sp_ref03_Cmp (k : Nat) (s n t m : Int) : CP C (k + 2) F_ref03_Cmp [ins s n, ins t m] = some (.int .i64 (cmp2 s n t m)) := by
  rw [eq_ref03_Cmp]
  unfold R_ref03_Cmp
  rw [sp_ref03_order, sp_ref03_order]
  simp only [k_int, k_anyInt, k_bool, k_str, k_agg, k_tup, k_cons, k_nil, k_bind, ↓c_not, ↓c_bne, ite_cond, Bool.and_eq_true, Bool.or_eq_true, beq_iff_eq, Bool.and_true, decide_eq_true_eq, Bool.false_eq_true, if_true, if_false, bne_self_eq_false, and_self, Int.reduceEq, Int.reduceLT, Int.reduceNeg, i_some, i_int, i_bool, i_agg, i_tup, i_cons, i_self, Option.some.injEq, AV.int.injEq, AV.bool.injEq, AV.agg.injEq, AV.tup.injEq, List.cons.injEq, true_and, and_true]
  unfold cmp2 cmp1
  omega
end Go.Proofs.Ytlikncnaoafdjaa.Sim.S
