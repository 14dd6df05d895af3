/- Instants and durations as numbers of nanoseconds. Condition: none beyond what each theorem says. -/
import Derived.Test.YtiamacidfgkdkaaSpecWide
set_option linter.unusedSimpArgs false
set_option linter.unusedVariables false
namespace Go.Proofs.Ytiamacidfgkdkaa.Sim.S
open Go

abbrev ins (s n : Int) : AV := .agg [.int .i64 s, .int .i64 n]
def iE (s n : Int) : Int := if n < 0 ∨ n ≥ 1000000000 then 5 else if s < -377705116800 ∨ s > 253402300799 then 8 else 0
/-- What a number of nanoseconds is as an instant: seconds, nanoseconds, error. -/
def qin (z : Int) : Prop := -377705116800 ≤ z / 1000000000 ∧ z / 1000000000 ≤ 253402300799
instance (z : Int) : Decidable (qin z) := by unfold qin; infer_instance
def qS (z : Int) : Int := if qin z then z / 1000000000 else 0
def qN (z : Int) : Int := if qin z then z % 1000000000 else 0
def qE (z : Int) : Int := if qin z then 0 else 8
abbrev insV (z : Int) : AV := .tup [ins (qS z) (qN z), .int .i64 (qE z)]

theorem sp_ref03_Wide (n : Nat) (s x : Int) (hs : -9223372036854775808 ≤ s ∧ s ≤ 9223372036854775807) (hx : -9223372036854775808 ≤ x ∧ x ≤ 9223372036854775807) :
    CP C (n + 4) F_ref03_Wide [.int .i64 s, .int .i64 x] = some (wI (s * 1000000000 + x)) := by
  rw [eq_ref03_Wide]
  unfold R_ref03_Wide
  rw [sp_ref02_Amount (n + 2) s hs]
  simp only [k_bind, k_int]
  have fm := sp_ref01_Mul (n + 1) s.natAbs 1000000000 (by omega) (by omega)
  rw [show ((1000000000 : Nat) : Int) = 1000000000 from rfl] at fm
  rw [fm, wI_of _ (by omega)]
  simp only [k_bind, k_agg, k_cons, k_int, k_nil]
  by_cases g : s < 0
  · rw [decide_eq_true g, cond_true, sg_ref01_Neg n]
    simp only [k_bind, k_agg, k_cons, k_int, k_nil]
    rw [sp_ref01_Of (n + 2) x hx]
    simp only [k_bind, k_agg, k_cons, k_int, k_nil]
    rw [sg_ref01_Add (n + 1)]
    simp only [k_bind, k_agg, k_tup, k_bool, k_cons, k_int, k_nil]
    rw [show -((s.natAbs * 1000000000 : Nat) : Int) + x = s * 1000000000 + x by omega]
  · rw [decide_eq_false g, cond_false]
    rw [sp_ref01_Of (n + 2) x hx]
    simp only [k_bind, k_agg, k_cons, k_int, k_nil]
    rw [sg_ref01_Add (n + 1)]
    simp only [k_bind, k_agg, k_tup, k_bool, k_cons, k_int, k_nil]
    rw [show ((s.natAbs * 1000000000 : Nat) : Int) + x = s * 1000000000 + x by omega]
theorem sp_instant_Check (k : Nat) (s n : Int) : CP C (k + 1) F_instant_Check [ins s n] = some (.int .i64 (iE s n)) := by
  rw [eq_instant_Check]
  unfold R_instant_Check iE
  simp only [k_int, k_anyInt, k_bool, k_str, k_agg, k_tup, k_cons, k_nil, k_bind, ↓c_not, ↓c_bne, ite_cond, Bool.and_eq_true, Bool.or_eq_true, beq_iff_eq, Bool.and_true, decide_eq_true_eq, Bool.false_eq_true, if_true, if_false, bne_self_eq_false, and_self, Int.reduceEq, Int.reduceLT, Int.reduceNeg, i_some, i_int, i_bool, i_agg, i_tup, i_cons, i_self, Option.some.injEq, AV.int.injEq, AV.bool.injEq, AV.agg.injEq, AV.tup.injEq, List.cons.injEq, true_and, and_true]
  omega
theorem sp_ref03_Check (k : Nat) (s n : Int) : CP C (k + 1) F_ref03_Check [ins s n] = some (.int .i64 (iE s n)) := by
  rw [eq_ref03_Check]
  unfold R_ref03_Check iE
  simp only [k_int, k_anyInt, k_bool, k_str, k_agg, k_tup, k_cons, k_nil, k_bind, ↓c_not, ↓c_bne, ite_cond, Bool.and_eq_true, Bool.or_eq_true, beq_iff_eq, Bool.and_true, decide_eq_true_eq, Bool.false_eq_true, if_true, if_false, bne_self_eq_false, and_self, Int.reduceEq, Int.reduceLT, Int.reduceNeg, i_some, i_int, i_bool, i_agg, i_tup, i_cons, i_self, Option.some.injEq, AV.int.injEq, AV.bool.injEq, AV.agg.injEq, AV.tup.injEq, List.cons.injEq, true_and, and_true]
  omega

theorem new_core (k : Nat) (s n o : Int) (ho : o = n / 1000000000) (hn : -9223372036854775808 ≤ n ∧ n ≤ 9223372036854775807) (hs : -1477216744576 ≤ s ∧ s ≤ 1352913928575) :
    ((CP C (k + 1) F_instant_Check [ins (s + o) (n - o * 1000000000)]).bind fun r3 => (AV.intK .i64 r3 fun i4 => (cond (i4 != 0) (some (.tup [ins 0 0, .int .i64 i4])) (some (.tup [ins (s + o) (n - o * 1000000000), .int .i64 0]))))) = some (insV (s * 1000000000 + n)) := by
  rw [sp_instant_Check]
  simp only [k_int, k_anyInt, k_bool, k_str, k_agg, k_tup, k_cons, k_nil, k_bind, ↓c_not, ↓c_bne, ite_cond, Bool.and_eq_true, Bool.or_eq_true, beq_iff_eq, Bool.and_true, decide_eq_true_eq, Bool.false_eq_true, if_true, if_false, bne_self_eq_false, and_self, Int.reduceEq, Int.reduceLT, Int.reduceNeg]
  have e1 : (s * 1000000000 + n) / 1000000000 = s + o := by omega
  have e2 : (s * 1000000000 + n) % 1000000000 = n - o * 1000000000 := by omega
  by_cases g : qin (s * 1000000000 + n)
  · have g2 := g
    unfold qin at g2
    rw [e1] at g2
    have hE : iE (s + o) (n - o * 1000000000) = 0 := by unfold iE; omega
    rw [hE, if_pos rfl]
    unfold insV qS qN qE
    rw [if_pos g, if_pos g, if_pos g, e1, e2]
  · have g2 := g
    unfold qin at g2
    rw [e1] at g2
    have hE : iE (s + o) (n - o * 1000000000) = 8 := by unfold iE; omega
    rw [hE, if_neg (by decide)]
    unfold insV qS qN qE
    rw [if_neg g, if_neg g, if_neg g]
theorem sp_instant_New (k : Nat) (s n : Int) (hs : -9223372036854775808 ≤ s ∧ s ≤ 9223372036854775807) (hn : -9223372036854775808 ≤ n ∧ n ≤ 9223372036854775807) :
    CP C (k + 2) F_instant_New [.int .i64 s, .int .i64 n] = some (insV (s * 1000000000 + n)) := by
  rw [eq_instant_New]
  unfold R_instant_New
  have far : ∀ h : s > 1352913928575 ∨ s < -1477216744576, insV (s * 1000000000 + n) = .tup [ins 0 0, .int .i64 8] := by
    intro h
    have : ¬ qin (s * 1000000000 + n) := by unfold qin; omega
    unfold insV qS qN qE
    rw [if_neg this, if_neg this, if_neg this]
  by_cases g : Int.tmod n 1000000000 < 0
  · have e1 : IntKind.i64.wrap (IntKind.i64.wrap (Int.tdiv n 1000000000) - 1) = n / 1000000000 := by simp only [IntKind.wrap_i64, tdiv_pos, tmod_pos, Int.reduceLT] at g ⊢; omega
    rw [decide_eq_true g, cond_true, bnd_eq _ e1]
    by_cases g1 : s > 1352913928575
    · rw [decide_eq_true g1, cond_true, far (.inl g1)]
    rw [decide_eq_false g1, cond_false]
    by_cases g2 : s < -1477216744576
    · rw [decide_eq_true g2, cond_true, far (.inr g2)]
    rw [decide_eq_false g2, cond_false]
    rw [bnd_eq _ (show _ = n - n / 1000000000 * 1000000000 by simp only [IntKind.wrap_i64]; omega), w64 (by omega)]
    exact new_core k s n _ rfl hn (by omega)
  · have e1 : IntKind.i64.wrap (Int.tdiv n 1000000000) = n / 1000000000 := by simp only [IntKind.wrap_i64, tdiv_pos, tmod_pos, Int.reduceLT] at g ⊢; omega
    have g' : 0 ≤ n ∨ n % 1000000000 = 0 := by simp only [IntKind.wrap_i64, tdiv_pos, tmod_pos, Int.reduceLT] at g; omega
    rw [decide_eq_false g, cond_false, e1]
    by_cases g1 : s > 1352913928575
    · rw [decide_eq_true g1, cond_true, far (.inl g1)]
    rw [decide_eq_false g1, cond_false]
    by_cases g2 : s < -1477216744576
    · rw [decide_eq_true g2, cond_true, far (.inr g2)]
    rw [decide_eq_false g2, cond_false]
    rw [bnd_eq _ (show _ = s + n / 1000000000 by rw [w64 (by omega)]), bnd_eq _ (show _ = n / 1000000000 * 1000000000 by rw [w64 (by omega)]), w64 (by omega)]
    exact new_core k s n _ rfl hn (by omega)


theorem sp_Parts (k : Nat) (z : Int) (h : -170141183460469231731687303715884105728 ≤ z ∧ z < 170141183460469231731687303715884105728) :
    CP C (k + 5) F_ref03_Parts [wI z] = some (.tup [.int .i64 (if -9223372036854775808 ≤ z / 1000000000 ∧ z / 1000000000 ≤ 9223372036854775807 then z / 1000000000 else 0), .int .i64 (z % 1000000000), .bool (decide (-9223372036854775808 ≤ z / 1000000000 ∧ z / 1000000000 ≤ 9223372036854775807))]) := by
  rw [eq_ref03_Parts]
  unfold R_ref03_Parts
  rw [sp_ref02_Floor k z 1000000000 h (by omega)]
  simp only [k_bind, k_tup, k_agg, k_cons, k_int, k_nil]
  rw [sp_ref01_Int (k + 2) (z / 1000000000) (by omega)]
  simp only [k_bind, k_tup, k_agg, k_cons, k_int, k_nil]
  by_cases g : -9223372036854775808 ≤ z / 1000000000 ∧ z / 1000000000 ≤ 9223372036854775807
  · rw [if_pos g, if_pos g, decide_eq_true g]; rfl
  · rw [if_neg g, if_neg g, decide_eq_false g]; rfl
theorem sp_instant (k : Nat) (z : Int) (h : -170141183460469231731687303715884105728 ≤ z ∧ z < 170141183460469231731687303715884105728) : CP C (k + 6) F_ref03_instant [wI z] = some (insV z) := by
  rw [eq_ref03_instant]
  unfold R_ref03_instant
  rw [sp_Parts k z h]
  simp only [k_bind, k_tup, k_agg, k_cons, k_int, k_nil, k_bool, ↓c_not]
  unfold insV qS qN qE
  by_cases g : -9223372036854775808 ≤ z / 1000000000 ∧ z / 1000000000 ≤ 9223372036854775807
  · rw [decide_eq_true g, cond_true, if_pos g]
    by_cases g1 : z / 1000000000 < -377705116800
    · have : ¬ qin z := by unfold qin; omega
      rw [decide_eq_true g1, cond_true, if_neg this, if_neg this, if_neg this]
    rw [decide_eq_false g1, cond_false]
    by_cases g2 : z / 1000000000 > 253402300799
    · have : ¬ qin z := by unfold qin; omega
      rw [decide_eq_true g2, cond_true, if_neg this, if_neg this, if_neg this]
    have : qin z := by unfold qin; omega
    rw [decide_eq_false g2, cond_false, if_pos this, if_pos this, if_pos this]
  · have : ¬ qin z := by unfold qin; omega
    rw [decide_eq_false g, cond_false, if_neg this, if_neg this, if_neg this]
/-- The least error of two. -/
def lst (a b : Int) : Int := if a = 0 ∨ (b ≠ 0 ∧ b < a) then b else a
theorem lst_zero {a b : Int} (h : lst a b = 0) : a = 0 ∧ b = 0 := by unfold lst at h; omega
theorem first_err (a b : Int) (A : Int → Option AV) (Q : Option AV) (h : lst a b ≠ 0) :
    (cond (a != 0) (cond (b != 0) (cond (a == 0) (cond (b != 0) (A b) Q) (cond (decide (b < a)) (cond (b != 0) (A b) Q) (cond (a != 0) (A a) Q))) (cond (a != 0) (A a) Q)) (cond (b != 0) (cond (b != 0) (A b) Q) Q)) = A (lst a b) := by
  unfold lst at h ⊢
  by_cases c1 : a = 0
  · subst c1
    have c2 : b ≠ 0 := by simpa using h
    have e : (b != 0) = true := bne_iff_ne.2 c2
    rw [e, if_pos (.inl rfl)]; rfl
  · have e1 : (a != 0) = true := bne_iff_ne.2 c1
    have e2 : (a == 0) = false := beq_eq_false_iff_ne.2 c1
    rw [e1, e2, cond_true, cond_false, cond_true]
    by_cases c2 : b = 0
    · subst c2
      rw [if_neg (by omega)]; rfl
    · have e : (b != 0) = true := bne_iff_ne.2 c2
      rw [e, cond_true, cond_true]
      by_cases c3 : b < a
      · rw [decide_eq_true c3, cond_true, if_pos (.inr ⟨c2, c3⟩)]
      · rw [decide_eq_false c3, cond_false, if_neg (by omega)]
/-- What is wrong with a duration. -/
def dE (s n : Int) : Int := if n < 0 ∨ n ≥ 1000000000 then 5 else if s < -1099511627776 ∨ s > 1099511627776 ∨ (s = 1099511627776 ∧ n > 0) then 8 else 0
/-- An error, or else the instant of a number. -/
def eS (e z : Int) : Int := if e ≠ 0 then 0 else qS z
def eN (e z : Int) : Int := if e ≠ 0 then 0 else qN z
def eE (e z : Int) : Int := if e ≠ 0 then e else qE z
abbrev errV (e z : Int) : AV := .tup [ins (eS e z) (eN e z), .int .i64 (eE e z)]
theorem errV_err {e : Int} (z : Int) (h : e ≠ 0) : errV e z = .tup [ins 0 0, .int .i64 e] := by unfold errV eS eN eE; rw [if_pos h, if_pos h, if_pos h]
theorem errV_ok {e : Int} (z : Int) (h : e = 0) : errV e z = insV z := by unfold errV eS eN eE; rw [if_neg (by omega), if_neg (by omega), if_neg (by omega)]
/-- The duration between two instants. -/
def fS (e z : Int) : Int := if e ≠ 0 then 0 else z / 1000000000
def fN (e z : Int) : Int := if e ≠ 0 then 0 else z % 1000000000
abbrev betV (e z : Int) : AV := .tup [ins (fS e z) (fN e z), .int .i64 e]
theorem betV_err {e : Int} (z : Int) (h : e ≠ 0) : betV e z = .tup [ins 0 0, .int .i64 e] := by unfold betV fS fN; rw [if_pos h, if_pos h]
theorem betV_ok {e : Int} (z : Int) (h : e = 0) : betV e z = .tup [ins (z / 1000000000) (z % 1000000000), .int .i64 0] := by unfold betV fS fN; rw [if_neg (by omega), if_neg (by omega), h]
theorem sp_ref03_CheckDur (k : Nat) (s n : Int) : CP C (k + 1) F_ref03_CheckDur [ins s n] = some (.int .i64 (dE s n)) := by
  rw [eq_ref03_CheckDur]
  unfold R_ref03_CheckDur dE
  simp only [k_int, k_anyInt, k_bool, k_str, k_agg, k_tup, k_cons, k_nil, k_bind, ↓c_not, ↓c_bne, ite_cond, Bool.and_eq_true, Bool.or_eq_true, beq_iff_eq, Bool.and_true, decide_eq_true_eq, Bool.false_eq_true, if_true, if_false, bne_self_eq_false, and_self, Int.reduceEq, Int.reduceLT, Int.reduceNeg, i_some, i_int, i_bool, i_agg, i_tup, i_cons, i_self, Option.some.injEq, AV.int.injEq, AV.bool.injEq, AV.agg.injEq, AV.tup.injEq, List.cons.injEq, true_and, and_true]
  omega
def cmp1 (a b : Int) : Int := if a < b then -1 else if a > b then 1 else 0
def cmp2 (s n t m : Int) : Int := if s ≠ t then cmp1 s t else cmp1 n m
theorem sp_isNaN (n : Nat) (a : Int) : CP C (n + 1) F_cmp_isNaN_int [.int .i64 a] = some (.bool false) := by
  rw [eq_cmp_isNaN_int]
  unfold R_cmp_isNaN_int
  simp
theorem sp_Compare (n : Nat) (a b : Int) : CP C (n + 2) F_cmp_Compare_int [.int .i64 a, .int .i64 b] = some (.int .i64 (cmp1 a b)) := by
  rw [eq_cmp_Compare_int]
  unfold R_cmp_Compare_int
  rw [sp_isNaN, sp_isNaN]
  unfold cmp1
  simp only [k_int, k_anyInt, k_bool, k_str, k_agg, k_tup, k_cons, k_nil, k_bind, ↓c_not, ↓c_bne, ite_cond, Bool.and_eq_true, Bool.or_eq_true, beq_iff_eq, Bool.and_true, decide_eq_true_eq, Bool.false_eq_true, if_true, if_false, bne_self_eq_false, and_self, Int.reduceEq, Int.reduceLT, Int.reduceNeg, i_some, i_int, i_bool, i_agg, i_tup, i_cons, i_self, Option.some.injEq, AV.int.injEq, AV.bool.injEq, AV.agg.injEq, AV.tup.injEq, List.cons.injEq, true_and, and_true, cond_false]
end Go.Proofs.Ytiamacidfgkdkaa.Sim.S
