/- Months that are added. Condition: none beyond what each theorem says. -/
import Derived.Test.YtceigcoipifloaaSpecWide
import Derived.Test.YtceigcoipifloaaSpecCivil
import Derived.Test.YtceigcoipifloaaSpecPeriod
set_option linter.unusedSimpArgs false
set_option linter.unusedVariables false
namespace Go.Proofs.Ytceigcoipifloaa.Sim.S
open Go Civil

def fit (a : Int) : Prop := -9223372036854775808 ≤ a ∧ a ≤ 9223372036854775807
instance (a : Int) : Decidable (fit a) := by unfold fit; infer_instance
theorem sp_checked_Add (k : Nat) (a b : Int) (ha : -9223372036854775808 ≤ a ∧ a ≤ 9223372036854775807) (hb : -9223372036854775808 ≤ b ∧ b ≤ 9223372036854775807) :
    CP C (k + 1) F_checked_Add [.int .i64 a, .int .i64 b] = some (.tup [.int .i64 (if fit (a + b) then a + b else 0), .int .i64 (if fit (a + b) then 0 else 8)]) := by
  rw [eq_checked_Add]
  unfold R_checked_Add
  by_cases g : fit (a + b)
  · have g' := g
    unfold fit at g'
    rw [if_pos g, if_pos g, w64 g']
    by_cases hb0 : b > 0
    · rw [decide_eq_true hb0, decide_eq_true (show a + b > a by omega)]; rfl
    · rw [decide_eq_false hb0, decide_eq_false (show ¬ a + b > a by omega)]; rfl
  · have g' := g
    unfold fit at g'
    rw [if_neg g, if_neg g, show (b != 0) = true by rw [bne_iff_ne]; omega]
    by_cases hb0 : b > 0
    · rw [decide_eq_true hb0, decide_eq_false (show ¬ IntKind.i64.wrap (a + b) > a by rw [IntKind.wrap_i64]; omega)]; rfl
    · rw [decide_eq_false hb0, decide_eq_true (show IntKind.i64.wrap (a + b) > a by rw [IntKind.wrap_i64]; omega)]; rfl
theorem sp_checked_FloorDiv12 (k : Nat) (a : Int) (ha : -9223372036854775808 ≤ a ∧ a ≤ 9223372036854775807) :
    CP C (k + 1) F_checked_FloorDiv [.int .i64 a, .int .i64 12] = some (.tup [.int .i64 (a / 12), .int .i64 0]) := by
  rw [eq_checked_FloorDiv]
  unfold R_checked_FloorDiv
  rw [show ((12 : Int) == 0) = false from rfl, cond_false, show ((12 : Int) == -1) = false from rfl, cond_false, show decide ((12 : Int) = 0) = false from rfl, cond_false, cond_false, show decide ((12 : Int) < 0) = false from rfl, cond_false, cond_false]
  by_cases g : Int.tmod a 12 = 0
  · rw [g, show ((0 : Int) != 0) = false from rfl, cond_false, show IntKind.i64.wrap (Int.tdiv a 12) = a / 12 by simp only [IntKind.wrap_i64, tdiv_pos, tmod_pos, Int.reduceLT] at g ⊢; omega]
  · rw [show (Int.tmod a 12 != 0) = true from bne_iff_ne.2 g, cond_true]
    by_cases h : a < 0
    · rw [decide_eq_true h, cond_true, show IntKind.i64.wrap (IntKind.i64.wrap (Int.tdiv a 12) - 1) = a / 12 by simp only [IntKind.wrap_i64, tdiv_pos, tmod_pos, Int.reduceLT] at g ⊢; omega]
    · rw [decide_eq_false h, cond_false, show IntKind.i64.wrap (Int.tdiv a 12) = a / 12 by simp only [IntKind.wrap_i64, tdiv_pos, tmod_pos, Int.reduceLT] at g ⊢; omega]
theorem sp_checked_FloorMod12 (k : Nat) (a : Int) (ha : -9223372036854775808 ≤ a ∧ a ≤ 9223372036854775807) :
    CP C (k + 1) F_checked_FloorMod [.int .i64 a, .int .i64 12] = some (.tup [.int .i64 (a % 12), .int .i64 0]) := by
  rw [eq_checked_FloorMod]
  unfold R_checked_FloorMod
  rw [show ((12 : Int) == 0) = false from rfl, cond_false, show ((12 : Int) == -1) = false from rfl, cond_false, show decide ((12 : Int) = 0) = false from rfl, cond_false, show decide ((12 : Int) < 0) = false from rfl, cond_false, cond_false]
  by_cases g : Int.tmod a 12 = 0
  · rw [g, show ((0 : Int) != 0) = false from rfl, cond_false, show a % 12 = 0 by simp only [IntKind.wrap_i64, tdiv_pos, tmod_pos, Int.reduceLT] at g; omega]
  · rw [show (Int.tmod a 12 != 0) = true from bne_iff_ne.2 g, cond_true]
    by_cases h : Int.tmod a 12 < 0
    · rw [decide_eq_true h, cond_true, show IntKind.i64.wrap (Int.tmod a 12 + 12) = a % 12 by simp only [IntKind.wrap_i64, tdiv_pos, tmod_pos, Int.reduceLT] at g h ⊢; omega]
    · rw [decide_eq_false h, cond_false, show Int.tmod a 12 = a % 12 by simp only [IntKind.wrap_i64, tdiv_pos, tmod_pos, Int.reduceLT] at g h ⊢; omega]
theorem sp_ref02_Add (k : Nat) (a b : Int) (ha : -9223372036854775808 ≤ a ∧ a ≤ 9223372036854775807) (hb : -9223372036854775808 ≤ b ∧ b ≤ 9223372036854775807) :
    CP C (k + 3) F_ref02_Add [.int .i64 a, .int .i64 b] = some (.tup [.int .i64 (if fit (a + b) then a + b else 0), .int .i64 (if fit (a + b) then 0 else 8)]) := by
  rw [eq_ref02_Add]
  unfold R_ref02_Add
  rw [sp_ref01_Of (k + 1) a ha, sp_ref01_Of (k + 1) b hb]
  simp only [k_bind, k_tup, k_agg, k_cons, k_int, k_nil]
  rw [sg_ref01_Add]
  simp only [k_bind, k_tup, k_agg, k_cons, k_int, k_nil, k_bool]
  rw [sp_ref01_Int k _ (by omega)]
  simp only [k_bind, k_tup, k_agg, k_cons, k_int, k_nil, k_bool]
  unfold fit
  rfl
theorem sp_ref02_FloorDiv12 (k : Nat) (a : Int) (ha : -9223372036854775808 ≤ a ∧ a ≤ 9223372036854775807) :
    CP C (k + 5) F_ref02_FloorDiv [.int .i64 a, .int .i64 12] = some (.tup [.int .i64 (a / 12), .int .i64 0]) := by
  rw [eq_ref02_FloorDiv]
  unfold R_ref02_FloorDiv
  rw [show ((12 : Int) == 0) = false from rfl, cond_false, sp_ref01_Of (k + 3) a ha]
  simp only [k_bind, k_tup, k_agg, k_cons, k_int, k_nil]
  rw [sp_ref02_Floor k a 12 (by omega) (by omega)]
  simp only [k_bind, k_tup, k_agg, k_cons, k_int, k_nil, k_bool]
  rw [sp_ref01_Int (k + 2) _ (by omega)]
  simp only [k_bind, k_tup, k_agg, k_cons, k_int, k_nil, k_bool]
  rw [if_pos (by omega), if_pos (by omega)]
theorem sp_ref02_FloorMod12 (k : Nat) (a : Int) (ha : -9223372036854775808 ≤ a ∧ a ≤ 9223372036854775807) :
    CP C (k + 5) F_ref02_FloorMod [.int .i64 a, .int .i64 12] = some (.tup [.int .i64 (a % 12), .int .i64 0]) := by
  rw [eq_ref02_FloorMod]
  unfold R_ref02_FloorMod
  rw [show ((12 : Int) == 0) = false from rfl, cond_false, sp_ref01_Of (k + 3) a ha]
  simp only [k_bind, k_tup, k_agg, k_cons, k_int, k_nil]
  rw [sp_ref02_Floor k a 12 (by omega) (by omega)]
  simp only [k_bind, k_tup, k_agg, k_cons, k_int, k_nil, k_bool]
/-- The months of a date, and some more. -/
def mt (y m n : Int) : Int := 12 * y + m - 1 + n
def maE (y m d n p : Int) : Int :=
  if p ≠ 0 ∧ p ≠ 1 then 5 else if cE y m d ≠ 0 then cE y m d else if mt y m n / 12 < -9999 ∨ mt y m n / 12 > 9999 then 8
  else if d > mdays (mt y m n / 12) (mt y m n % 12 + 1) ∧ p = 1 then 7 else 0
def maY (y m d n p : Int) : Int := if maE y m d n p = 0 then mt y m n / 12 else 0
def maM (y m d n p : Int) : Int := if maE y m d n p = 0 then mt y m n % 12 + 1 else 0
def maD (y m d n p : Int) : Int := if maE y m d n p = 0 then (if d > mdays (mt y m n / 12) (mt y m n % 12 + 1) then mdays (mt y m n / 12) (mt y m n % 12 + 1) else d) else 0
abbrev maV (y m d n p : Int) : AV := .tup [date (maY y m d n p) (maM y m d n p) (maD y m d n p), .int .i64 (maE y m d n p)]
theorem maV_err {y m d n p e : Int} (h : maE y m d n p = e) (he : e ≠ 0) : maV y m d n p = .tup [date 0 0 0, .int .i64 e] := by
  unfold maV maY maM maD
  rw [h, if_neg he, if_neg he, if_neg he]
theorem maV_ok {y m d n p : Int} (h : maE y m d n p = 0) : maV y m d n p = .tup [date (mt y m n / 12) (mt y m n % 12 + 1) (if d > mdays (mt y m n / 12) (mt y m n % 12 + 1) then mdays (mt y m n / 12) (mt y m n % 12 + 1) else d), .int .i64 0] := by
  unfold maV maY maM maD
  rw [h, if_pos rfl, if_pos rfl, if_pos rfl]
theorem maE_pol {y m d n p : Int} (h : p ≠ 0 ∧ p ≠ 1) : maE y m d n p = 5 := by unfold maE; rw [if_pos h]
theorem maE_chk {y m d n p : Int} (h : ¬ (p ≠ 0 ∧ p ≠ 1)) (h2 : cE y m d ≠ 0) : maE y m d n p = cE y m d := by unfold maE; rw [if_neg h, if_pos h2]
theorem maE_far {y m d n p : Int} (h : ¬ (p ≠ 0 ∧ p ≠ 1)) (h2 : cE y m d = 0) (h3 : mt y m n / 12 < -9999 ∨ mt y m n / 12 > 9999) : maE y m d n p = 8 := by unfold maE; rw [if_neg h, if_neg (by omega), if_pos h3]
theorem maE_late {y m d n p : Int} (h : ¬ (p ≠ 0 ∧ p ≠ 1)) (h2 : cE y m d = 0) (h3 : ¬ (mt y m n / 12 < -9999 ∨ mt y m n / 12 > 9999)) :
    maE y m d n p = if d > mdays (mt y m n / 12) (mt y m n % 12 + 1) ∧ p = 1 then 7 else 0 := by unfold maE; rw [if_neg h, if_neg (by omega), if_neg h3]
theorem sp_months_Add (k : Nat) (y m d n p : Int) (hn : -9223372036854775808 ≤ n ∧ n ≤ 9223372036854775807) : CP C (k + 4) F_months_Add [date y m d, .int .i64 n, .int .i64 p] = some (maV y m d n p) := by
  rw [eq_months_Add]
  unfold R_months_Add T_months_Add_1 J_months_Add_493 T_months_Add_493 J_months_Add_1013 T_months_Add_1013 J_months_Add_16373 T_months_Add_16373 J_months_Add_65517 T_months_Add_65517 J_months_Add_4095 T_months_Add_4095
  rw [sp_civil_Check k]
  by_cases hp : p ≠ 0 ∧ p ≠ 1
  · rw [maV_err (maE_pol hp) (by decide), show (p == 0) = false from beq_eq_false_iff_ne.2 hp.1, show (p == 1) = false from beq_eq_false_iff_ne.2 hp.2]; rfl
  have tail : ∀ Q : Option AV, cE y m d = 0 → Q = some (if p = 1 then .tup [date 0 0 0, .int .i64 7] else .tup [date (mt y m n / 12) (mt y m n % 12 + 1) (mdays (mt y m n / 12) (mt y m n % 12 + 1)), .int .i64 0]) →
      (cond (decide (mt y m n / 12 < (-9999))) (some (.tup [.agg [.int .i64 0, .int .i64 0, .int .i64 0], .int .i64 8]))
       (cond (decide (mt y m n / 12 > 9999)) (some (.tup [.agg [.int .i64 0, .int .i64 0, .int .i64 0], .int .i64 8]))
        (cond (decide (d > mdays (mt y m n / 12) (mt y m n % 12 + 1))) Q
          (some (.tup [.agg [.int .i64 (mt y m n / 12), .int .i64 (mt y m n % 12 + 1), .int .i64 d], .int .i64 0]))))) = some (maV y m d n p) := by
    intro L hc hL
    by_cases g1 : mt y m n / 12 < -9999
    · rw [decide_eq_true g1, cond_true, maV_err (maE_far hp hc (.inl g1)) (by decide)]
    rw [decide_eq_false g1, cond_false]
    by_cases g2 : mt y m n / 12 > 9999
    · rw [decide_eq_true g2, cond_true, maV_err (maE_far hp hc (.inr g2)) (by decide)]
    rw [decide_eq_false g2, cond_false]
    have hE := maE_late (d := d) hp hc (show ¬ (mt y m n / 12 < -9999 ∨ mt y m n / 12 > 9999) by omega)
    by_cases g3 : d > mdays (mt y m n / 12) (mt y m n % 12 + 1)
    · rw [decide_eq_true g3, cond_true, hL]
      by_cases c : p = 1
      · rw [if_pos ⟨g3, c⟩] at hE
        rw [maV_err hE (by decide), if_pos c]
      · rw [if_neg (by omega)] at hE
        rw [maV_ok hE, if_neg c, if_pos g3]
    · rw [if_neg (by omega)] at hE
      rw [decide_eq_false g3, cond_false, maV_ok hE, if_neg g3]
  by_cases hc : cE y m d = 0
  · obtain ⟨hv, hy⟩ := cE_zero.1 hc
    have hm := hv.1
    have e3 : IntKind.i64.wrap (IntKind.i64.wrap (IntKind.i64.wrap (y * 12) + m) - 1) = 12 * y + m - 1 := by (first | omega | (simp (disch := omega) only [w64, td_nn, tm_nn] <;> omega))
    have far : ¬ fit (12 * y + m - 1 + n) → maE y m d n p = 8 := by
      intro h
      unfold fit at h
      refine maE_far hp hc ?_
      unfold mt
      omega
    rw [hc]
    simp only [k_bind, k_int, bnd_eq _ e3]
    rw [show ((0 : Int) != 0) = false from rfl, cond_false, cond_false, sp_checked_Add (k + 2) (12 * y + m - 1) n (by omega) hn]
    simp only [k_bind, k_tup, k_agg, k_cons, k_int, k_nil]
    by_cases hf : fit (12 * y + m - 1 + n)
    · rw [if_pos hf, if_pos hf, show ((0 : Int) != 0) = false from rfl, cond_false, cond_false]
      have hf' := hf
      unfold fit at hf'
      rw [sp_checked_FloorDiv12 (k + 2) _ hf', sp_checked_FloorMod12 (k + 2) _ hf']
      simp only [k_bind, k_tup, k_agg, k_cons, k_int, k_nil]
      rw [w64 (show -9223372036854775808 ≤ (12 * y + m - 1 + n) % 12 + 1 ∧ (12 * y + m - 1 + n) % 12 + 1 ≤ 9223372036854775807 by omega)]
      rw [sp_civil_MonthDays (k + 1)]
      simp only [k_bind, k_int]
      rw [show 12 * y + m - 1 + n = mt y m n from rfl]
      by_cases c : p = 0
      · subst c
        rw [show ((0 : Int) == 0) = true from rfl, cond_true]
        refine tail _ hc ?_
        rw [eq_months_clamp_late]
        unfold R_months_clamp_late
        simp only [k_bind, k_tup, k_agg, k_cons, k_int, k_nil]
        rw [if_neg (by decide)]
      · have c1 : p = 1 := by omega
        subst c1
        rw [show ((1 : Int) == 0) = false from rfl, cond_false, show ((1 : Int) == 1) = true from rfl, cond_true]
        refine tail _ hc ?_
        rw [eq_months_reject_late]
        unfold R_months_reject_late
        simp only [k_bind, k_tup, k_agg, k_cons, k_int, k_nil]
        rfl
    · rw [if_neg hf, if_neg hf, show ((8 : Int) != 0) = true from rfl, cond_true, maV_err (far hf) (by decide)]
      by_cases c : p = 0
      · rw [c]; rfl
      · rw [show p = 1 by omega]; rfl
  · rw [maV_err (maE_chk hp hc) hc]
    simp only [k_bind, k_int]
    rw [show (cE y m d != 0) = true from bne_iff_ne.2 hc, cond_true]
    by_cases c : p = 0
    · rw [c]; rfl
    · rw [show p = 1 by omega]; rfl
theorem sp_ref11_Add (k : Nat) (y m d n p : Int) (hn : -9223372036854775808 ≤ n ∧ n ≤ 9223372036854775807) : CP C (k + 6) F_ref11_Add [date y m d, .int .i64 n, .int .i64 p] = some (maV y m d n p) := by
  rw [eq_ref11_Add]
  unfold R_ref11_Add T_ref11_Add_1
  rw [sp_ref06_Check (k + 1)]
  by_cases hp : p ≠ 0 ∧ p ≠ 1
  · rw [maV_err (maE_pol hp) (by decide), show (p != 0) = true from bne_iff_ne.2 hp.1, show (p != 1) = true from bne_iff_ne.2 hp.2]; rfl
  have tail : ∀ b : Bool, cE y m d = 0 → b = decide (mt y m n / 12 < -9999 ∨ mt y m n / 12 > 9999) →
      J_ref11_Add_1021 (CP C (k + 5)) (k + 5) p (mt y m n / 12) (mt y m n % 12) b y m d = some (maV y m d n p) := by
    intro b hc hb
    unfold J_ref11_Add_1021 T_ref11_Add_1021
    rw [w64 (show -9223372036854775808 ≤ mt y m n % 12 + 1 ∧ mt y m n % 12 + 1 ≤ 9223372036854775807 by omega), sp_ref06_MonthDays (k + 3)]
    simp only [k_bind, k_int]
    by_cases g1 : mt y m n / 12 < -9999 ∨ mt y m n / 12 > 9999
    · rw [hb, decide_eq_true g1, cond_true, maV_err (maE_far hp hc g1) (by decide)]
    rw [hb, decide_eq_false g1, cond_false]
    have hE := maE_late (d := d) hp hc g1
    by_cases g3 : d > mdays (mt y m n / 12) (mt y m n % 12 + 1)
    · rw [decide_eq_true g3, cond_true]
      by_cases c : p = 1
      · rw [if_pos ⟨g3, c⟩] at hE
        rw [maV_err hE (by decide), c]; rfl
      · rw [if_neg (by omega)] at hE
        rw [maV_ok hE, beq_eq_false_iff_ne.2 c, cond_false, if_pos g3]
    · rw [if_neg (by omega)] at hE
      rw [decide_eq_false g3, cond_false, maV_ok hE, if_neg g3]
  have two : ∀ A : Option AV, (cond (p != 0) (cond (p != 1) (some (.tup [.agg [.int .i64 0, .int .i64 0, .int .i64 0], .int .i64 5])) A) A) = A := by
    intro A
    by_cases c : p = 0
    · rw [c]; rfl
    · rw [show p = 1 by omega]; rfl
  rw [two]
  by_cases hc : cE y m d = 0
  · obtain ⟨hv, hy⟩ := cE_zero.1 hc
    have hm := hv.1
    have e3 : IntKind.i64.wrap (IntKind.i64.wrap (IntKind.i64.wrap (12 * y) + m) - 1) = 12 * y + m - 1 := by (first | omega | (simp (disch := omega) only [w64, td_nn, tm_nn] <;> omega))
    rw [hc]
    simp only [k_bind, k_int, bnd_eq _ e3]
    rw [show ((0 : Int) != 0) = false from rfl, cond_false, sp_ref02_Add (k + 2) (12 * y + m - 1) n (by omega) hn]
    simp only [k_bind, k_tup, k_agg, k_cons, k_int, k_nil]
    by_cases hf : fit (12 * y + m - 1 + n)
    · rw [if_pos hf, if_pos hf, show ((0 : Int) != 0) = false from rfl, cond_false]
      have hf' := hf
      unfold fit at hf'
      rw [sp_ref02_FloorDiv12 k _ hf', sp_ref02_FloorMod12 k _ hf']
      simp only [k_bind, k_tup, k_agg, k_cons, k_int, k_nil]
      rw [show 12 * y + m - 1 + n = mt y m n from rfl]
      by_cases g1 : mt y m n / 12 < -9999
      · rw [decide_eq_true g1, cond_true]
        exact tail _ hc (decide_eq_true (.inl g1)).symm
      · rw [decide_eq_false g1, cond_false]
        refine tail _ hc ?_
        rw [decide_eq_decide]
        omega
    · have : maE y m d n p = 8 := by
        unfold fit at hf
        refine maE_far hp hc ?_
        unfold mt
        omega
      rw [if_neg hf, if_neg hf, show ((8 : Int) != 0) = true from rfl, cond_true, maV_err this (by decide)]
  · rw [maV_err (maE_chk hp hc) hc]
    simp only [k_bind, k_int]
    rw [show (cE y m d != 0) = true from bne_iff_ne.2 hc, cond_true]
/-- The errors that are found before the days are added. -/
def plF (y m d a b c p : Int) : Int :=
  if p ≠ 0 ∧ p ≠ 1 then 5 else if cE y m d ≠ 0 then cE y m d else if pE a b c ≠ 0 then pE a b c else maE y m d (12 * a + b) p
/-- The day's number. -/
def plX (y m d a b c p : Int) : Int := num (maY y m d (12 * a + b) p) (maM y m d (12 * a + b) p) (maD y m d (12 * a + b) p) + c
def plY (y m d a b c p : Int) : Int := if plF y m d a b c p = 0 then gY (plX y m d a b c p) else 0
def plM (y m d a b c p : Int) : Int := if plF y m d a b c p = 0 then gM (plX y m d a b c p) else 0
def plD (y m d a b c p : Int) : Int := if plF y m d a b c p = 0 then gD (plX y m d a b c p) else 0
def plE (y m d a b c p : Int) : Int := if plF y m d a b c p = 0 then gE (plX y m d a b c p) else plF y m d a b c p
abbrev plV (y m d a b c p : Int) : AV := .tup [date (plY y m d a b c p) (plM y m d a b c p) (plD y m d a b c p), .int .i64 (plE y m d a b c p)]
theorem plV_err {y m d a b c p e : Int} (h : plF y m d a b c p = e) (he : e ≠ 0) : plV y m d a b c p = .tup [date 0 0 0, .int .i64 e] := by
  unfold plV plY plM plD plE
  rw [h, if_neg he, if_neg he, if_neg he, if_neg he]
theorem plV_ok {y m d a b c p : Int} (h : plF y m d a b c p = 0) : plV y m d a b c p = .tup [date (gY (plX y m d a b c p)) (gM (plX y m d a b c p)) (gD (plX y m d a b c p)), .int .i64 (gE (plX y m d a b c p))] := by
  unfold plV plY plM plD plE
  rw [h, if_pos rfl, if_pos rfl, if_pos rfl, if_pos rfl]
/-- What months lead to is a date. -/
theorem ma_valid {y m d n p : Int} (h : maE y m d n p = 0) : valid (maY y m d n p) (maM y m d n p) (maD y m d n p) ∧ -9999 ≤ maY y m d n p ∧ maY y m d n p ≤ 9999 := by
  unfold maY maM maD
  rw [if_pos h, if_pos h, if_pos h]
  have hp : ¬ (p ≠ 0 ∧ p ≠ 1) := by
    intro c; rw [maE_pol c] at h; omega
  have hc : cE y m d = 0 := by
    by_cases c : cE y m d = 0
    · exact c
    · rw [maE_chk hp c] at h; exact absurd h c
  have hf : ¬ (mt y m n / 12 < -9999 ∨ mt y m n / 12 > 9999) := by
    intro c; rw [maE_far hp hc c] at h; omega
  have hv := (cE_zero.1 hc).1
  have hm : 1 ≤ mt y m n % 12 + 1 ∧ mt y m n % 12 + 1 ≤ 12 := by omega
  have hr := mdays_range (y := mt y m n / 12) hm
  unfold valid at hv ⊢
  refine ⟨⟨hm, ?_, ?_⟩, by omega, by omega⟩
  · by_cases c : d > mdays (mt y m n / 12) (mt y m n % 12 + 1)
    · rw [if_pos c]; omega
    · rw [if_neg c]; omega
  · by_cases c : d > mdays (mt y m n / 12) (mt y m n % 12 + 1)
    · rw [if_pos c]; omega
    · rw [if_neg c]; omega
end Go.Proofs.Ytceigcoipifloaa.Sim.S
