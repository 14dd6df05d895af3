/- Quotients and sums that tell when they overflow. Condition: none beyond what each theorem says. -/
import Derived.Test.YtacnmhgniaagiaaSpecChk
import Derived.Test.YtacnmhgniaagiaaSimFloor
set_option linter.unusedSimpArgs false
set_option linter.unusedVariables false
namespace Go.Proofs.Ytacnmhgniaagiaa.Sim.S
open Go

theorem sc_Add (k : Nat) (a b : Int) (ha : -9223372036854775808 ≤ a ∧ a ≤ 9223372036854775807) (hb : -9223372036854775808 ≤ b ∧ b ≤ 9223372036854775807) :
    CP C (k + 1) F_checked_Add [.int .i64 a, .int .i64 b] = some (okV (a + b)) := by
  rw [eq_checked_Add]
  unfold R_checked_Add okV
  by_cases g : -9223372036854775808 ≤ a + b ∧ a + b ≤ 9223372036854775807
  · rw [if_pos g, if_pos g, w64 g]
    by_cases hb0 : b > 0
    · rw [decide_eq_true hb0, decide_eq_true (show a + b > a by omega)]; rfl
    · rw [decide_eq_false hb0, decide_eq_false (show ¬ a + b > a by omega)]; rfl
  · rw [if_neg g, if_neg g, show (b != 0) = true by rw [bne_iff_ne]; omega]
    by_cases hb0 : b > 0
    · rw [decide_eq_true hb0, decide_eq_false (show ¬ IntKind.i64.wrap (a + b) > a by rw [IntKind.wrap_i64]; omega)]; rfl
    · rw [decide_eq_false hb0, decide_eq_true (show IntKind.i64.wrap (a + b) > a by rw [IntKind.wrap_i64]; omega)]; rfl
theorem sc_Sub (k : Nat) (a b : Int) (ha : -9223372036854775808 ≤ a ∧ a ≤ 9223372036854775807) (hb : -9223372036854775808 ≤ b ∧ b ≤ 9223372036854775807) :
    CP C (k + 1) F_checked_Sub [.int .i64 a, .int .i64 b] = some (okV (a - b)) := by
  rw [eq_checked_Sub]
  unfold R_checked_Sub okV
  by_cases g : -9223372036854775808 ≤ a - b ∧ a - b ≤ 9223372036854775807
  · rw [if_pos g, if_pos g, w64 g]
    by_cases hb0 : b > 0
    · rw [decide_eq_true hb0, decide_eq_true (show a - b < a by omega)]; rfl
    · rw [decide_eq_false hb0, decide_eq_false (show ¬ a - b < a by omega)]; rfl
  · rw [if_neg g, if_neg g, show (b != 0) = true by rw [bne_iff_ne]; omega]
    by_cases hb0 : b > 0
    · rw [decide_eq_true hb0, decide_eq_false (show ¬ IntKind.i64.wrap (a - b) < a by rw [IntKind.wrap_i64]; omega)]; rfl
    · rw [decide_eq_false hb0, decide_eq_true (show IntKind.i64.wrap (a - b) < a by rw [IntKind.wrap_i64]; omega)]; rfl
theorem sc_Neg (k : Nat) (a : Int) (ha : -9223372036854775808 ≤ a ∧ a ≤ 9223372036854775807) : CP C (k + 2) F_checked_Neg [.int .i64 a] = some (okV (0 - a)) := by
  rw [eq_checked_Neg]
  unfold R_checked_Neg
  rw [sc_Sub k 0 a (by omega) ha]
  simp only [k_bind, k_tup, k_agg, k_cons, k_int, k_nil]
def absV (a : Int) : Int := if a < 0 then 0 - a else a
theorem sc_Abs (k : Nat) (a : Int) (ha : -9223372036854775808 ≤ a ∧ a ≤ 9223372036854775807) : CP C (k + 3) F_checked_Abs [.int .i64 a] = some (okV (absV a)) := by
  rw [eq_checked_Abs]
  unfold R_checked_Abs absV
  rw [sc_Neg k a ha]
  by_cases h : a < 0
  · rw [decide_eq_true h, cond_true, if_pos h]
    simp only [k_bind, k_tup, k_agg, k_cons, k_int, k_nil]
  · rw [decide_eq_false h, cond_false, if_neg h]
    unfold okV
    rw [if_pos ha, if_pos ha]
theorem sr_Add (k : Nat) (a b : Int) (ha : -9223372036854775808 ≤ a ∧ a ≤ 9223372036854775807) (hb : -9223372036854775808 ≤ b ∧ b ≤ 9223372036854775807) :
    CP C (k + 3) F_ref02_Add [.int .i64 a, .int .i64 b] = some (okV (a + b)) := by
  rw [eq_ref02_Add]
  unfold R_ref02_Add
  rw [sp_ref01_Of (k + 1) a ha, sp_ref01_Of (k + 1) b hb]
  simp only [k_bind, k_tup, k_agg, k_cons, k_int, k_nil]
  rw [sg_ref01_Add]
  simp only [k_bind, k_tup, k_agg, k_cons, k_int, k_nil, k_bool]
  rw [sp_ref01_Int k _ (by omega)]
  simp only [k_bind, k_tup, k_agg, k_cons, k_int, k_nil, k_bool]
theorem sr_Sub (k : Nat) (a b : Int) (ha : -9223372036854775808 ≤ a ∧ a ≤ 9223372036854775807) (hb : -9223372036854775808 ≤ b ∧ b ≤ 9223372036854775807) :
    CP C (k + 3) F_ref02_Sub [.int .i64 a, .int .i64 b] = some (okV (a - b)) := by
  rw [eq_ref02_Sub]
  unfold R_ref02_Sub
  rw [sp_ref01_Of (k + 1) a ha, sp_ref01_Of (k + 1) b hb]
  simp only [k_bind, k_tup, k_agg, k_cons, k_int, k_nil]
  rw [sg_ref01_Sub]
  simp only [k_bind, k_tup, k_agg, k_cons, k_int, k_nil, k_bool]
  rw [sp_ref01_Int k _ (by omega)]
  simp only [k_bind, k_tup, k_agg, k_cons, k_int, k_nil, k_bool]
theorem sr_Abs (k : Nat) (a : Int) (ha : -9223372036854775808 ≤ a ∧ a ≤ 9223372036854775807) : CP C (k + 4) F_ref02_Abs [.int .i64 a] = some (okV (absV a)) := by
  rw [eq_ref02_Abs]
  unfold R_ref02_Abs absV
  rw [sr_Sub k 0 a (by omega) ha]
  by_cases h : a < 0
  · rw [decide_eq_true h, cond_true, if_pos h]
    simp only [k_bind, k_tup, k_agg, k_cons, k_int, k_nil]
  · rw [decide_eq_false h, cond_false, if_neg h]
    unfold okV
    rw [if_pos ha, if_pos ha]
theorem sc_FloorDiv (k : Nat) (a b : Int) (hb : b ≠ 0) (ha : -9223372036854775808 ≤ a ∧ a ≤ 9223372036854775807) (hb' : -9223372036854775808 ≤ b ∧ b ≤ 9223372036854775807) :
    CP C (k + 1) F_checked_FloorDiv [.int .i64 a, .int .i64 b] = some (okV (fd a b)) := by
  rw [eq_checked_FloorDiv]
  unfold R_checked_FloorDiv
  rw [show (b == 0) = false from beq_eq_false_iff_ne.2 hb, cond_false, decide_eq_false hb, cond_false, cond_false]
  have two : ∀ X : Option AV, (a ≠ -9223372036854775808 ∨ b ≠ -1) → (cond (b == -1) (cond (a == -9223372036854775808) (some (.tup [.int .i64 0, .int .i64 8])) X) X) = X := by
    intro X h
    by_cases h1 : b = -1
    · rw [h1]
      rw [show (a == -9223372036854775808) = false by rw [beq_eq_false_iff_ne]; omega]; rfl
    · rw [show (b == -1) = false from beq_eq_false_iff_ne.2 h1, cond_false]
  by_cases hm : a = -9223372036854775808 ∧ b = -1
  · rw [hm.1, hm.2]; rfl
  rw [two _ (by omega)]
  have h0 : a.natAbs / b.natAbs ≤ a.natAbs := Nat.div_le_self _ _
  have hr : a.natAbs % b.natAbs < b.natAbs := Nat.mod_lt _ (by omega)
  have hq : b.natAbs ≠ 1 → a.natAbs ≠ 0 → a.natAbs / b.natAbs < a.natAbs := fun h1 h2 => Nat.div_lt_self (by omega) (by omega)
  have hq1 : b.natAbs = 1 → a.natAbs / b.natAbs = a.natAbs ∧ a.natAbs % b.natAbs = 0 := fun h1 => by rw [h1, Nat.div_one, Nat.mod_one]; exact ⟨rfl, rfl⟩
  by_cases hs : (a < 0 ∧ b < 0) ∨ (0 ≤ a ∧ 0 < b)
  · obtain ⟨t1, t2⟩ := td_same hs
    obtain ⟨f1, f2⟩ := fd_same hb hs
    rw [t1, f1]
    have hfit : -9223372036854775808 ≤ ((a.natAbs / b.natAbs : Nat) : Int) ∧ ((a.natAbs / b.natAbs : Nat) : Int) ≤ 9223372036854775807 := by
      generalize a.natAbs / b.natAbs = q at *
      omega
    have e : (cond (decide (a < 0)) (cond (decide (b < 0)) (some (AV.tup [.int .i64 (IntKind.i64.wrap ((a.natAbs / b.natAbs : Nat) : Int)), .int .i64 0])) (some (AV.tup [.int .i64 (IntKind.i64.wrap (IntKind.i64.wrap ((a.natAbs / b.natAbs : Nat) : Int) - 1)), .int .i64 0])))
        (cond (decide (b < 0)) (some (AV.tup [.int .i64 (IntKind.i64.wrap (IntKind.i64.wrap ((a.natAbs / b.natAbs : Nat) : Int) - 1)), .int .i64 0])) (some (AV.tup [.int .i64 (IntKind.i64.wrap ((a.natAbs / b.natAbs : Nat) : Int)), .int .i64 0])))) = some (AV.tup [.int .i64 (IntKind.i64.wrap ((a.natAbs / b.natAbs : Nat) : Int)), .int .i64 0]) := by
      rcases hs with ⟨h1, h2⟩ | ⟨h1, h2⟩
      · rw [decide_eq_true h1, decide_eq_true h2]; rfl
      · rw [decide_eq_false (show ¬ a < 0 by omega), decide_eq_false (show ¬ b < 0 by omega)]; rfl
    rw [e, w64 hfit]
    unfold okV
    rw [if_pos hfit, if_pos hfit]
    cases (Int.tmod a b != 0) <;> rfl
  · have hs' : (0 ≤ a ∧ b < 0) ∨ (a ≤ 0 ∧ 0 < b) := by omega
    obtain ⟨t1, t2⟩ := td_unlike hs'
    obtain ⟨f1, f2⟩ := fd_unlike hb hs'
    have hz : (Int.tmod a b != 0) = decide (a.natAbs % b.natAbs ≠ 0) := by
      rw [t2, Bool.eq_iff_iff, bne_iff_ne, decide_eq_true_eq]
      by_cases hb1 : b < 0
      · rw [if_pos hb1]; omega
      · rw [if_neg hb1]; omega
    rw [hz, t1, f1]
    have hfit0 : -9223372036854775808 ≤ -((a.natAbs / b.natAbs : Nat) : Int) ∧ -((a.natAbs / b.natAbs : Nat) : Int) ≤ 9223372036854775807 := by
      generalize a.natAbs / b.natAbs = q at *
      omega
    by_cases c : a.natAbs % b.natAbs = 0
    · rw [if_pos c, decide_eq_false (show ¬ (a.natAbs % b.natAbs ≠ 0) from fun h => h c), cond_false, w64 hfit0]
      unfold okV
      rw [if_pos hfit0, if_pos hfit0]
    · have ha0 : a.natAbs ≠ 0 := by
        intro h; rw [h, Nat.zero_mod] at c; exact c rfl
      have hb1 : b.natAbs ≠ 1 := by
        intro h; exact c (hq1 h).2
      have hq2 := hq hb1 ha0
      have hfit : -9223372036854775808 ≤ -((a.natAbs / b.natAbs : Nat) : Int) - 1 ∧ -((a.natAbs / b.natAbs : Nat) : Int) - 1 ≤ 9223372036854775807 := by
        generalize a.natAbs / b.natAbs = q at *
        omega
      rw [if_neg c, decide_eq_true (show (a.natAbs % b.natAbs ≠ 0) from c), cond_true, w64 hfit0, w64 hfit]
      unfold okV
      rw [if_pos hfit, if_pos hfit]
      rcases hs' with ⟨h1, h2⟩ | ⟨h1, h2⟩
      · rw [decide_eq_false (show ¬ a < 0 by omega), decide_eq_true h2]; rfl
      · rw [decide_eq_true (show a < 0 by omega), decide_eq_false (show ¬ b < 0 by omega)]; rfl
theorem sc_FloorDiv0 (k : Nat) (a : Int) : CP C (k + 1) F_checked_FloorDiv [.int .i64 a, .int .i64 0] = some (.tup [.int .i64 0, .int .i64 5]) := by
  rw [eq_checked_FloorDiv]; rfl
theorem sc_FloorMod (k : Nat) (a b : Int) (hb : b ≠ 0) (ha : -9223372036854775808 ≤ a ∧ a ≤ 9223372036854775807) (hb' : -9223372036854775808 ≤ b ∧ b ≤ 9223372036854775807) :
    CP C (k + 1) F_checked_FloorMod [.int .i64 a, .int .i64 b] = some (.tup [.int .i64 (fm a b), .int .i64 0]) := by
  rw [eq_checked_FloorMod]
  unfold R_checked_FloorMod
  rw [show (b == 0) = false from beq_eq_false_iff_ne.2 hb, cond_false, decide_eq_false hb, cond_false]
  by_cases h1 : b = -1
  · rw [h1, show ((-1 : Int) == -1) = true from rfl, cond_true]
    have := fm_neg a (show (-1 : Int) < 0 by decide)
    rw [show fm a (-1) = 0 by omega]
  rw [show (b == -1) = false from beq_eq_false_iff_ne.2 h1, cond_false]
  have hr : a.natAbs % b.natAbs < b.natAbs := Nat.mod_lt _ (by omega)
  by_cases hs : (a < 0 ∧ b < 0) ∨ (0 ≤ a ∧ 0 < b)
  · obtain ⟨t1, t2⟩ := td_same hs
    obtain ⟨f1, f2⟩ := fd_same hb hs
    rw [f2, ← t2]
    by_cases g : Int.tmod a b = 0
    · rw [g]; rfl
    · rw [show (Int.tmod a b != 0) = true from bne_iff_ne.2 g, cond_true]
      by_cases hb1 : b < 0
      · rw [if_pos hb1] at t2
        rw [decide_eq_true hb1, decide_eq_true (show Int.tmod a b < 0 by omega)]; rfl
      · rw [if_neg hb1] at t2
        rw [decide_eq_false hb1, decide_eq_false (show ¬ Int.tmod a b < 0 by omega)]; rfl
  · have hs' : (0 ≤ a ∧ b < 0) ∨ (a ≤ 0 ∧ 0 < b) := by omega
    obtain ⟨t1, t2⟩ := td_unlike hs'
    obtain ⟨f1, f2⟩ := fd_unlike hb hs'
    rw [f2]
    by_cases g : a.natAbs % b.natAbs = 0
    · have : Int.tmod a b = 0 := by rw [t2, g]; split <;> rfl
      rw [this, if_pos g]; rfl
    · rw [if_neg g]
      by_cases hb1 : b < 0
      · rw [if_pos hb1] at t2 ⊢
        have e : IntKind.i64.wrap (Int.tmod a b + b) = -((b.natAbs : Int) - ((a.natAbs % b.natAbs : Nat) : Int)) := by
          rw [t2, w64 (by omega)]; omega
        rw [show (Int.tmod a b != 0) = true by rw [bne_iff_ne, t2]; omega, decide_eq_true hb1, decide_eq_false (show ¬ Int.tmod a b < 0 by omega), e]; rfl
      · rw [if_neg hb1] at t2 ⊢
        have e : IntKind.i64.wrap (Int.tmod a b + b) = (b.natAbs : Int) - ((a.natAbs % b.natAbs : Nat) : Int) := by
          rw [t2, w64 (by omega)]; omega
        rw [show (Int.tmod a b != 0) = true by rw [bne_iff_ne, t2]; omega, decide_eq_false hb1, decide_eq_true (show Int.tmod a b < 0 by omega), e]; rfl
theorem sc_FloorMod0 (k : Nat) (a : Int) : CP C (k + 1) F_checked_FloorMod [.int .i64 a, .int .i64 0] = some (.tup [.int .i64 0, .int .i64 5]) := by
  rw [eq_checked_FloorMod]; rfl
theorem sr_Floor (n : Nat) (z b : Int) (h : -170141183460469231731687303715884105728 ≤ z ∧ z < 170141183460469231731687303715884105728) (hb : b ≠ 0) (hb' : -9223372036854775808 ≤ b ∧ b ≤ 9223372036854775807) :
    CP C (n + 4) F_ref02_Floor [wI z, .int .i64 b] = some (.tup [wI (fd z b), .int .i64 (fm z b)]) := by
  by_cases hbp : 0 < b
  · rw [sp_ref02_Floor n z b h (by omega)]
    unfold fd fm
    rw [if_neg (show ¬ b < 0 by omega), if_neg (show ¬ b < 0 by omega)]
  have hbn : b < 0 := by omega
  have hrr : z.natAbs % b.natAbs < b.natAbs := Nat.mod_lt _ (by omega)
  have hq : z.natAbs / b.natAbs ≤ z.natAbs := Nat.div_le_self _ _
  rw [eq_ref02_Floor]
  unfold R_ref02_Floor T_ref02_Floor_1
  have fa := sp_ref02_Amount (n + 2) b (by omega)
  have fdd := sp_ref01_Div (n + 1) z.natAbs b.natAbs (by omega) (by omega) (by omega)
  have fb := sp_ref01_Below (n + 2) z (by omega)
  have db : decide (b < 0) = true := decide_eq_true hbn
  rw [fb]
  simp only [k_bind, k_bool]
  by_cases g : z < 0
  · have fn := sg_ref01_Neg n z
    rw [show wI (-z) = wv z.natAbs by unfold wI; rw [show (-z % 340282366920938463463374607431768211456).toNat = z.natAbs by omega]] at fn
    rw [decide_eq_true g, cond_true, fn]
    simp only [k_bind, k_agg, k_cons, k_int, k_nil]
    unfold J_ref02_Floor_15 T_ref02_Floor_15
    rw [fa]
    simp only [k_bind, k_int]
    rw [fdd]
    simp only [k_bind, k_tup, k_agg, k_cons, k_int, k_nil]
    rw [fb, decide_eq_true g, db]
    simp only [k_bind, k_bool]
    obtain ⟨f1, f2⟩ := fd_same hb (.inl ⟨g, hbn⟩)
    rw [f1, f2, if_pos hbn, ← wI_of (z.natAbs / b.natAbs) (by omega), show IntKind.i64.wrap (IntKind.u64.wrap (0 - ((z.natAbs % b.natAbs : Nat) : Int))) = -((z.natAbs % b.natAbs : Nat) : Int) by rw [IntKind.wrap_u64, IntKind.wrap_i64]; omega]
    rfl
  · have e0 : (z % 340282366920938463463374607431768211456).toNat = z.natAbs := by omega
    rw [decide_eq_false g, cond_false]
    unfold J_ref02_Floor_15 T_ref02_Floor_15
    rw [fa]
    simp only [k_bind, k_int]
    unfold wI at fb
    rw [e0] at fb ⊢
    rw [fdd]
    simp only [k_bind, k_tup, k_agg, k_cons, k_int, k_nil]
    rw [fb, decide_eq_false g, db]
    simp only [k_bind, k_bool]
    obtain ⟨f1, f2⟩ := fd_unlike (z := z) hb (.inl ⟨by omega, hbn⟩)
    rw [f1, f2, show ((false == true) = false) from rfl, cond_false]
    by_cases r0 : z.natAbs % b.natAbs = 0
    · rw [if_pos r0, if_pos r0, r0, show (((0 : Nat) : Int) == 0) = true from rfl, cond_true]
      have fn := sg_ref01_Neg n ((z.natAbs / b.natAbs : Nat) : Int)
      rw [← wI_of _ (by omega)] at fn
      rw [fn]
      simp only [k_bind, k_agg, k_cons, k_int, k_nil]
    · rw [if_neg r0, if_neg r0, if_pos hbn, show (((z.natAbs % b.natAbs : Nat) : Int) == 0) = false by rw [beq_eq_false_iff_ne]; omega, cond_false]
      have fA := sg_ref01_Add (n + 1) ((z.natAbs / b.natAbs : Nat) : Int) 1
      rw [← wI_of _ (by omega), show wI 1 = .agg [.int .u64 0, .int .u64 1] from rfl] at fA
      rw [fA]
      simp only [k_bind, k_tup, k_agg, k_cons, k_int, k_bool, k_nil, cond_true]
      rw [sg_ref01_Neg n]
      simp only [k_bind, k_agg, k_cons, k_int, k_nil]
      rw [bnd_eq _ (show _ = -((b.natAbs : Int) - ((z.natAbs % b.natAbs : Nat) : Int)) by rw [IntKind.wrap_u64, IntKind.wrap_u64, IntKind.wrap_i64]; omega)]
      rw [show -(((z.natAbs / b.natAbs : Nat) : Int) + 1) = -((z.natAbs / b.natAbs : Nat) : Int) - 1 by omega]
theorem sr_FloorDiv (k : Nat) (a b : Int) (hb : b ≠ 0) (ha : -9223372036854775808 ≤ a ∧ a ≤ 9223372036854775807) (hb' : -9223372036854775808 ≤ b ∧ b ≤ 9223372036854775807) :
    CP C (k + 5) F_ref02_FloorDiv [.int .i64 a, .int .i64 b] = some (okV (fd a b)) := by
  have hbd := fd_bound (z := a) hb
  rw [eq_ref02_FloorDiv]
  unfold R_ref02_FloorDiv
  rw [show (b == 0) = false from beq_eq_false_iff_ne.2 hb, cond_false, sp_ref01_Of (k + 3) a ha]
  simp only [k_bind, k_tup, k_agg, k_cons, k_int, k_nil]
  rw [sr_Floor k a b (by omega) hb hb']
  simp only [k_bind, k_tup, k_agg, k_cons, k_int, k_nil, k_bool]
  rw [sp_ref01_Int (k + 2) _ (by omega)]
  simp only [k_bind, k_tup, k_agg, k_cons, k_int, k_nil, k_bool]
theorem sr_FloorDiv0 (k : Nat) (a : Int) : CP C (k + 1) F_ref02_FloorDiv [.int .i64 a, .int .i64 0] = some (.tup [.int .i64 0, .int .i64 5]) := by
  rw [eq_ref02_FloorDiv]; rfl
theorem sr_FloorMod (k : Nat) (a b : Int) (hb : b ≠ 0) (ha : -9223372036854775808 ≤ a ∧ a ≤ 9223372036854775807) (hb' : -9223372036854775808 ≤ b ∧ b ≤ 9223372036854775807) :
    CP C (k + 5) F_ref02_FloorMod [.int .i64 a, .int .i64 b] = some (.tup [.int .i64 (fm a b), .int .i64 0]) := by
  rw [eq_ref02_FloorMod]
  unfold R_ref02_FloorMod
  rw [show (b == 0) = false from beq_eq_false_iff_ne.2 hb, cond_false, sp_ref01_Of (k + 3) a ha]
  simp only [k_bind, k_tup, k_agg, k_cons, k_int, k_nil]
  rw [sr_Floor k a b (by omega) hb hb']
  simp only [k_bind, k_tup, k_agg, k_cons, k_int, k_nil, k_bool]
theorem sr_FloorMod0 (k : Nat) (a : Int) : CP C (k + 1) F_ref02_FloorMod [.int .i64 a, .int .i64 0] = some (.tup [.int .i64 0, .int .i64 5]) := by
  rw [eq_ref02_FloorMod]; rfl
/-- A quotient, a rest and an error. -/
abbrev mdV (q r : Int) : AV := .tup [.int .i64 (if -9223372036854775808 ≤ q ∧ q ≤ 9223372036854775807 then q else 0), .int .i64 (if -9223372036854775808 ≤ q ∧ q ≤ 9223372036854775807 then r else 0), .int .i64 (if -9223372036854775808 ≤ q ∧ q ≤ 9223372036854775807 then 0 else 8)]
theorem sr_MulDiv (k : Nat) (a b c : Int) (hc : c ≠ 0) (ha : -9223372036854775808 ≤ a ∧ a ≤ 9223372036854775807) (hb : -9223372036854775808 ≤ b ∧ b ≤ 9223372036854775807) (hc' : -9223372036854775808 ≤ c ∧ c ≤ 9223372036854775807) :
    CP C (k + 5) F_ref02_MulDiv [.int .i64 a, .int .i64 b, .int .i64 c] = some (mdV (fd (a * b) c) (fm (a * b) c)) := by
  rw [eq_ref02_MulDiv]
  unfold R_ref02_MulDiv
  have hm := mul_bound ha hb
  rw [← Int.natAbs_mul] at hm
  have hbd := fd_bound (z := a * b) hc
  rw [show (c == 0) = false from beq_eq_false_iff_ne.2 hc, cond_false, sp_ref02_times k a b ha hb]
  generalize a * b = M at *
  simp only [k_bind, k_tup, k_agg, k_cons, k_int, k_nil]
  rw [sr_Floor k M c (by omega) hc hc']
  simp only [k_bind, k_tup, k_agg, k_cons, k_int, k_nil, k_bool]
  rw [sp_ref01_Int (k + 2) _ (by omega)]
  simp only [k_bind, k_tup, k_agg, k_cons, k_int, k_nil, k_bool]
  by_cases g : -9223372036854775808 ≤ fd M c ∧ fd M c ≤ 9223372036854775807
  · unfold mdV
    rw [if_pos g, if_pos g, if_pos g]; rfl
  · unfold mdV
    rw [if_neg g, if_neg g, if_neg g]; rfl
theorem sr_MulDiv0 (k : Nat) (a b : Int) : CP C (k + 1) F_ref02_MulDiv [.int .i64 a, .int .i64 b, .int .i64 0] = some (.tup [.int .i64 0, .int .i64 0, .int .i64 5]) := by
  rw [eq_ref02_MulDiv]; rfl
theorem md63 (k : Nat) (c q : Int) (r : Nat) (hq : -170141183460469231731687303715884105728 ≤ q ∧ q < 170141183460469231731687303715884105728) (hr : (r : Int) < 9223372036854775808 ∨ (c < 0 ∧ (r : Int) = 9223372036854775808)) :
    J_checked_MulDiv_63 (CP C (k + 2)) (k + 2) c (r : Int) (((q % 340282366920938463463374607431768211456).toNat / 18446744073709551616 : Nat) : Int) (((q % 340282366920938463463374607431768211456).toNat % 18446744073709551616 : Nat) : Int) = some (mdV q (if c < 0 then -(r : Int) else (r : Int))) := by
  unfold J_checked_MulDiv_63 T_checked_MulDiv_63
  have hi := sp_wide_Int k q hq
  unfold wI wv at hi
  rw [hi]
  simp only [k_bind, k_tup, k_agg, k_cons, k_int, k_nil, k_bool]
  have e1 : c < 0 → IntKind.i64.wrap (IntKind.u64.wrap (0 - (r : Int))) = -(r : Int) := fun h => by rw [IntKind.wrap_u64, IntKind.wrap_i64]; omega
  have e2 : ¬ c < 0 → IntKind.i64.wrap (r : Int) = (r : Int) := fun h => by rw [IntKind.wrap_i64]; omega
  by_cases g : -9223372036854775808 ≤ q ∧ q ≤ 9223372036854775807
  · unfold mdV
    rw [if_pos g, if_pos g, if_pos g]
    by_cases h : c < 0
    · rw [decide_eq_true h, e1 h, if_pos h]; rfl
    · rw [decide_eq_false h, e2 h, if_neg h]; rfl
  · unfold mdV
    rw [if_neg g, if_neg g, if_neg g]; rfl
theorem sgn_mul {a b : Int} (h : a * b ≠ 0) : (a * b < 0 ∧ ((a < 0 ∧ ¬ b < 0) ∨ (¬ a < 0 ∧ b < 0))) ∨ (0 < a * b ∧ ((a < 0 ∧ b < 0) ∨ (¬ a < 0 ∧ ¬ b < 0))) := by
  by_cases h1 : a < 0
  · by_cases h2 : b < 0
    · exact .inr ⟨Int.mul_pos_of_neg_of_neg h1 h2, .inl ⟨h1, h2⟩⟩
    · have : a * b ≤ 0 := Int.mul_nonpos_of_nonpos_of_nonneg (by omega) (by omega)
      exact .inl ⟨by omega, .inl ⟨h1, h2⟩⟩
  · by_cases h2 : b < 0
    · have : a * b ≤ 0 := Int.mul_nonpos_of_nonneg_of_nonpos (by omega) (by omega)
      exact .inl ⟨by omega, .inr ⟨h1, h2⟩⟩
    · have : 0 ≤ a * b := Int.mul_nonneg (by omega) (by omega)
      exact .inr ⟨by omega, .inr ⟨h1, h2⟩⟩
theorem sc_MulDiv (k : Nat) (a b c : Int) (hc : c ≠ 0) (ha : -9223372036854775808 ≤ a ∧ a ≤ 9223372036854775807) (hb : -9223372036854775808 ≤ b ∧ b ≤ 9223372036854775807) (hc' : -9223372036854775808 ≤ c ∧ c ≤ 9223372036854775807) :
    CP C (k + 5) F_checked_MulDiv [.int .i64 a, .int .i64 b, .int .i64 c] = some (mdV (fd (a * b) c) (fm (a * b) c)) := by
  rw [eq_checked_MulDiv]
  unfold R_checked_MulDiv T_checked_MulDiv_1
  have hm := mul_bound ha hb
  rw [sp_checked_amount (k + 3) a ha, sp_checked_amount (k + 3) b hb, sp_checked_amount (k + 3) c hc']
  simp only [k_bind, k_int]
  rw [sp_wide_Mul (k + 2) a.natAbs b.natAbs (by omega) (by omega)]
  simp only [k_bind, k_tup, k_agg, k_cons, k_int, k_nil]
  have hP : a.natAbs * b.natAbs = (a * b).natAbs := Int.natAbs_mul a b |>.symm
  rw [hP] at hm ⊢
  have hsg := sgn_mul (a := a) (b := b)
  generalize a * b = M at *
  rw [sp_wide_Div k M.natAbs c.natAbs (by omega) (by omega) (by omega)]
  simp only [k_bind, k_tup, k_agg, k_cons, k_int, k_nil]
  have hr : M.natAbs % c.natAbs < c.natAbs := Nat.mod_lt _ (by omega)
  have hq : M.natAbs / c.natAbs ≤ M.natAbs := Nat.div_le_self _ _
  have hq0 : (0 : Int) ≤ ((M.natAbs / c.natAbs : Nat) : Int) := Int.natCast_nonneg _
  -- of one sign
  have even : ∀ j : Int, (j ≠ 1 ∧ j ≠ 3) → (M = 0 ∨ (M < 0 ∧ c < 0) ∨ (0 ≤ M ∧ 0 < c)) →
      ((a < 0 ∧ b < 0 ∧ ¬ c < 0) ∨ (a < 0 ∧ ¬ b < 0 ∧ c < 0) ∨ (¬ a < 0 ∧ b < 0 ∧ c < 0) ∨ (¬ a < 0 ∧ ¬ b < 0 ∧ ¬ c < 0)) →
      J_checked_MulDiv_125 (CP C (k + 4)) (k + 4) a b c ((M.natAbs % c.natAbs : Nat) : Int) j ((M.natAbs / c.natAbs / 18446744073709551616 : Nat) : Int) ((M.natAbs / c.natAbs % 18446744073709551616 : Nat) : Int) = some (mdV (fd M c) (fm M c)) := by
    intro j hj hM hs
    unfold J_checked_MulDiv_125 T_checked_MulDiv_125
    rw [show (j == 1) = false from beq_eq_false_iff_ne.2 hj.1, cond_false, show (j == 3) = false from beq_eq_false_iff_ne.2 hj.2, cond_false]
    have h63 := md63 (k + 2) c ((M.natAbs / c.natAbs : Nat) : Int) (M.natAbs % c.natAbs) (by omega) (by omega)
    rw [show ((((M.natAbs / c.natAbs : Nat) : Int) % 340282366920938463463374607431768211456).toNat) = M.natAbs / c.natAbs by omega] at h63
    have hfd : fd M c = ((M.natAbs / c.natAbs : Nat) : Int) ∧ fm M c = if c < 0 then -((M.natAbs % c.natAbs : Nat) : Int) else ((M.natAbs % c.natAbs : Nat) : Int) := by
      rcases hM with h | h
      · by_cases hc0 : c < 0
        · subst h
          have h1 := fm_neg 0 hc0
          unfold fd fm at h1 ⊢
          rw [if_pos hc0, if_pos hc0, if_pos hc0]
          simp
        · exact fd_same hc (.inr (by omega))
      · exact fd_same hc h
    rw [hfd.1, hfd.2, ← h63]
    have low : decide (((M.natAbs / c.natAbs / 18446744073709551616 : Nat) : Int) ≥ 9223372036854775808) = false := decide_eq_false (by omega)
    unfold J_checked_MulDiv_501 T_checked_MulDiv_501 J_checked_MulDiv_2005 T_checked_MulDiv_2005 J_checked_MulDiv_1003 T_checked_MulDiv_1003
    rw [low]
    rcases hs with ⟨h1, h2, h3⟩ | ⟨h1, h2, h3⟩ | ⟨h1, h2, h3⟩ | ⟨h1, h2, h3⟩
    · rw [decide_eq_true h1, decide_eq_true h2, decide_eq_false h3]; rfl
    · rw [decide_eq_true h1, decide_eq_false h2, decide_eq_true h3]; rfl
    · rw [decide_eq_false h1, decide_eq_true h2, decide_eq_true h3]; rfl
    · rw [decide_eq_false h1, decide_eq_false h2, decide_eq_false h3]; rfl
  -- of unlike signs
  have odd : ∀ j : Int, (j = 1 ∨ j = 3) → (M = 0 ∨ (0 ≤ M ∧ c < 0) ∨ (M ≤ 0 ∧ 0 < c)) →
      ((a < 0 ∧ b < 0 ∧ c < 0) ∨ (a < 0 ∧ ¬ b < 0 ∧ ¬ c < 0) ∨ (¬ a < 0 ∧ b < 0 ∧ ¬ c < 0) ∨ (¬ a < 0 ∧ ¬ b < 0 ∧ c < 0)) →
      J_checked_MulDiv_125 (CP C (k + 4)) (k + 4) a b c ((M.natAbs % c.natAbs : Nat) : Int) j ((M.natAbs / c.natAbs / 18446744073709551616 : Nat) : Int) ((M.natAbs / c.natAbs % 18446744073709551616 : Nat) : Int) = some (mdV (fd M c) (fm M c)) := by
    intro j hj hM hs
    have hM' : (0 ≤ M ∧ c < 0) ∨ (M ≤ 0 ∧ 0 < c) := by omega
    obtain ⟨f1, f2⟩ := fd_unlike hc hM'
    have tl : ∀ (r : Nat) (w : Int), (-170141183460469231731687303715884105728 ≤ w ∧ w < 170141183460469231731687303715884105728) → ((r : Int) < 9223372036854775808 ∨ (c < 0 ∧ (r : Int) = 9223372036854775808)) →
        J_checked_MulDiv_501 (CP C (k + 4)) (k + 4) a b c (r : Int) (((w % 340282366920938463463374607431768211456).toNat / 18446744073709551616 : Nat) : Int) (((w % 340282366920938463463374607431768211456).toNat % 18446744073709551616 : Nat) : Int) = some (mdV w (if c < 0 then -(r : Int) else (r : Int))) := by
      intro r w hw hrr
      have h63 := md63 (k + 2) c w r hw hrr
      rw [← h63]
      unfold J_checked_MulDiv_501 T_checked_MulDiv_501 J_checked_MulDiv_2005 T_checked_MulDiv_2005 J_checked_MulDiv_1003 T_checked_MulDiv_1003
      rcases hs with ⟨h1, h2, h3⟩ | ⟨h1, h2, h3⟩ | ⟨h1, h2, h3⟩ | ⟨h1, h2, h3⟩
      · rw [decide_eq_true h1, decide_eq_true h2, decide_eq_true h3]; rfl
      · rw [decide_eq_true h1, decide_eq_false h2, decide_eq_false h3]; rfl
      · rw [decide_eq_false h1, decide_eq_true h2, decide_eq_false h3]; rfl
      · rw [decide_eq_false h1, decide_eq_false h2, decide_eq_true h3]; rfl
    -- the quotient below 0, or 0
    have t16 : ∀ (r : Nat) (w : Int), (-170141183460469231731687303715884105728 ≤ w ∧ w ≤ 0) → ((r : Int) < 9223372036854775808 ∨ (c < 0 ∧ (r : Int) = 9223372036854775808)) →
        (cond (decide ((((w % 340282366920938463463374607431768211456).toNat / 18446744073709551616 : Nat) : Int) < 9223372036854775808))
          (J_checked_MulDiv_16015 (CP C (k + 4)) (k + 4) a b c (r : Int) (!(((((w % 340282366920938463463374607431768211456).toNat / 18446744073709551616 : Nat) : Int) == 0) && (((((w % 340282366920938463463374607431768211456).toNat % 18446744073709551616 : Nat) : Int) == 0) && true))) (((w % 340282366920938463463374607431768211456).toNat / 18446744073709551616 : Nat) : Int) (((w % 340282366920938463463374607431768211456).toNat % 18446744073709551616 : Nat) : Int))
          (J_checked_MulDiv_16015 (CP C (k + 4)) (k + 4) a b c (r : Int) false (((w % 340282366920938463463374607431768211456).toNat / 18446744073709551616 : Nat) : Int) (((w % 340282366920938463463374607431768211456).toNat % 18446744073709551616 : Nat) : Int))) = some (mdV w (if c < 0 then -(r : Int) else (r : Int))) := by
      intro r w hw hrr
      have ht := tl r w (by omega) hrr
      by_cases h0 : w = 0
      · subst h0
        exact ht
      · rw [decide_eq_false (show ¬ (((w % 340282366920938463463374607431768211456).toNat / 18446744073709551616 : Nat) : Int) < 9223372036854775808 by omega), cond_false]
        unfold J_checked_MulDiv_16015 T_checked_MulDiv_16015
        rw [cond_false]
        exact ht
    have body : (cond (decide (((M.natAbs % c.natAbs : Nat) : Int) > 0))
        ((CP C (k + 4) F_wide_Add [.agg [.int .u64 ((M.natAbs / c.natAbs / 18446744073709551616 : Nat) : Int), .int .u64 ((M.natAbs / c.natAbs % 18446744073709551616 : Nat) : Int)], .agg [.int .u64 0, .int .u64 1]]).bind fun r1 => AV.tupK r1 fun l2 => consK l2 fun v3 l4 => AV.aggK v3 fun l5 => consK l5 fun v6 l7 => AV.intK .u64 v6 fun i8 => consK l7 fun v9 l10 => AV.intK .u64 v9 fun i11 => nilK l10 (consK l4 fun v12 l13 => AV.boolK v12 fun b14 => nilK l13
          ((CP C (k + 4) F_checked_amount [.int .i64 c]).bind fun r15 => AV.intK .u64 r15 fun i16 =>
          ((CP C (k + 4) F_wide_Neg [.agg [.int .u64 i8, .int .u64 i11]]).bind fun r17 => AV.aggK r17 fun l18 => consK l18 fun v19 l20 => AV.intK .u64 v19 fun i21 => consK l20 fun v22 l23 => AV.intK .u64 v22 fun i24 => nilK l23
          (cond (decide (i21 < 9223372036854775808))
           (J_checked_MulDiv_16015 (CP C (k + 4)) (k + 4) a b c (IntKind.u64.wrap (i16 - ((M.natAbs % c.natAbs : Nat) : Int))) (!((i21 == 0) && ((i24 == 0) && true))) i21 i24)
           (J_checked_MulDiv_16015 (CP C (k + 4)) (k + 4) a b c (IntKind.u64.wrap (i16 - ((M.natAbs % c.natAbs : Nat) : Int))) false i21 i24))))))
        ((CP C (k + 4) F_wide_Neg [.agg [.int .u64 ((M.natAbs / c.natAbs / 18446744073709551616 : Nat) : Int), .int .u64 ((M.natAbs / c.natAbs % 18446744073709551616 : Nat) : Int)]]).bind fun r25 => AV.aggK r25 fun l26 => consK l26 fun v27 l28 => AV.intK .u64 v27 fun i29 => consK l28 fun v30 l31 => AV.intK .u64 v30 fun i32 => nilK l31
          (cond (decide (i29 < 9223372036854775808))
           (J_checked_MulDiv_16015 (CP C (k + 4)) (k + 4) a b c ((M.natAbs % c.natAbs : Nat) : Int) (!((i29 == 0) && ((i32 == 0) && true))) i29 i32)
           (J_checked_MulDiv_16015 (CP C (k + 4)) (k + 4) a b c ((M.natAbs % c.natAbs : Nat) : Int) false i29 i32)))) = some (mdV (fd M c) (fm M c)) := by
      by_cases r0 : M.natAbs % c.natAbs = 0
      · rw [if_pos r0] at f1 f2
        have hg := sg_wide_Neg (k + 2) ((M.natAbs / c.natAbs : Nat) : Int)
        rw [← wI_of _ (by omega)] at hg
        rw [r0, decide_eq_false (show ¬ (((0 : Nat) : Int) > 0) by decide), cond_false, hg]
        simp only [k_bind, k_agg, k_cons, k_int, k_nil]
        have := t16 0 (-((M.natAbs / c.natAbs : Nat) : Int)) (by omega) (by omega)
        rw [f1, f2]
        rw [this]
        rw [show (if c < 0 then -((0 : Nat) : Int) else ((0 : Nat) : Int)) = 0 by split <;> rfl]
      · rw [if_neg r0] at f1 f2
        have ha1 := sg_wide_Add (k + 3) ((M.natAbs / c.natAbs : Nat) : Int) 1
        rw [← wI_of _ (by omega), show wI 1 = .agg [.int .u64 0, .int .u64 1] from rfl] at ha1
        rw [decide_eq_true (show (((M.natAbs % c.natAbs : Nat) : Int) > 0) by omega), cond_true, ha1]
        simp only [k_bind, k_tup, k_agg, k_cons, k_int, k_nil, k_bool]
        rw [sp_checked_amount (k + 3) c hc', sg_wide_Neg (k + 2)]
        simp only [k_bind, k_agg, k_cons, k_int, k_nil]
        have hrest : IntKind.u64.wrap ((c.natAbs : Int) - ((M.natAbs % c.natAbs : Nat) : Int)) = ((c.natAbs - M.natAbs % c.natAbs : Nat) : Int) := by rw [IntKind.wrap_u64]; omega
        rw [hrest]
        have := t16 (c.natAbs - M.natAbs % c.natAbs) (-(((M.natAbs / c.natAbs : Nat) : Int) + 1)) (by omega) (by omega)
        rw [this, f1, f2, show -(((M.natAbs / c.natAbs : Nat) : Int) + 1) = -((M.natAbs / c.natAbs : Nat) : Int) - 1 by omega]
        rw [show ((c.natAbs - M.natAbs % c.natAbs : Nat) : Int) = (c.natAbs : Int) - ((M.natAbs % c.natAbs : Nat) : Int) by omega]
    unfold J_checked_MulDiv_125 T_checked_MulDiv_125
    rcases hj with rfl | rfl
    · rw [show ((1 : Int) == 1) = true from rfl, cond_true]
      exact body
    · rw [show ((3 : Int) == 1) = false from rfl, cond_false, show ((3 : Int) == 3) = true from rfl, cond_true]
      exact body
  rw [show ((0 : Int) != 0) = false from rfl, cond_false]
  by_cases h1 : a < 0
  · rw [decide_eq_true h1, cond_true]
    by_cases h2 : b < 0
    · rw [decide_eq_true h2, cond_true]
      by_cases h3 : c < 0
      · rw [decide_eq_true h3, cond_true]
        exact odd 3 (.inr rfl) (by omega) (.inl ⟨h1, h2, h3⟩)
      · rw [decide_eq_false h3, cond_false]
        exact even 2 (by decide) (by omega) (.inl ⟨h1, h2, h3⟩)
    · rw [decide_eq_false h2, cond_false]
      by_cases h3 : c < 0
      · rw [decide_eq_true h3, cond_true]
        exact even 2 (by decide) (by omega) (.inr (.inl ⟨h1, h2, h3⟩))
      · rw [decide_eq_false h3, cond_false]
        exact odd 1 (.inl rfl) (by omega) (.inr (.inl ⟨h1, h2, h3⟩))
  · rw [decide_eq_false h1, cond_false]
    by_cases h2 : b < 0
    · rw [decide_eq_true h2, cond_true]
      by_cases h3 : c < 0
      · rw [decide_eq_true h3, cond_true]
        exact even 2 (by decide) (by omega) (.inr (.inr (.inl ⟨h1, h2, h3⟩)))
      · rw [decide_eq_false h3, cond_false]
        exact odd 1 (.inl rfl) (by omega) (.inr (.inr (.inl ⟨h1, h2, h3⟩)))
    · rw [decide_eq_false h2, cond_false]
      by_cases h3 : c < 0
      · rw [decide_eq_true h3, cond_true]
        exact odd 1 (.inl rfl) (by omega) (.inr (.inr (.inr ⟨h1, h2, h3⟩)))
      · rw [decide_eq_false h3, cond_false]
        exact even 0 (by decide) (by omega) (.inr (.inr (.inr ⟨h1, h2, h3⟩)))
theorem sp_wide_Div0 (n A : Nat) : CP C (n + 1) F_wide_Div [wv A, .int .u64 0] = some (.tup [.agg [.int .u64 0, .int .u64 0], .int .u64 0, .int .i64 5]) := by
  rw [eq_wide_Div]; rfl
theorem sc_MulDiv0 (k : Nat) (a b : Int) (ha : -9223372036854775808 ≤ a ∧ a ≤ 9223372036854775807) (hb : -9223372036854775808 ≤ b ∧ b ≤ 9223372036854775807) :
    CP C (k + 5) F_checked_MulDiv [.int .i64 a, .int .i64 b, .int .i64 0] = some (.tup [.int .i64 0, .int .i64 0, .int .i64 5]) := by
  rw [eq_checked_MulDiv]
  unfold R_checked_MulDiv T_checked_MulDiv_1
  have hm := mul_bound ha hb
  rw [sp_checked_amount (k + 3) a ha, sp_checked_amount (k + 3) b hb, sp_checked_amount (k + 3) 0 (by decide)]
  simp only [k_bind, k_int]
  rw [sp_wide_Mul (k + 2) a.natAbs b.natAbs (by omega) (by omega)]
  simp only [k_bind, k_tup, k_agg, k_cons, k_int, k_nil]
  have h0 := sp_wide_Div0 (k + 3) (a.natAbs * b.natAbs)
  rw [show (((0 : Int).natAbs : Nat) : Int) = 0 from rfl, h0]
  rfl
end Go.Proofs.Ytacnmhgniaagiaa.Sim.S
