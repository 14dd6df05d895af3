/- Durations so many times, and divided. Condition: none beyond what each theorem says. -/
import Derived.Test.YtomcohbkmlempaaSpecDur
set_option linter.unusedSimpArgs false
set_option linter.unusedVariables false
namespace Go.Proofs.Ytomcohbkmlempaa.Sim.S
open Go

theorem halves (V a : Nat) : V * a = V % 18446744073709551616 * a + V / 18446744073709551616 * a * 18446744073709551616 := by
  have h := Nat.div_add_mod V 18446744073709551616
  have h2 : V * a = (18446744073709551616 * (V / 18446744073709551616) + V % 18446744073709551616) * a := by rw [h]
  rw [h2, Nat.add_mul, Nat.add_comm, Nat.mul_assoc, Nat.mul_comm 18446744073709551616]
theorem wv_high (H : Nat) (h : H < 18446744073709551616) : AV.agg [.int .u64 (H : Int), .int .u64 0] = wv (H * 18446744073709551616) := by
  unfold wv
  rw [show H * 18446744073709551616 / 18446744073709551616 = H by omega, show H * 18446744073709551616 % 18446744073709551616 = 0 by omega]; rfl
theorem times_fin (P H : Nat) (neg : Bool) (hP : P < 340282366920938463463374607431768211456) (hH : H < 1180591620717411303424) :
    ∃ w, w < 340282366920938463463374607431768211456 ∧ (P + H * 18446744073709551616 < 85070591730234615865843651857942052864 → w = P + H * 18446744073709551616) ∧
    w = (P + H % 18446744073709551616 * 18446744073709551616) % 340282366920938463463374607431768211456 ∧
    (cond (((H / 18446744073709551616 : Nat) : Int) == 0)
      (cond (!(decide (340282366920938463463374607431768211456 ≤ P + H % 18446744073709551616 * 18446744073709551616)))
        (some (AV.tup [nb neg w, .bool (decide (((w / 18446744073709551616 : Nat) : Int) < 4611686018427387904))]))
        (some (AV.tup [nb neg w, .bool false])))
      (some (AV.tup [nb neg w, .bool false]))) = some (AV.tup [nb neg w, .bool (decide (P + H * 18446744073709551616 < 85070591730234615865843651857942052864))]) := by
  refine ⟨(P + H % 18446744073709551616 * 18446744073709551616) % 340282366920938463463374607431768211456, by omega, by omega, rfl, ?_⟩
  by_cases h1 : H / 18446744073709551616 = 0
  · rw [h1, show (((0 : Nat) : Int) == 0) = true from rfl, cond_true]
    by_cases h2 : 340282366920938463463374607431768211456 ≤ P + H % 18446744073709551616 * 18446744073709551616
    · rw [decide_eq_true h2, decide_eq_false (show ¬ (P + H * 18446744073709551616 < 85070591730234615865843651857942052864) by omega)]; rfl
    · rw [decide_eq_false h2, Bool.not_false, cond_true]
      rw [show decide ((((P + H % 18446744073709551616 * 18446744073709551616) % 340282366920938463463374607431768211456 / 18446744073709551616 : Nat) : Int) < 4611686018427387904) = decide (P + H * 18446744073709551616 < 85070591730234615865843651857942052864) by
        rw [decide_eq_decide]; omega]
  · rw [show (((H / 18446744073709551616 : Nat) : Int) == 0) = false by rw [beq_eq_false_iff_ne]; omega, cond_false, decide_eq_false (show ¬ (P + H * 18446744073709551616 < 85070591730234615865843651857942052864) by omega)]
theorem sp_number_times (k : Nat) (b : Bool) (V : Nat) (n : Int) (hV : V ≤ 1099511627776000000000) (hn : -9223372036854775808 ≤ n ∧ n ≤ 9223372036854775807) :
    ∃ w, w < 340282366920938463463374607431768211456 ∧ (V * n.natAbs < 85070591730234615865843651857942052864 → w = V * n.natAbs) ∧
    CP C (k + 3) F_dur_number_times [nb b V, .int .i64 n] = some (.tup [nb (!(b == decide (n < 0))) w, .bool (decide (V * n.natAbs < 85070591730234615865843651857942052864))]) := by
  rw [eq_dur_number_times]
  unfold R_dur_number_times
  have hP : V % 18446744073709551616 * n.natAbs < 18446744073709551616 * 9223372036854775809 := Nat.mul_lt_mul'' (by omega) (by omega)
  have hH : V / 18446744073709551616 * n.natAbs ≤ 60 * 9223372036854775808 := Nat.mul_le_mul (by omega) (by omega)
  have hh := halves V n.natAbs
  obtain ⟨w, w1, w2, w3, w4⟩ := times_fin (V % 18446744073709551616 * n.natAbs) (V / 18446744073709551616 * n.natAbs) (!(b == decide (n < 0))) (by omega) (by omega)
  refine ⟨w, w1, by rw [hh]; exact w2, ?_⟩
  rw [hh, ← w4]
  have fl := sp_wide_Mul k (V % 18446744073709551616) n.natAbs (by omega) (by omega)
  have fh := sp_wide_Mul k (V / 18446744073709551616) n.natAbs (by omega) (by omega)
  have fa := sp_wide_Add (k + 1) (V % 18446744073709551616 * n.natAbs) (V / 18446744073709551616 * n.natAbs % 18446744073709551616 * 18446744073709551616) (by omega) (by omega)
  rw [← wv_high _ (by omega), ← w3] at fa
  by_cases g : n < 0
  · have e1 : IntKind.u64.wrap (0 - IntKind.u64.wrap n) = ((n.natAbs : Nat) : Int) := by rw [IntKind.wrap_u64, IntKind.wrap_u64]; omega
    rw [decide_eq_true g, cond_true, e1, fl, fh]
    simp only [k_bind, k_tup, k_agg, k_cons, k_int, k_nil, k_bool]
    rw [fa]
    simp only [k_bind, k_tup, k_agg, k_cons, k_int, k_nil, k_bool]
  · have e1 : IntKind.u64.wrap n = ((n.natAbs : Nat) : Int) := by rw [IntKind.wrap_u64]; omega
    rw [decide_eq_false g, cond_false, e1, fl, fh]
    simp only [k_bind, k_tup, k_agg, k_cons, k_int, k_nil, k_bool]
    rw [fa]
    simp only [k_bind, k_tup, k_agg, k_cons, k_int, k_nil, k_bool]
theorem sgn_mul_int (z n : Int) (V : Nat) (hV : V = z.natAbs) : sgn (!(decide (z < 0) == decide (n < 0))) (V * n.natAbs) = z * n := by
  subst hV
  unfold sgn
  by_cases h1 : z < 0
  · by_cases h2 : n < 0
    · rw [decide_eq_true h1, decide_eq_true h2, if_neg (by decide)]; exact natAbs_mul_pos (.inl ⟨h1, h2⟩)
    · rw [decide_eq_true h1, decide_eq_false h2, if_pos (by decide)]; exact natAbs_mul_neg (.inl ⟨h1, h2⟩)
  · by_cases h2 : n < 0
    · rw [decide_eq_false h1, decide_eq_true h2, if_pos (by decide)]; exact natAbs_mul_neg (.inr ⟨h1, h2⟩)
    · rw [decide_eq_false h1, decide_eq_false h2, if_neg (by decide)]; exact natAbs_mul_pos (.inr ⟨h1, h2⟩)
theorem sp_dur_Mul (k : Nat) (s n x : Int) (hs : -9223372036854775808 ≤ s ∧ s ≤ 9223372036854775807) (hn : -9223372036854775808 ≤ n ∧ n ≤ 9223372036854775807) (hx : -9223372036854775808 ≤ x ∧ x ≤ 9223372036854775807) :
    CP C (k + 6) F_dur_Mul [ins s n, .int .i64 x] = some (dmV (dE s n) ((s * 1000000000 + n) * x)) := by
  rw [eq_dur_Mul]
  unfold R_dur_Mul
  rw [sp_dur_of (k + 2) s n hs hn]
  simp only [k_bind, k_tup, k_agg, k_cons, k_int, k_nil, k_bool]
  rw [sp_dur_Check (k + 4)]
  simp only [k_bind, k_int]
  by_cases h : dE s n = 0
  · obtain ⟨g1, g2, g3⟩ := sgn_of h
    rw [dmV_ok _ h, h, show ((0 : Int) != 0) = false from rfl, cond_false, g1]
    obtain ⟨w, w1, w2, w3⟩ := sp_number_times (k + 2) (decide (s < 0)) (s * 1000000000 + n).natAbs x g3 hx
    rw [w3]
    simp only [k_bind, k_tup, k_agg, k_cons, k_int, k_nil, k_bool]
    by_cases c : (s * 1000000000 + n).natAbs * x.natAbs < 85070591730234615865843651857942052864
    · rw [decide_eq_true c, Bool.not_true, cond_false, sp_number_dur k _ w w1, w2 c, show decide (s < 0) = decide (s * 1000000000 + n < 0) by rw [decide_eq_decide]; exact g2, sgn_mul_int _ _ _ rfl]
      simp only [k_bind, k_tup, k_agg, k_cons, k_int, k_nil, k_bool]
    · rw [decide_eq_false c, Bool.not_false, cond_true]
      rw [← Int.natAbs_mul] at c
      rw [duV_far (by unfold din; omega)]
  · rw [show (dE s n != 0) = true from bne_iff_ne.2 h, cond_true, dmV_err _ h]
theorem sp_number_by (k : Nat) (z n : Int) (hz : z.natAbs ≤ 1099511627776000000000) (hn : -9223372036854775808 ≤ n ∧ n ≤ 9223372036854775807) (h0 : n ≠ 0) :
    ∃ w, w < 340282366920938463463374607431768211456 ∧ sgn (!(decide (z < 0) == decide (n < 0))) w = fd z n ∧
    CP C (k + 5) F_dur_number_by [nb (decide (z < 0)) z.natAbs, .int .i64 n] = some (.tup [nb (!(decide (z < 0) == decide (n < 0))) w, .bool true]) := by
  rw [eq_dur_number_by]
  unfold R_dur_number_by
  have hd := sp_wide_Div k z.natAbs n.natAbs (by omega) (by omega) (by omega)
  have hq : z.natAbs / n.natAbs ≤ z.natAbs := Nat.div_le_self _ _
  have ha := sp_wide_Add (k + 3) (z.natAbs / n.natAbs) 1 (by omega) (by omega)
  rw [show wv 1 = .agg [.int .u64 0, .int .u64 1] from rfl, Nat.mod_eq_of_lt (show z.natAbs / n.natAbs + 1 < 340282366920938463463374607431768211456 by omega)] at ha
  have both : ∀ neg : Bool, neg = !(decide (z < 0) == decide (n < 0)) → ∃ w, w < 340282366920938463463374607431768211456 ∧ sgn neg w = fd z n ∧
      (cond (decide (((z.natAbs % n.natAbs : Nat) : Int) > 0))
       (cond neg
        ((CP C (k + 4) F_wide_Add [.agg [.int .u64 ((z.natAbs / n.natAbs / 18446744073709551616 : Nat) : Int), .int .u64 ((z.natAbs / n.natAbs % 18446744073709551616 : Nat) : Int)], .agg [.int .u64 0, .int .u64 1]]).bind fun r18 => AV.tupK r18 fun l19 => consK l19 fun v20 l21 => AV.aggK v20 fun l22 => consK l22 fun v23 l24 => AV.intK .u64 v23 fun i25 => consK l24 fun v26 l27 => AV.intK .u64 v26 fun i28 => nilK l27 (consK l21 fun v29 l30 => AV.boolK v29 fun b31 => nilK l30
          (some (AV.tup [.agg [.bool neg, .int .u64 i25, .int .u64 i28], .bool ((0 : Int) == 0)]))))
        (some (AV.tup [nb neg (z.natAbs / n.natAbs), .bool ((0 : Int) == 0)])))
       (some (AV.tup [nb neg (z.natAbs / n.natAbs), .bool ((0 : Int) == 0)]))) = some (AV.tup [nb neg w, .bool true]) := by
    intro neg hneg
    cases neg
    · refine ⟨z.natAbs / n.natAbs, by omega, ?_, ?_⟩
      · have hs : (z < 0 ∧ n < 0) ∨ (0 ≤ z ∧ 0 < n) := by
          by_cases c1 : z < 0
          · by_cases c2 : n < 0
            · exact .inl ⟨c1, c2⟩
            · rw [decide_eq_true c1, decide_eq_false c2] at hneg; exact absurd hneg (by decide)
          · by_cases c2 : n < 0
            · rw [decide_eq_false c1, decide_eq_true c2] at hneg; exact absurd hneg (by decide)
            · omega
        rw [(fd_same h0 hs).1]; rfl
      · cases decide (((z.natAbs % n.natAbs : Nat) : Int) > 0) <;> rfl
    · have hs : (0 ≤ z ∧ n < 0) ∨ (z ≤ 0 ∧ 0 < n) := by
        by_cases c1 : z < 0
        · by_cases c2 : n < 0
          · rw [decide_eq_true c1, decide_eq_true c2] at hneg; exact absurd hneg (by decide)
          · omega
        · by_cases c2 : n < 0
          · omega
          · rw [decide_eq_false c1, decide_eq_false c2] at hneg; exact absurd hneg (by decide)
      have hf := (fd_unlike h0 hs).1
      by_cases r : z.natAbs % n.natAbs = 0
      · refine ⟨z.natAbs / n.natAbs, by omega, ?_, ?_⟩
        · rw [hf, if_pos r]; rfl
        · rw [decide_eq_false (show ¬ ((z.natAbs % n.natAbs : Nat) : Int) > 0 by omega)]; rfl
      · refine ⟨z.natAbs / n.natAbs + 1, by omega, ?_, ?_⟩
        · rw [hf, if_neg r]
          show -((z.natAbs / n.natAbs + 1 : Nat) : Int) = _
          rw [Int.natCast_add]
          generalize ((z.natAbs / n.natAbs : Nat) : Int) = q
          show -(q + 1) = -q - 1
          omega
        · rw [decide_eq_true (show ((z.natAbs % n.natAbs : Nat) : Int) > 0 by omega), cond_true, cond_true, ha]
          simp only [k_bind, k_tup, k_agg, k_cons, k_int, k_nil, k_bool]
          rfl
  obtain ⟨w, w1, w2, w3⟩ := both _ rfl
  refine ⟨w, w1, w2, ?_⟩
  rw [← w3]
  by_cases g : n < 0
  · have e1 : IntKind.u64.wrap (0 - IntKind.u64.wrap n) = ((n.natAbs : Nat) : Int) := by rw [IntKind.wrap_u64, IntKind.wrap_u64]; omega
    rw [decide_eq_true g, cond_true, e1, hd]
    simp only [k_bind, k_tup, k_agg, k_cons, k_int, k_nil, k_bool]
  · have e1 : IntKind.u64.wrap n = ((n.natAbs : Nat) : Int) := by rw [IntKind.wrap_u64]; omega
    rw [decide_eq_false g, cond_false, e1, hd]
    simp only [k_bind, k_tup, k_agg, k_cons, k_int, k_nil, k_bool]
def dvE (s n x : Int) : Int := if x = 0 then 5 else dE s n
theorem sp_dur_Div (k : Nat) (s n x : Int) (hs : -9223372036854775808 ≤ s ∧ s ≤ 9223372036854775807) (hn : -9223372036854775808 ≤ n ∧ n ≤ 9223372036854775807) (hx : -9223372036854775808 ≤ x ∧ x ≤ 9223372036854775807) :
    CP C (k + 6) F_dur_Div [ins s n, .int .i64 x] = some (dmV (dvE s n x) (fd (s * 1000000000 + n) x)) := by
  rw [eq_dur_Div]
  unfold R_dur_Div
  by_cases h0 : x = 0
  · subst h0
    rw [dmV_err _ (show dvE s n 0 ≠ 0 by unfold dvE; rw [if_pos rfl]; decide)]; rfl
  have hv : dvE s n x = dE s n := by unfold dvE; rw [if_neg h0]
  rw [hv, show (x == 0) = false from beq_eq_false_iff_ne.2 h0, cond_false, sp_dur_of (k + 2) s n hs hn]
  simp only [k_bind, k_tup, k_agg, k_cons, k_int, k_nil, k_bool]
  rw [sp_dur_Check (k + 4)]
  simp only [k_bind, k_int]
  by_cases h : dE s n = 0
  · obtain ⟨g1, g2, g3⟩ := sgn_of h
    rw [dmV_ok _ h, h, show ((0 : Int) != 0) = false from rfl, cond_false, g1, show decide (s < 0) = decide (s * 1000000000 + n < 0) by rw [decide_eq_decide]; exact g2]
    obtain ⟨w, w1, w2, w3⟩ := sp_number_by k (s * 1000000000 + n) x g3 hx h0
    rw [w3]
    simp only [k_bind, k_tup, k_agg, k_cons, k_int, k_nil, k_bool]
    rw [Bool.not_true, cond_false, sp_number_dur k _ w w1, w2]
    simp only [k_bind, k_tup, k_agg, k_cons, k_int, k_nil, k_bool]
  · rw [show (dE s n != 0) = true from bne_iff_ne.2 h, cond_true, dmV_err _ h]
theorem sp_ref04_Div (k : Nat) (s n x : Int) (hx : -9223372036854775808 ≤ x ∧ x ≤ 9223372036854775807) : CP C (k + 7) F_ref04_Div [ins s n, .int .i64 x] = some (dmV (dvE s n x) (fd (s * 1000000000 + n) x)) := by
  rw [eq_ref04_Div]
  unfold R_ref04_Div
  rw [sp_ref03_CheckDur]
  simp only [k_bind, k_int]
  by_cases h0 : x = 0
  · subst h0
    rw [dmV_err _ (show dvE s n 0 ≠ 0 by unfold dvE; rw [if_pos rfl]; decide)]; rfl
  have hv : dvE s n x = dE s n := by unfold dvE; rw [if_neg h0]
  rw [hv, show (x == 0) = false from beq_eq_false_iff_ne.2 h0, cond_false]
  by_cases h : dE s n = 0
  · have hb := fd_bound (z := s * 1000000000 + n) h0
    have h1 := h
    unfold dE at h1
    rw [dmV_ok _ h, h, show ((0 : Int) != 0) = false from rfl, cond_false, sp_ref04_wide (k + 1) s n (by omega) (by omega)]
    simp only [k_bind, k_tup, k_agg, k_cons, k_int, k_nil, k_bool]
    rw [sr_Floor (k + 2) _ x (by omega) h0 hx]
    simp only [k_bind, k_tup, k_agg, k_cons, k_int, k_nil, k_bool]
    rw [sp_ref04_OfNanos k _ (by omega)]
    simp only [k_bind, k_tup, k_agg, k_cons, k_int, k_nil, k_bool]
  · rw [show (dE s n != 0) = true from bne_iff_ne.2 h, cond_true, dmV_err _ h]
theorem sp_ref04_Mul (k : Nat) (s n x : Int) (hx : -9223372036854775808 ≤ x ∧ x ≤ 9223372036854775807) : CP C (k + 7) F_ref04_Mul [ins s n, .int .i64 x] = some (dmV (dE s n) ((s * 1000000000 + n) * x)) := by
  rw [eq_ref04_Mul]
  unfold R_ref04_Mul T_ref04_Mul_1
  rw [sp_ref03_CheckDur]
  simp only [k_bind, k_int]
  by_cases h : dE s n = 0
  · obtain ⟨g1, g2, g3⟩ := sgn_of h
    have h1 := h
    unfold dE at h1
    rw [dmV_ok _ h, h, show ((0 : Int) != 0) = false from rfl, cond_false, sp_ref04_wide (k + 1) s n (by omega) (by omega)]
    simp only [k_bind, k_tup, k_agg, k_cons, k_int, k_nil, k_bool]
    clear g1 g2 h h1
    generalize s * 1000000000 + n = z at *
    rw [sp_ref01_Below (k + 5) z (by omega)]
    simp only [k_bind, k_bool]
    have key : ∀ V : Nat, V = z.natAbs → J_ref04_Mul_63 (CP C (k + 6)) (k + 6) x (!(decide (z < 0) == decide (x < 0))) ((V / 18446744073709551616 : Nat) : Int) ((V % 18446744073709551616 : Nat) : Int) = some (duV (z * x)) := by
      intro V hVz
      have hV : V ≤ 1099511627776000000000 := by omega
      have hP : V % 18446744073709551616 * x.natAbs < 18446744073709551616 * 9223372036854775809 := Nat.mul_lt_mul'' (by omega) (by omega)
      have hH : V / 18446744073709551616 * x.natAbs ≤ 60 * 9223372036854775808 := Nat.mul_le_mul (by omega) (by omega)
      have hh := halves V x.natAbs
      have hsg := sgn_mul_int z x V hVz
      have hab : V * x.natAbs = (z * x).natAbs := by rw [hVz, Int.natAbs_mul]
      unfold J_ref04_Mul_63 T_ref04_Mul_63
      rw [sp_ref02_Amount (k + 5) x hx]
      simp only [k_bind, k_int]
      rw [sp_ref01_Mul (k + 4) (V % 18446744073709551616) x.natAbs (by omega) (by omega), sp_ref01_Mul (k + 4) (V / 18446744073709551616) x.natAbs (by omega) (by omega)]
      have fa := sp_ref01_Add (k + 4) (V % 18446744073709551616 * x.natAbs) (V / 18446744073709551616 * x.natAbs % 18446744073709551616 * 18446744073709551616) (by omega) (by omega)
      rw [← wv_high _ (by omega)] at fa
      simp only [k_bind, k_tup, k_agg, k_cons, k_int, k_nil, k_bool]
      rw [fa]
      simp only [k_bind, k_tup, k_agg, k_cons, k_int, k_nil, k_bool]
      have far : ¬ (V * x.natAbs < 170141183460469231731687303715884105728) → ∀ (b : Bool) (i j : Int), J_ref04_Mul_2045 (CP C (k + 6)) (k + 6) b true i j = some (duV (z * x)) := by
        intro hf b i j
        rw [duV_far (by unfold din; omega)]; rfl
      clear fa hP
      generalize V % 18446744073709551616 * x.natAbs = P at *
      generalize V / 18446744073709551616 * x.natAbs = H at *
      by_cases c1 : 340282366920938463463374607431768211456 ≤ P + H % 18446744073709551616 * 18446744073709551616
      · rw [decide_eq_true c1, cond_true]
        exact far (by omega) _ _ _
      rw [decide_eq_false c1, cond_false]
      by_cases c2 : H / 18446744073709551616 = 0
      · rw [c2, show ((((0 : Nat) : Int)) != 0) = false from rfl, cond_false]
        have e : (P + H % 18446744073709551616 * 18446744073709551616) % 340282366920938463463374607431768211456 = V * x.natAbs := by omega
        rw [e]
        by_cases c3 : V * x.natAbs < 170141183460469231731687303715884105728
        · have fb := sp_ref01_Below (k + 5) ((V * x.natAbs : Nat) : Int) (by omega)
          rw [← wI_of _ (by omega)] at fb
          rw [fb, decide_eq_false (show ¬ ((V * x.natAbs : Nat) : Int) < 0 by omega)]
          simp only [k_bind, k_bool]
          unfold J_ref04_Mul_2045 T_ref04_Mul_2045
          rw [cond_false]
          cases hb : (!(decide (z < 0) == decide (x < 0)))
          · rw [hb] at hsg
            have fo := sp_ref04_OfNanos k ((V * x.natAbs : Nat) : Int) (by omega)
            rw [← wI_of _ (by omega)] at fo
            rw [cond_false, fo]
            simp only [k_bind, k_tup, k_agg, k_cons, k_int, k_nil, k_bool]
            rw [show ((V * x.natAbs : Nat) : Int) = z * x from hsg]
          · rw [hb] at hsg
            have fn := sg_ref01_Neg (k + 3) ((V * x.natAbs : Nat) : Int)
            rw [← wI_of _ (by omega)] at fn
            rw [cond_true, fn]
            simp only [k_bind, k_tup, k_agg, k_cons, k_int, k_nil, k_bool]
            rw [sp_ref04_OfNanos k _ (by omega)]
            simp only [k_bind, k_tup, k_agg, k_cons, k_int, k_nil, k_bool]
            rw [show -((V * x.natAbs : Nat) : Int) = z * x from hsg]
        · have fb : CP C (k + 6) F_ref01_Below [wv (V * x.natAbs)] = some (.bool true) := by
            rw [eq_ref01_Below]
            unfold R_ref01_Below
            rw [decide_eq_true (show ((V * x.natAbs / 18446744073709551616 : Nat) : Int) ≥ 9223372036854775808 by omega)]
          rw [fb]
          simp only [k_bind, k_bool]
          exact far c3 _ _ _
      · rw [show (((H / 18446744073709551616 : Nat) : Int) != 0) = true by rw [bne_iff_ne]; omega, cond_true]
        exact far (by omega) _ _ _
    by_cases c : z < 0
    · have fn := sg_ref01_Neg (k + 3) z
      rw [show wI (-z) = wv z.natAbs by unfold wI; rw [show (-z % 340282366920938463463374607431768211456).toNat = z.natAbs by omega]] at fn
      rw [decide_eq_true c] at key ⊢
      rw [cond_true, fn]
      simp only [k_bind, k_tup, k_agg, k_cons, k_int, k_nil, k_bool]
      exact key _ rfl
    · rw [decide_eq_false c] at key ⊢
      rw [cond_false, show (z % 340282366920938463463374607431768211456).toNat = z.natAbs by omega]
      exact key _ rfl
  · rw [show (dE s n != 0) = true from bne_iff_ne.2 h, cond_true, dmV_err _ h]
end Go.Proofs.Ytomcohbkmlempaa.Sim.S
