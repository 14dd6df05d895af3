/- A number of 128 bits in digits, and back: what the program's and the document's functions answer. Condition: none beyond what each theorem says. -/
import Derived.Test.YtbikcndldcfffaaDoorSpecProg
import Derived.Test.YtbikcndldcfffaaDoorSimDec
set_option linter.unusedSimpArgs false
set_option linter.unusedVariables false
open Go Go.Proofs
namespace Go.Proofs.YtbikcndldcfffaaDoor.Sim.S
open Go
theorem cF {R : Type} (x y : R) : cond false x y = y := of_eq_true (eq_self _)
theorem cT {R : Type} (x y : R) : cond true x y = x := of_eq_true (eq_self _)
theorem byte_digit (k : Nat) (h : k < 10) : AV.int .u8 (IntKind.u8.wrap (48 + (IntKind.u8.wrap ((k : Nat) : Int)))) = bAV (UInt8.ofNat (48 + k)) := by
  unfold bAV
  rw [dig_toNat k h, IntKind.wrap_u8, IntKind.wrap_u8]
  congr 1
  omega
theorem byte_digit' (k : Nat) (h : k < 10) : AV.int .u8 (IntKind.u8.wrap (IntKind.u64.wrap (48 + ((k : Nat) : Int)))) = bAV (UInt8.ofNat (48 + k)) := by
  unfold bAV
  rw [dig_toNat k h, IntKind.wrap_u8, IntKind.wrap_u64]
  congr 1
  omega
theorem wv0 (Q : Nat) (hQ : Q < 340282366920938463463374607431768211456) : (((((Q / 18446744073709551616 : Nat) : Int) == 0) && ((((Q % 18446744073709551616 : Nat) : Int) == 0) && true)) = decide (Q = 0)) := by
  by_cases h : Q = 0
  · subst h; rfl
  · rw [decide_eq_false h, Bool.and_true, Bool.and_eq_false_iff, beq_eq_false_iff_ne, beq_eq_false_iff_ne]
    omega
theorem no_max (n : Nat) (h : n ≤ 1000) : decide (((n : Nat) : Int) > IntKind.i64.max) = false := decide_eq_false (by
  have : IntKind.i64.max = 9223372036854775807 := rfl
  omega)
/-- The document's digits, round by round. -/
theorem digits_loop (n : Nat) : ∀ (f A : Nat) (s : List UInt8) (m : Nat), f ≤ m → A < 10 ^ f → 0 < f → s.length + f ≤ 100 → A < 340282366920938463463374607431768211456 →
    J_ref01_digits_28 (CP C (n + 2)) (n + 2) m (BA s) ((A / 18446744073709551616 : Nat) : Int) ((A % 18446744073709551616 : Nat) : Int) = some (.str (BA (dec f A ++ s)))
  | 0, _, _, _, _, _, h, _, _ => absurd h (by omega)
  | f + 1, A, s, 0, h, _, _, _, _ => absurd h (by omega)
  | f + 1, A, s, m + 1, hm, hA, _, hs, hA2 => by
    have hp : 10 ^ (f + 1) = 10 * 10 ^ f := by rw [Nat.pow_succ, Nat.mul_comm]
    rw [Js_ref01_digits_28]
    unfold T_ref01_digits_28
    have hd := sp_ref01_Div n A 10 hA2 (by omega) (by omega)
    have hw : (AV.agg [.int .u64 ((A / 18446744073709551616 : Nat) : Int), .int .u64 ((A % 18446744073709551616 : Nat) : Int)]) = wv A := rfl
    rw [hw, show ((10 : Nat) : Int) = 10 from rfl] at *
    rw [hd]
    unfold wv
    simp only [k_bind, k_tup, k_agg, k_cons, k_int, k_nil, k_bool]
    rw [byte_digit' _ (Nat.mod_lt _ (by decide)), wv0 _ (by omega)]
    have hb := bytesOf_map [UInt8.ofNat (48 + A % 10)] []
    rw [show (BA []) = ByteArray.empty from rfl] at hb
    simp only [List.map_cons, List.map_nil, List.nil_append] at hb
    simp only [hb]
    rw [BA_append, BA_size, BA_size, no_max _ (by simp only [List.length_cons, List.length_nil]; omega), cF]
    show cond (decide (A / 10 = 0)) _ _ = _
    by_cases h0 : A / 10 = 0
    · rw [decide_eq_true h0, cT]
      unfold dec
      rw [if_pos h0]
      rfl
    · rw [decide_eq_false h0, cF]
      have hf0 : 0 < f := by
        rcases Nat.eq_zero_or_pos f with e | e
        · subst e; omega
        · exact e
      rw [digits_loop n f (A / 10) ([UInt8.ofNat (48 + A % 10)] ++ s) m (by omega) (by omega) hf0 (by simp only [List.length_append, List.length_cons, List.length_nil]; omega) (by omega)]
      conv => rhs; unfold dec
      rw [if_neg h0, List.append_assoc]
theorem nbeq {a b : Nat} (h : a ≠ b) : Nat.beq a b = false := by
  cases e : Nat.beq a b with
  | false => rfl
  | true => exact absurd (Nat.eq_of_beq_eq_true e) h
theorem splice_at (p0 d : List AV) (y x : AV) : splice (p0 ++ [y] ++ d) p0.length [x] = p0 ++ x :: d := by
  unfold splice
  rw [show p0 ++ [y] ++ d = p0 ++ (y :: d) by simp, List.take_left, show p0.length + [x].length = p0.length + 1 from rfl, ← List.drop_drop, List.drop_left]
  simp
/-- The program's digits, round by round. -/
theorem text_loop (n : Nat) : ∀ (f A : Nat) (sg : List UInt8) (p : List AV) (d : List UInt8) (m : Nat), f ≤ m → A < 10 ^ f → 0 < f → p.length + d.length = 40 → f ≤ p.length → sg.length ≤ 1 → A < 340282366920938463463374607431768211456 →
    J_wide_Text_252 (CP C (n + 4)) (n + 4) m (BA sg) ((p.length : Nat) : Int) ((A / 18446744073709551616 : Nat) : Int) ((A % 18446744073709551616 : Nat) : Int) (p ++ d.map bAV) = some (.str (BA (sg ++ (dec f A ++ d))))
  | 0, _, _, _, _, _, _, _, h, _, _, _, _ => absurd h (by omega)
  | f + 1, A, sg, p, d, 0, h, _, _, _, _, _, _ => absurd h (by omega)
  | f + 1, A, sg, p, d, m + 1, hm, hA, _, hl, hfp, hsg, hA2 => by
    have hp : 10 ^ (f + 1) = 10 * 10 ^ f := by rw [Nat.pow_succ, Nat.mul_comm]
    obtain ⟨p0, y, rfl⟩ : ∃ p0 y, p = p0 ++ [y] := by
      have hne : p ≠ [] := fun e => by subst e; simp at hfp
      exact ⟨p.dropLast, p.getLast hne, (List.dropLast_concat_getLast hne).symm⟩
    rw [List.length_append, List.length_singleton] at hl hfp ⊢
    rw [Js_wide_Text_252]
    unfold T_wide_Text_252
    have hd := sp_wide_Div n A 10 hA2 (by omega) (by omega)
    have hw : (AV.agg [.int .u64 ((A / 18446744073709551616 : Nat) : Int), .int .u64 ((A % 18446744073709551616 : Nat) : Int)]) = wv A := rfl
    rw [show ((10 : Nat) : Int) = 10 from rfl] at hd
    rw [hw, hd]
    unfold wv
    simp only [k_bind, k_tup, k_agg, k_cons, k_int, k_nil, k_bool]
    rw [byte_digit _ (Nat.mod_lt _ (by decide)), wv0 _ (by omega)]
    have hi : IntKind.i64.wrap (((p0.length + 1 : Nat) : Int) - 1) = ((p0.length : Nat) : Int) := by
      rw [IntKind.wrap_i64]; omega
    rw [hi, Int.toNat_natCast, Nat.mul_one, Nat.zero_add, splice_at p0 (d.map bAV) y (bAV (UInt8.ofNat (48 + A % 10)))]
    rw [decide_eq_true (show (0 : Int) ≤ ((p0.length : Nat) : Int) by omega), decide_eq_true (show ((p0.length : Nat) : Int) < 40 by omega), Bool.and_self, cT]
    rw [show fits p0.length 1 (p0 ++ [y] ++ d.map bAV) = true by unfold fits; simp only [Nat.ble_eq, List.length_append, List.length_singleton]; omega, cT]
    by_cases h0 : A / 10 = 0
    · rw [decide_eq_true h0, cT, decide_eq_true (show ((p0.length : Nat) : Int) ≤ 40 by omega), Bool.and_self, cT]
      rw [nbeq (show 40 ≠ p0.length by omega), cF]
      have hb := bytesOf_map (UInt8.ofNat (48 + A % 10) :: d) []
      rw [show (BA []) = ByteArray.empty from rfl, List.nil_append] at hb
      have hdr : List.take (40 - p0.length) (List.drop p0.length (p0 ++ bAV (UInt8.ofNat (48 + A % 10)) :: d.map bAV)) = (UInt8.ofNat (48 + A % 10) :: d).map bAV := by
        rw [List.drop_left, List.map_cons]
        refine List.take_of_length_le ?_
        simp only [List.length_cons, List.length_map]; omega
      rw [hdr, show fits p0.length (40 - p0.length) (p0 ++ bAV (UInt8.ofNat (48 + A % 10)) :: d.map bAV) = true by unfold fits; simp only [Nat.ble_eq, List.length_append, List.length_cons, List.length_map]; omega, cT]
      simp only [hb]
      rw [BA_append, BA_size, BA_size, no_max _ (by simp only [List.length_cons]; omega), cF]
      unfold dec
      rw [if_pos h0]
      rfl
    · rw [decide_eq_false h0, cF]
      have hf0 : 0 < f := by
        rcases Nat.eq_zero_or_pos f with e | e
        · subst e; omega
        · exact e
      have ih := text_loop n f (A / 10) sg p0 (UInt8.ofNat (48 + A % 10) :: d) m (by omega) (by omega) hf0 (by simp only [List.length_cons]; omega) (by omega) hsg (by omega)
      rw [List.map_cons] at ih
      rw [ih]
      conv => rhs; unfold dec
      rw [if_neg h0, List.append_assoc]
      rfl
/-- Digits of a number of 128 bits, with its sign. -/
def txt (A : Nat) : List UInt8 := if 170141183460469231731687303715884105728 ≤ A then 45 :: dec 39 (340282366920938463463374607431768211456 - A) else dec 39 A
theorem p39 : (10 : Nat) ^ 39 = 1000000000000000000000000000000000000000 := by decide
theorem sp_digits (n A : Nat) (hA : A < 340282366920938463463374607431768211456) : CP C (n + 3) F_ref01_digits [wv A] = some (.str (BA (dec 39 A))) := by
  unfold wv
  rw [eq_ref01_digits]
  unfold R_ref01_digits T_ref01_digits_1
  have := digits_loop n 39 A [] (n + 2 + 300) (by omega) (by rw [p39]; omega) (by omega) (by simp) hA
  rw [List.append_nil] at this
  exact this
theorem sp_Below' (n : Nat) (A : Nat) (ha : A < 340282366920938463463374607431768211456) : CP C (n + 1) F_ref01_Below [wv A] = some (.bool (decide (170141183460469231731687303715884105728 ≤ A))) := by
  unfold wv
  rw [eq_ref01_Below]
  unfold R_ref01_Below
  rw [show decide (((A / 18446744073709551616 : Nat) : Int) ≥ 9223372036854775808) = decide (170141183460469231731687303715884105728 ≤ A) by rw [decide_eq_decide]; omega]
theorem sp_ref01_Text (n A : Nat) (hA : A < 340282366920938463463374607431768211456) : CP C (n + 4) F_ref01_Text [wv A] = some (.str (BA (txt A))) := by
  have e1 := sp_Below' (n + 2) A hA
  have e2 := sp_ref01_Neg n A hA
  have e3 := sp_digits n A hA
  unfold wv at e1 e2 e3 ⊢
  rw [eq_ref01_Text]
  unfold R_ref01_Text txt
  rw [e1, e2, e3]
  simp only [k_bind, k_bool, k_agg, k_cons, k_int, k_nil, k_str]
  by_cases h : 170141183460469231731687303715884105728 ≤ A
  · have e4 := sp_digits n ((340282366920938463463374607431768211456 - A) % 340282366920938463463374607431768211456) (by omega)
    unfold wv at e4
    rw [decide_eq_true h, cT, if_pos h, e4]
    simp only [k_bind, k_str]
    have hl := dec_len 39 ((340282366920938463463374607431768211456 - A) % 340282366920938463463374607431768211456)
    rw [show (ByteArray.mk #[45]) = BA [45] from rfl, BA_append, BA_size, BA_size, no_max _ (by simp only [List.length_cons, List.length_nil]; omega), cF, Nat.mod_eq_of_lt (show 340282366920938463463374607431768211456 - A < 340282366920938463463374607431768211456 by omega)]
    rfl
  · rw [decide_eq_false h, cF, if_neg h]
theorem sp_wide_Text (n A : Nat) (hA : A < 340282366920938463463374607431768211456) : CP C (n + 5) F_wide_Text [wv A] = some (.str (BA (txt A))) := by
  have e2 := sp_wide_Neg (n + 2) A hA
  unfold wv at e2 ⊢
  rw [eq_wide_Text]
  unfold R_wide_Text T_wide_Text_1 txt
  rw [e2, show decide (((A / 18446744073709551616 : Nat) : Int) ≥ 9223372036854775808) = decide (170141183460469231731687303715884105728 ≤ A) by rw [decide_eq_decide]; omega]
  simp only [k_bind, k_bool, k_agg, k_cons, k_int, k_nil, k_str]
  by_cases h : 170141183460469231731687303715884105728 ≤ A
  · have := text_loop n 39 (340282366920938463463374607431768211456 - A) [45] (List.replicate 40 (.int .u8 0)) [] (n + 4 + 300) (by omega) (by rw [p39]; omega) (by omega) (by simp) (by simp) (by simp) (by omega)
    rw [List.map_nil, List.append_nil, List.append_nil, List.length_replicate] at this
    rw [decide_eq_true h, cT, if_pos h, Nat.mod_eq_of_lt (show 340282366920938463463374607431768211456 - A < 340282366920938463463374607431768211456 by omega)]
    exact this
  · have := text_loop n 39 A [] (List.replicate 40 (.int .u8 0)) [] (n + 4 + 300) (by omega) (by rw [p39]; omega) (by omega) (by simp) (by simp) (by simp) (by omega)
    rw [List.map_nil, List.append_nil, List.append_nil, List.length_replicate] at this
    rw [decide_eq_false h, cF, if_neg h]
    exact this
end Go.Proofs.YtbikcndldcfffaaDoor.Sim.S
