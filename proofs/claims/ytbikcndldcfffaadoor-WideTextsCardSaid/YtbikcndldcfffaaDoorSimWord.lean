/- Words of 64 bits: how two of them are multiplied, and how two words are divided by one. Condition: none beyond what each theorem says. -/
import Derived.Test.YtbikcndldcfffaaDoorSimBits
set_option linter.unusedSimpArgs false
set_option linter.unusedVariables false
namespace Go.Proofs.YtbikcndldcfffaaDoor.Sim
open Go

theorem and32 (x : Nat) (h : x < 18446744073709551616) : IntKind.u64.wrap (((BitVec.ofInt 64 (x : Int) &&& BitVec.ofInt 64 4294967295).toNat : Nat) : Int) = ((x % 4294967296 : Nat) : Int) := by
  rw [ofInt_nat, show (BitVec.ofInt 64 4294967295) = BitVec.ofNat 64 4294967295 from rfl, BitVec.toNat_and, BitVec.toNat_ofNat, BitVec.toNat_ofNat, Nat.mod_eq_of_lt (show x < 2 ^ 64 by omega), show (4294967295 % 2 ^ 64 : Nat) = 2 ^ 32 - 1 by decide, Nat.and_two_pow_sub_one_eq_mod, IntKind.wrap_u64, show (2 : Nat) ^ 32 = 4294967296 by decide]
  omega
theorem or_sum (a b s : Nat) (hs : s < 64) (ha : a * 2 ^ s < 18446744073709551616) (hb : b < 2 ^ s) :
    IntKind.u64.wrap (((BitVec.ofInt 64 ((a * 2 ^ s : Nat) : Int) ||| BitVec.ofInt 64 (b : Int)).toNat : Nat) : Int) = ((a * 2 ^ s + b : Nat) : Int) := by
  have hp : 2 ^ s ≤ 2 ^ 63 := Nat.pow_le_pow_right (by decide) (by omega)
  have h := Nat.shiftLeft_add_eq_or_of_lt hb a
  rw [Nat.shiftLeft_eq] at h
  have hlt : a * 2 ^ s + b < 18446744073709551616 := by
    rw [h]
    exact Nat.or_lt_two_pow (n := 64) (by omega) (by omega)
  rw [ofInt_nat, ofInt_nat, BitVec.toNat_or, BitVec.toNat_ofNat, BitVec.toNat_ofNat, Nat.mod_eq_of_lt (show a * 2 ^ s < 2 ^ 64 by omega), Nat.mod_eq_of_lt (show b < 2 ^ 64 by omega), ← h, IntKind.wrap_u64]
  omega
theorem w64u {x : Nat} (h : x < 18446744073709551616) : IntKind.u64.wrap (x : Int) = (x : Int) := by rw [IntKind.wrap_u64]; omega
theorem fdiv_nat (a b : Nat) (hb : 0 < b) : Int.fdiv (a : Int) (b : Int) = ((a / b : Nat) : Int) := by
  rw [Int.fdiv_eq_ediv_of_nonneg _ (by omega)]; exact (Int.natCast_ediv a b).symm
/-- The product of two words from the products of their halves. -/
theorem mul_halves (a1 a0 b1 b0 : Nat) (ha1 : a1 < 4294967296) (ha0 : a0 < 4294967296) (hb1 : b1 < 4294967296) (hb0 : b0 < 4294967296) :
    a1 * b0 + a0 * b0 / 4294967296 < 18446744073709551616 ∧ (a1 * b0 + a0 * b0 / 4294967296) % 4294967296 + a0 * b1 < 18446744073709551616 ∧
    a1 * b1 + (a1 * b0 + a0 * b0 / 4294967296) / 4294967296 + ((a1 * b0 + a0 * b0 / 4294967296) % 4294967296 + a0 * b1) / 4294967296 = (a1 * 4294967296 + a0) * (b1 * 4294967296 + b0) / 18446744073709551616 := by
  have e : (a1 * 4294967296 + a0) * (b1 * 4294967296 + b0) = a1 * b1 * 18446744073709551616 + (a1 * b0 + a0 * b1) * 4294967296 + a0 * b0 := by
    rw [Nat.add_mul, Nat.mul_add, Nat.mul_add]
    have e1 : a1 * 4294967296 * (b1 * 4294967296) = a1 * b1 * 18446744073709551616 := by
      rw [Nat.mul_assoc, Nat.mul_left_comm 4294967296 b1 4294967296, ← Nat.mul_assoc]
    have e2 : a1 * 4294967296 * b0 = a1 * b0 * 4294967296 := Nat.mul_right_comm _ _ _
    have e3 : a0 * (b1 * 4294967296) = a0 * b1 * 4294967296 := (Nat.mul_assoc _ _ _).symm
    rw [e1, e2, e3]
    omega
  have h10 : a1 * b0 ≤ 4294967295 * 4294967295 := Nat.mul_le_mul (by omega) (by omega)
  have h01 : a0 * b1 ≤ 4294967295 * 4294967295 := Nat.mul_le_mul (by omega) (by omega)
  have h00 : a0 * b0 ≤ 4294967295 * 4294967295 := Nat.mul_le_mul (by omega) (by omega)
  rw [e]
  generalize a1 * b1 = p11
  generalize a1 * b0 = p10 at *
  generalize a0 * b1 = p01 at *
  generalize a0 * b0 = p00 at *
  omega
/-- How far a word is moved up until its highest bit is set. -/
theorem norm (y n l : Nat) (h1 : 2 ^ (l - 1) ≤ y / 2 ^ n) (h2 : y / 2 ^ n < 2 ^ l) (hl : 1 ≤ l) (hn : n + l ≤ 64) :
    9223372036854775808 ≤ y * 2 ^ (64 - (n + l)) ∧ y * 2 ^ (64 - (n + l)) < 18446744073709551616 := by
  have hp : 0 < 2 ^ n := Nat.two_pow_pos n
  have h3 : 2 ^ (l - 1) * 2 ^ n ≤ y := (Nat.le_div_iff_mul_le hp).1 h1
  have h4 : y < 2 ^ l * 2 ^ n := (Nat.div_lt_iff_lt_mul hp).1 h2
  rw [← Nat.pow_add] at h3 h4
  have e1 : 2 ^ (l - 1 + n) * 2 ^ (64 - (n + l)) = 9223372036854775808 := by
    rw [← Nat.pow_add, show l - 1 + n + (64 - (n + l)) = 63 by omega]
  have e2 : 2 ^ (l + n) * 2 ^ (64 - (n + l)) = 18446744073709551616 := by
    rw [← Nat.pow_add, show l + n + (64 - (n + l)) = 64 by omega]
  have h5 := Nat.mul_le_mul_right (2 ^ (64 - (n + l))) h3
  have h6 := Nat.mul_lt_mul_of_pos_right h4 (Nat.two_pow_pos (64 - (n + l)))
  omega
/-- A digit that is too great. -/
theorem kn_dec (Y y1 y0 u u1 q r : Nat) (hY : Y = y1 * 4294967296 + y0) (hq : q * y1 + r = u) (hu : u < Y) (hu1 : u1 < 4294967296) (hbig : 4294967296 ≤ q ∨ 4294967296 * r + u1 < q * y0) :
    (u * 4294967296 + u1) / Y + 1 ≤ q := by
  have hYp : 0 < Y := by omega
  have : (u * 4294967296 + u1) / Y < q := by
    rw [Nat.div_lt_iff_lt_mul hYp]
    rcases hbig with h | h
    · have := Nat.mul_le_mul_right Y h
      omega
    · subst hY
      rw [Nat.mul_add, ← Nat.mul_assoc]
      generalize q * y1 = p at *
      omega
  omega
/-- A digit that is right. -/
theorem kn_stop (Y y1 y0 u u1 q r : Nat) (hY : Y = y1 * 4294967296 + y0) (hYp : 0 < Y) (hq : q * y1 + r = u) (hle : q * y0 ≤ 4294967296 * r + u1) (hge : (u * 4294967296 + u1) / Y ≤ q) :
    q = (u * 4294967296 + u1) / Y := by
  have : q ≤ (u * 4294967296 + u1) / Y := by
    rw [Nat.le_div_iff_mul_le hYp]
    subst hY
    rw [Nat.mul_add, ← Nat.mul_assoc]
    generalize q * y1 = p at *
    omega
  omega
/-- The rest after a digit. -/
theorem kn_rest (Y u u1 q : Nat) (hYp : 0 < Y) (hY : Y < 18446744073709551616) (hu1 : u1 < 4294967296) (hq : q = (u * 4294967296 + u1) / Y) :
    IntKind.u64.wrap (IntKind.u64.wrap (IntKind.u64.wrap ((u : Int) * 4294967296) + (u1 : Int)) - IntKind.u64.wrap ((q : Int) * (Y : Int))) = (((u * 4294967296 + u1) % Y : Nat) : Int) := by
  have h1 := Nat.div_add_mod (u * 4294967296 + u1) Y
  have h2 := Nat.mod_lt (u * 4294967296 + u1) hYp
  rw [← hq] at h1
  rw [show ((q : Int) * (Y : Int)) = ((Y * q : Nat) : Int) by rw [Int.natCast_mul]; exact Int.mul_comm _ _]
  revert h1 h2
  generalize Y * q = p
  generalize (u * 4294967296 + u1) % Y = z
  intro h1 h2
  rw [IntKind.wrap_u64, IntKind.wrap_u64, IntKind.wrap_u64, IntKind.wrap_u64]
  omega
/-- Two digits make the whole quotient. -/
theorem kn_two' (Y a b u0 q r : Nat) (hYp : 0 < Y) (h1 : Y * q + r = a) (hb : b = a * 4294967296 + u0) :
    q * 4294967296 + (r * 4294967296 + u0) / Y = b / Y ∧ (r * 4294967296 + u0) % Y = b % Y := by
  have e : b = (r * 4294967296 + u0) + Y * (q * 4294967296) := by
    rw [← Nat.mul_assoc, hb, ← h1, Nat.add_mul]
    omega
  rw [e, Nat.add_mul_div_left _ _ hYp, Nat.add_mul_mod_self_left]
  exact ⟨Nat.add_comm _ _, rfl⟩
theorem kn_two (Y u u1 u0 : Nat) (hYp : 0 < Y) (hu1 : u1 < 4294967296) (hu0 : u0 < 4294967296) :
    (u * 4294967296 + u1) / Y * 4294967296 + ((u * 4294967296 + u1) % Y * 4294967296 + u0) / Y = (u * 18446744073709551616 + u1 * 4294967296 + u0) / Y ∧
    ((u * 4294967296 + u1) % Y * 4294967296 + u0) % Y = (u * 18446744073709551616 + u1 * 4294967296 + u0) % Y :=
  kn_two' Y (u * 4294967296 + u1) _ u0 _ _ hYp (Nat.div_add_mod _ _) (by omega)
/-- A digit of a quotient while it is sought: it is not too small. -/
structure Kn (Y y1 y0 u u1 q r : Nat) : Prop where
  hY : Y = y1 * 4294967296 + y0
  n1 : 2147483648 ≤ y1
  n2 : y1 < 4294967296
  n3 : y0 < 4294967296
  hq : q * y1 + r = u
  hu : u < Y
  hu1 : u1 < 4294967296
  hge : (u * 4294967296 + u1) / Y ≤ q
  hq1 : q ≤ 4294967297
  hr : r < 4294967296
theorem Kn.digit {Y y1 y0 u u1 q r : Nat} (h : Kn Y y1 y0 u u1 q r) : (u * 4294967296 + u1) / Y < 4294967296 := by
  have hu := h.hu
  have hu1 := h.hu1
  rw [Nat.div_lt_iff_lt_mul (by omega)]
  omega
theorem Kn.dec {Y y1 y0 u u1 q r : Nat} (h : Kn Y y1 y0 u u1 q r) (hb : 4294967296 ≤ q ∨ 4294967296 * r + u1 < q * y0) :
    1 ≤ q ∧ (r + y1 < 4294967296 → Kn Y y1 y0 u u1 (q - 1) (r + y1)) ∧ (4294967296 ≤ r + y1 → q - 1 = (u * 4294967296 + u1) / Y) := by
  obtain ⟨hY, n1, n2, n3, hq, hu, hu1, hge, hq1, hr⟩ := h
  have hd := kn_dec Y y1 y0 u u1 q r hY hq hu hu1 hb
  have h1 : 1 ≤ q := Nat.le_trans (Nat.le_add_left 1 _) hd
  have hq' : (q - 1) * y1 + (r + y1) = u := by
    rw [← hq]
    obtain ⟨k, rfl⟩ : ∃ k, q = k + 1 := ⟨q - 1, by omega⟩
    rw [Nat.add_sub_cancel, Nat.add_mul]
    omega
  refine ⟨h1, fun h2 => ⟨hY, n1, n2, n3, hq', hu, hu1, by omega, by omega, h2⟩, fun h2 => ?_⟩
  have hle : (q - 1) * y0 ≤ 4294967296 * (r + y1) := Nat.mul_le_mul (by omega) (by omega)
  exact kn_stop Y y1 y0 u u1 (q - 1) (r + y1) hY (by omega) hq' (by omega) (by omega)
theorem Kn.stop {Y y1 y0 u u1 q r : Nat} (h : Kn Y y1 y0 u u1 q r) (hb : ¬ (4294967296 * r + u1 < q * y0)) : q = (u * 4294967296 + u1) / Y := by
  have hu := h.hu
  exact kn_stop Y y1 y0 u u1 q r h.hY (by omega) h.hq (by omega) h.hge
theorem Kn.init {Y y1 y0 u u1 : Nat} (hY : Y = y1 * 4294967296 + y0) (n1 : 2147483648 ≤ y1) (n2 : y1 < 4294967296) (n3 : y0 < 4294967296) (hu : u < Y) (hu1 : u1 < 4294967296) :
    Kn Y y1 y0 u u1 (u / y1) (u % y1) := by
  have h1 := Nat.div_add_mod u y1
  have h2 := Nat.mod_lt u (show 0 < y1 by omega)
  refine ⟨hY, n1, n2, n3, by rw [Nat.mul_comm]; exact h1, hu, hu1, ?_, ?_, by omega⟩
  · have h3 : (u * 4294967296 + u1) / Y ≤ (u * 4294967296 + u1) / (y1 * 4294967296) := Nat.div_le_div_left (by omega) (by omega)
    rw [Nat.mul_comm y1, ← Nat.div_div_eq_div_mul, show (u * 4294967296 + u1) / 4294967296 = u by omega] at h3
    exact h3
  · have h4 : u / y1 < 4294967298 := by
      rw [Nat.div_lt_iff_lt_mul (by omega)]
      omega
    omega
/-- Two words moved up. -/
theorem moved (h l y p q : Nat) (hp : 0 < p) (hq : 0 < q) (hpq : p * q = 18446744073709551616) (hh : h < y) :
    l / q < l + 1 ∧ (l < 18446744073709551616 → l / q < p) ∧ (h * p + l / q) * 18446744073709551616 + l * p % 18446744073709551616 = (h * 18446744073709551616 + l) * p := by
  have hld := Nat.div_add_mod l q
  have hlm := Nat.mod_lt l hq
  have h1 : l % q * p < q * p := Nat.mul_lt_mul_of_pos_right hlm hp
  have h2 : l * p = (q * (l / q) + l % q) * p := by rw [hld]
  rw [Nat.add_mul] at h2
  have h3 : q * (l / q) * p = l / q * 18446744073709551616 := by rw [Nat.mul_comm q, Nat.mul_assoc, Nat.mul_comm q p, hpq]
  have h4 : q * p = 18446744073709551616 := by rw [Nat.mul_comm]; exact hpq
  have r1 := Nat.add_mul (h * p) (l / q) 18446744073709551616
  have r2 := Nat.add_mul (h * 18446744073709551616) l p
  have r3 := Nat.mul_right_comm h 18446744073709551616 p
  refine ⟨Nat.lt_succ_of_le (Nat.div_le_self _ _), fun hl => ?_, ?_⟩
  · rw [Nat.div_lt_iff_lt_mul hq, hpq]; exact hl
  · rw [r1, r2, r3]
    rw [h3] at h2
    rw [h4] at h1
    generalize h * p = a at *
    generalize l * p = b at *
    generalize l % q * p = c at *
    generalize l / q = d at *
    clear r1 r2 r3 h3 h4 hpq hp hq hlm hld
    omega
end Go.Proofs.YtbikcndldcfffaaDoor.Sim
