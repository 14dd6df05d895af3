/- Arrays of 128 truth values, and the number that they stand for. Condition: none beyond what each theorem says. -/
import Derived.Test.YtbikcndldcfffaaDoorSimKit
import Derived.Laws.Bits64
namespace Go.Proofs.YtbikcndldcfffaaDoor.Sim
open Go

/-- An array of n truth values. -/
def flN (f : Nat → Bool) : Nat → Nat → List AV
  | _, 0 => []
  | i, n + 1 => .bool (f i) :: flN f (i + 1) n
def fl (f : Nat → Bool) : List AV := flN f 0 128

theorem flN_len (f : Nat → Bool) : ∀ n i, (flN f i n).length = n
  | 0, _ => rfl
  | n + 1, i => by simp [flN, flN_len f n (i + 1)]
theorem flN_nth (f : Nat → Bool) : ∀ n i k, k < n → nth (flN f i n) k = .bool (f (i + k))
  | 0, _, _, h => by omega
  | n + 1, i, 0, _ => rfl
  | n + 1, i, k + 1, h => by
    show nth (flN f (i + 1) n) k = _
    rw [flN_nth f n (i + 1) k (by omega), show i + 1 + k = i + (k + 1) by omega]
theorem flN_ext {f g : Nat → Bool} : ∀ n i, (∀ k, i ≤ k → k < i + n → f k = g k) → flN f i n = flN g i n
  | 0, _, _ => rfl
  | n + 1, i, h => by
    show AV.bool (f i) :: flN f (i + 1) n = .bool (g i) :: flN g (i + 1) n
    rw [h i (by omega) (by omega), flN_ext n (i + 1) (fun k h1 h2 => h k (by omega) (by omega))]
theorem flN_splice (f : Nat → Bool) (b : Bool) : ∀ n i k, k < n → splice (flN f i n) k [.bool b] = flN (fun j => if j = i + k then b else f j) i n
  | 0, _, _, h => by omega
  | n + 1, i, 0, _ => by
    show AV.bool b :: flN f (i + 1) n = .bool (if i = i + 0 then b else f i) :: flN _ (i + 1) n
    rw [if_pos (by omega)]
    congr 1
    exact flN_ext n (i + 1) (fun k h1 h2 => by rw [if_neg (by omega)])
  | n + 1, i, k + 1, h => by
    have ih := flN_splice f b n (i + 1) k (by omega)
    show AV.bool (f i) :: splice (flN f (i + 1) n) k [.bool b] = .bool (if i = i + (k + 1) then b else f i) :: flN _ (i + 1) n
    rw [ih, if_neg (by omega)]
    congr 1
    exact flN_ext n (i + 1) (fun j h1 h2 => by rw [show i + 1 + k = i + (k + 1) by omega])
theorem flN_pure (f : Nat → Bool) : ∀ n i, AV.pureL (flN f i n) = true
  | 0, _ => rfl
  | n + 1, i => by show (true && AV.pureL (flN f (i + 1) n)) = true; rw [flN_pure f n (i + 1)]; rfl
theorem flN_ok (f : Nat → Bool) : ∀ n i, cellsOk (flN f i n) = true
  | 0, _ => rfl
  | n + 1, i => by show (true && cellsOk (flN f (i + 1) n)) = true; rw [flN_ok f n (i + 1)]; rfl

theorem fl_len (f : Nat → Bool) : (fl f).length = 128 := flN_len f 128 0
theorem fl_nth (f : Nat → Bool) {k : Nat} (h : k < 128) : nth (fl f) k = .bool (f k) := by
  have := flN_nth f 128 0 k h
  rw [Nat.zero_add] at this; exact this
theorem fl_splice (f : Nat → Bool) (b : Bool) {k : Nat} (h : k < 128) : splice (fl f) k [.bool b] = fl (fun j => if j = k then b else f j) := by
  have := flN_splice f b 128 0 k h
  rw [Nat.zero_add] at this; exact this
theorem fl_ext {f g : Nat → Bool} (h : ∀ k, k < 128 → f k = g k) : fl f = fl g := flN_ext 128 0 (fun k _ h2 => h k (by omega))
theorem fl_pure (f : Nat → Bool) : AV.pureL (fl f) = true := flN_pure f 128 0
theorem fl_ok (f : Nat → Bool) : cellsOk (fl f) = true := flN_ok f 128 0
theorem fl_fits (f : Nat → Bool) {o n : Nat} (h : o + n ≤ 128) : fits o n (fl f) = true := by
  unfold fits; rw [fl_len]; exact Nat.ble_eq_true_of_le h
theorem fl_lenIs (f : Nat → Bool) : lenIs (fl f) 128 = true := by show Nat.beq (fl f).length 128 = true; rw [fl_len]; rfl
theorem fl_take (f : Nat → Bool) : List.take 128 (List.drop 0 (fl f)) = fl f := by
  rw [List.drop_zero]; exact List.take_of_length_le (by rw [fl_len]; omega)
theorem fl_whole {l : List AV} (f : Nat → Bool) (hl : l.length = 128) : splice l 0 (fl f) = fl f := by
  unfold splice
  rw [fl_len, Nat.zero_add, List.drop_of_length_le (by omega)]; simp
theorem fl_false : fl (fun _ => false) = List.replicate 128 (.bool false) := by rfl

theorem k_not {R : Type} (b : Bool) (c : AV → Option R) : unK .not (.bool b) c = c (.bool !b) := of_eq_true (eq_self _)

/-- The number that the first n values stand for. -/
def val (f : Nat → Bool) : Nat → Nat
  | 0 => 0
  | n + 1 => val f n + (if f n then 2 ^ n else 0)
theorem val_ext {f g : Nat → Bool} : ∀ n, (∀ k, k < n → f k = g k) → val f n = val g n
  | 0, _ => rfl
  | n + 1, h => by unfold val; rw [val_ext n (fun k hk => h k (by omega)), h n (by omega)]
theorem val_lt (f : Nat → Bool) : ∀ n, val f n < 2 ^ n
  | 0 => by show 0 < 1; decide
  | n + 1 => by
    have := val_lt f n
    unfold val
    rw [Nat.pow_succ]
    split <;> omega
theorem val_testBit (x : Nat) : ∀ n, val (fun k => x.testBit k) n = x % 2 ^ n
  | 0 => by simp [val, Nat.mod_one]
  | n + 1 => by
    unfold val
    rw [val_testBit x n, Nat.mod_pow_succ, Nat.testBit_eq_decide_div_mod_eq]
    have : x / 2 ^ n % 2 = 0 ∨ x / 2 ^ n % 2 = 1 := by omega
    rcases this with h | h <;> simp [h]

theorem val_split (f : Nat → Bool) (m : Nat) : ∀ n, val f (m + n) = val f m + 2 ^ m * val (fun k => f (m + k)) n
  | 0 => by simp [val]
  | n + 1 => by
    show val f (m + n) + (if f (m + n) then 2 ^ (m + n) else 0) = val f m + 2 ^ m * (val (fun k => f (m + k)) n + (if f (m + n) then 2 ^ n else 0))
    rw [val_split f m n, Nat.mul_add, Nat.pow_add]
    split
    · rw [Nat.add_assoc]
    · simp

/-! ### bits of words -/
theorem ofInt_nat (x : Nat) : BitVec.ofInt 64 (x : Int) = BitVec.ofNat 64 x := by
  apply BitVec.eq_of_toNat_eq
  simp
theorem bit_one (x : Nat) (h : x < 18446744073709551616) : IntKind.u64.wrap (((BitVec.ofInt 64 (x : Int) &&& BitVec.ofInt 64 1).toNat : Nat) : Int) = ((x % 2 : Nat) : Int) := by
  rw [ofInt_nat, show (1 : Int) = ((1 : Nat) : Int) from rfl, ofInt_nat, BitVec.toNat_and]
  simp only [BitVec.toNat_ofNat]
  rw [Nat.mod_eq_of_lt (by omega : x < 2 ^ 64), show 1 % 2 ^ 64 = 1 by decide, Nat.and_one_is_mod, IntKind.wrap_u64]
  omega
theorem bit_or (x i : Nat) (hx : x < 2 ^ i) (hi : i < 64) : IntKind.u64.wrap (((BitVec.ofInt 64 (x : Int) ||| BitVec.ofInt 64 ((2 ^ i : Nat) : Int)).toNat : Nat) : Int) = ((x + 2 ^ i : Nat) : Int) := by
  have h1 : 2 ^ (i + 1) ≤ 2 ^ 64 := Nat.pow_le_pow_right (by omega) (by omega)
  rw [Nat.pow_succ] at h1
  have h2 : x ||| 2 ^ i = x + 2 ^ i := by
    have := Nat.two_pow_add_eq_or_of_lt hx 1
    rw [Nat.mul_one] at this
    rw [Nat.or_comm, ← this]
    omega
  rw [ofInt_nat, ofInt_nat, BitVec.toNat_or]
  simp only [BitVec.toNat_ofNat]
  rw [Nat.mod_eq_of_lt (by omega : x < 2 ^ 64), Nat.mod_eq_of_lt (by omega : 2 ^ i < 2 ^ 64), h2, IntKind.wrap_u64]
  omega
theorem floor_pos (Z B : Nat) : ((Z : Int)) / (B : Int) = ((Z / B : Nat) : Int) ∧ (Z : Int) % (B : Int) = ((Z % B : Nat) : Int) := ⟨(Int.natCast_ediv Z B).symm, (Int.natCast_emod Z B).symm⟩
theorem floor_neg (Z B : Nat) (hB : 0 < B) : (-(Z : Int)) / (B : Int) = (if Z % B = 0 then -((Z / B : Nat) : Int) else -((Z / B : Nat) : Int) - 1) ∧ (-(Z : Int)) % (B : Int) = if Z % B = 0 then 0 else (B : Int) - ((Z % B : Nat) : Int) := by
  have hd := Nat.div_add_mod Z B
  have hr := Nat.mod_lt Z hB
  have hd2 : (B : Int) * ((Z / B : Nat) : Int) + ((Z % B : Nat) : Int) = (Z : Int) := by exact_mod_cast hd
  generalize ((Z / B : Nat) : Int) = q at *
  refine (Int.ediv_emod_unique (show (0 : Int) < (B : Int) by omega)).2 ⟨?_, ?_, ?_⟩
  · split
    · rename_i h
      rw [h] at hd2
      rw [Int.mul_neg]; omega
    · rw [Int.mul_sub, Int.mul_neg, Int.mul_one]; omega
  · split <;> omega
  · split <;> omega
end Go.Proofs.YtbikcndldcfffaaDoor.Sim
