/- Numbers of 128 bits, the document's way: bit by bit. Condition: none beyond what each theorem says. -/
import Derived.Test.YtbikcndldcfffaaDoorRes
import Derived.Test.YtbikcndldcfffaaDoorSimBits
set_option linter.unusedSimpArgs false
set_option linter.unusedVariables false
namespace Go.Proofs.YtbikcndldcfffaaDoor.Sim.S
open Go

theorem val_cons (f : Nat → Bool) (n : Nat) : val f (n + 1) = (f 0).toNat + 2 * val (fun j => f (j + 1)) n := by
  have h := val_split f 1 n
  rw [Nat.add_comm 1 n] at h
  rw [h]
  have e : val f 1 = (f 0).toNat := by show 0 + (if f 0 = true then 2 ^ 0 else 0) = _; cases f 0 <;> rfl
  rw [e, Nat.pow_one]
  congr 2
  exact val_ext n (fun k _ => by rw [Nat.add_comm])
/-- A number of 128 bits as its two words. -/
abbrev wv (V : Nat) : AV := .agg [.int .u64 ((V / 18446744073709551616 : Nat) : Int), .int .u64 ((V % 18446744073709551616 : Nat) : Int)]
/-- The array while it is filled. -/
def bf (h l i : Nat) (k : Nat) : Bool := if k < i then l.testBit k else if 64 ≤ k ∧ k < 64 + i then h.testBit (k - 64) else false
theorem u64i (i : Nat) (h : i < 64) : IntKind.u64.wrap (i : Int) = (i : Int) := by rw [IntKind.wrap_u64]; omega
theorem shr_bit (x i : Nat) (hx : x < 18446744073709551616) (hi : i < 64) :
    (IntKind.u64.wrap (((BitVec.ofInt 64 (Int.fdiv (x : Int) (2 ^ (min (Int.toNat (i : Int)) 64))) &&& BitVec.ofInt 64 1).toNat : Nat) : Int) == 1) = x.testBit i := by
  have e1 : min (Int.toNat (i : Int)) 64 = i := by omega
  have e2 : Int.fdiv (x : Int) (2 ^ i) = ((x / 2 ^ i : Nat) : Int) := by
    rw [Int.fdiv_eq_ediv_of_nonneg _ (by exact Int.le_of_lt (Int.pow_pos (by decide)))]
    simp
  have h3 : x / 2 ^ i < 18446744073709551616 := Nat.lt_of_le_of_lt (Nat.div_le_self _ _) hx
  rw [e1, e2, bit_one _ h3, Nat.testBit_eq_decide_div_mod_eq, Bool.eq_iff_iff, beq_iff_eq, decide_eq_true_eq]
  omega
theorem bits116 (n : Nat) (h l : Nat) (hh : h < 18446744073709551616) (hl : l < 18446744073709551616) : ∀ (r f i : Nat), i + r = 64 → r < f →
    J_ref01_bits_116 (CP C n) n f (i : Int) (h : Int) (l : Int) (fl (bf h l i)) = some (.agg (fl (bf h l 64))) := by
  intro r
  induction r with
  | zero =>
    intro f i h1 hf
    obtain ⟨f, rfl⟩ : ∃ f', f = f' + 1 := ⟨f - 1, by omega⟩
    have hi : i = 64 := by omega
    subst hi
    rw [Js_ref01_bits_116]
    unfold T_ref01_bits_116
    rw [show decide (((64 : Nat) : Int) < 64) = false from rfl, cond_false]
    rw [fl_fits _ (by omega), cond_true, fl_take, fl_lenIs, cond_true, fl_ok, cond_true, fl_whole _ rfl, fl_fits _ (by omega), cond_true, fl_take, fl_pure, cond_true]
  | succ r ih =>
    intro f i h1 hf
    obtain ⟨f, rfl⟩ : ∃ f', f = f' + 1 := ⟨f - 1, by omega⟩
    have hi : i < 64 := by omega
    rw [Js_ref01_bits_116]
    unfold T_ref01_bits_116
    rw [decide_eq_true (show (i : Int) < 64 by omega), cond_true, u64i i hi, decide_eq_false (show ¬ (i : Int) < 0 by omega), cond_false]
    have e64 : IntKind.i64.wrap (64 + (i : Int)) = ((64 + i : Nat) : Int) := by rw [w64 (by omega)]; omega
    have e1 : IntKind.i64.wrap ((i : Int) + 1) = ((i + 1 : Nat) : Int) := by rw [w64 (by omega)]; omega
    have ix : ∀ j : Nat, 0 + Int.toNat ((j : Nat) : Int) * 1 = j := fun j => by omega
    rw [bnd_eq _ rfl, bnd_eq _ rfl, shr_bit l i hl hi]
    rw [decide_eq_true (show (0 : Int) ≤ (i : Int) by omega), decide_eq_true (show (i : Int) < 128 by omega), Bool.and_self, cond_true, ix, fl_fits _ (by omega), cond_true]
    rw [cond_false, bnd_eq _ rfl, bnd_eq _ rfl, shr_bit h i hh hi, e64, e1]
    rw [decide_eq_true (show (0 : Int) ≤ ((64 + i : Nat) : Int) by omega), decide_eq_true (show ((64 + i : Nat) : Int) < 128 by omega), Bool.and_self, cond_true, ix]
    rw [fl_splice _ _ (by omega), fl_fits _ (by omega), cond_true, fl_splice _ _ (by omega)]
    rw [← ih f (i + 1) (by omega) (by omega)]
    refine congrArg (J_ref01_bits_116 (CP C n) n f ((i + 1 : Nat) : Int) (h : Int) (l : Int)) (fl_ext fun k hk => ?_)
    unfold bf
    by_cases c1 : k = 64 + i
    · subst c1
      rw [if_pos rfl, if_neg (show ¬ 64 + i < i + 1 by omega), if_pos (show 64 ≤ 64 + i ∧ 64 + i < 64 + (i + 1) by omega), show 64 + i - 64 = i by omega]
    · rw [if_neg c1]
      by_cases c2 : k = i
      · subst c2
        rw [if_pos rfl, if_pos (show k < k + 1 by omega)]
      · rw [if_neg c2]
        by_cases c3 : k < i
        · rw [if_pos c3, if_pos (show k < i + 1 by omega)]
        · rw [if_neg c3, if_neg (show ¬ k < i + 1 by omega)]
          by_cases c4 : 64 ≤ k ∧ k < 64 + i
          · rw [if_pos c4, if_pos (show 64 ≤ k ∧ k < 64 + (i + 1) by omega)]
          · rw [if_neg c4, if_neg (show ¬ (64 ≤ k ∧ k < 64 + (i + 1)) by omega)]
theorem bf_all (V : Nat) : fl (bf (V / 18446744073709551616) (V % 18446744073709551616) 64) = fl (fun k => V.testBit k) := by
  refine fl_ext fun k hk => ?_
  unfold bf
  have e : (18446744073709551616 : Nat) = 2 ^ 64 := by decide
  by_cases c : k < 64
  · rw [if_pos c, e, Nat.testBit_mod_two_pow]; simp [c]
  · rw [if_neg c, if_pos (by omega), e, Nat.testBit_div_two_pow, show k - 64 + 64 = k by omega]
theorem sp_bits (n : Nat) (V : Nat) (hV : V < 340282366920938463463374607431768211456) : CP C (n + 1) F_ref01_bits [wv V] = some (.agg (fl (fun k => V.testBit k))) := by
  rw [eq_ref01_bits]
  unfold R_ref01_bits T_ref01_bits_1
  have h := bits116 n (V / 18446744073709551616) (V % 18446744073709551616) (by omega) (by omega) 64 (n + 300) 0 (by omega) (by omega)
  rw [bf_all] at h
  rw [← h]
  rfl
def tf (g : Nat → Bool) (i k : Nat) : Bool := if k < i then !g k else g k
theorem turned52 (n : Nat) (g : Nat → Bool) : ∀ (r f i : Nat), i + r = 128 → r < f →
    J_ref01_turned_52 (CP C n) n f (i : Int) (fl (tf g i)) = some (.agg (fl (tf g 128))) := by
  intro r
  induction r with
  | zero =>
    intro f i h1 hf
    obtain ⟨f, rfl⟩ : ∃ f', f = f' + 1 := ⟨f - 1, by omega⟩
    have hi : i = 128 := by omega
    subst hi
    rw [Js_ref01_turned_52]
    unfold T_ref01_turned_52
    rw [show decide (((128 : Nat) : Int) < 128) = false from rfl, cond_false]
    rw [fl_fits _ (by omega), cond_true, fl_take, fl_lenIs, cond_true, fl_ok, cond_true, fl_whole _ rfl, fl_fits _ (by omega), cond_true, fl_take, fl_pure, cond_true]
  | succ r ih =>
    intro f i h1 hf
    obtain ⟨f, rfl⟩ : ∃ f', f = f' + 1 := ⟨f - 1, by omega⟩
    have hi : i < 128 := by omega
    have e1 : IntKind.i64.wrap ((i : Int) + 1) = ((i + 1 : Nat) : Int) := by rw [w64 (by omega)]; omega
    have ix : ∀ j : Nat, 0 + Int.toNat ((j : Nat) : Int) * 1 = j := fun j => by omega
    rw [Js_ref01_turned_52]
    unfold T_ref01_turned_52
    rw [decide_eq_true (show (i : Int) < 128 by omega), decide_eq_true (show (0 : Int) ≤ (i : Int) by omega), Bool.and_self, cond_true, cond_true, ix, fl_fits _ (by omega), cond_true, fl_nth _ hi, k_not]
    rw [cond_true, show cellsOf (AV.bool !tf g i i) = [.bool !tf g i i] from rfl, show lenIs [AV.bool !tf g i i] 1 = true from rfl, cond_true, show cellsOk [AV.bool !tf g i i] = true from rfl, cond_true, cond_true, e1, fl_splice _ _ hi]
    rw [← ih f (i + 1) (by omega) (by omega)]
    refine congrArg (J_ref01_turned_52 (CP C n) n f ((i + 1 : Nat) : Int)) (fl_ext fun k hk => ?_)
    unfold tf
    by_cases c1 : k = i
    · subst c1
      rw [if_pos rfl, if_neg (show ¬ k < k by omega), if_pos (show k < k + 1 by omega)]
    · rw [if_neg c1]
      by_cases c2 : k < i
      · rw [if_pos c2, if_pos (show k < i + 1 by omega)]
      · rw [if_neg c2, if_neg (show ¬ k < i + 1 by omega)]
theorem sp_turned (n : Nat) (g : Nat → Bool) : CP C (n + 1) F_ref01_turned [.agg (fl g)] = some (.agg (fl fun k => !g k)) := by
  rw [eq_ref01_turned]
  rw [show AV.pureL [AV.agg (fl g)] = true by show (AV.pureL (fl g) && true) = true; rw [fl_pure]; rfl, cond_true]
  unfold R_ref01_turned T_ref01_turned_1
  have h := turned52 n g 128 (n + 300) 0 (by omega) (by omega)
  rw [show fl (tf g 0) = fl g from fl_ext fun k _ => by unfold tf; rw [if_neg (by omega)]] at h
  rw [show fl (tf g 128) = fl (fun k => !g k) from fl_ext fun k hk => by unfold tf; rw [if_pos hk]] at h
  exact h
def maj (a b c : Bool) : Bool := (a && b) || (a && c) || (b && c)
def xr (a b c : Bool) : Bool := (a != b) != c
theorem sum_step (n f i : Nat) (c : Bool) (a b g : Nat → Bool) (hi : i < 128) :
    J_ref01_sum_116 (CP C n) n (f + 1) c (i : Int) (fl a) (fl b) (fl g) = J_ref01_sum_116 (CP C n) n f (maj (a i) (b i) c) ((i + 1 : Nat) : Int) (fl a) (fl b) (fl fun k => if k = i then xr (a i) (b i) c else g k) := by
  have e1 : IntKind.i64.wrap ((i : Int) + 1) = ((i + 1 : Nat) : Int) := by rw [w64 (by omega)]; omega
  have ix : ∀ j : Nat, 0 + Int.toNat ((j : Nat) : Int) * 1 = j := fun j => by omega
  have d1 : decide ((i : Int) < 128) = true := decide_eq_true (by omega)
  have d0 : decide ((0 : Int) ≤ (i : Int)) = true := decide_eq_true (by omega)
  have fa : fits i 1 (fl a) = true := fl_fits _ (by omega)
  have fb : fits i 1 (fl b) = true := fl_fits _ (by omega)
  have fg : fits i 1 (fl g) = true := fl_fits _ (by omega)
  rw [Js_ref01_sum_116]
  unfold T_ref01_sum_116 J_ref01_sum_3731 T_ref01_sum_3731 J_ref01_sum_7463 T_ref01_sum_7463 J_ref01_sum_14927 T_ref01_sum_14927 J_ref01_sum_467 T_ref01_sum_467
  simp only [d1, d0, Bool.and_self, cond_true, ix, fa, fb, fg, fl_nth _ hi, k_bool, e1, fl_splice _ _ hi]
  cases a i <;> cases b i <;> cases c <;> rfl
theorem sum_loop (n c0 : Nat) (a b : Nat → Bool) : ∀ (r f i : Nat) (c : Bool) (g : Nat → Bool), i + r = 128 → r < f → val g i + 2 ^ i * c.toNat = val a i + val b i + c0 →
    ∃ g' c', J_ref01_sum_116 (CP C n) n f c (i : Int) (fl a) (fl b) (fl g) = some (.tup [.agg (fl g'), .bool c']) ∧ val g' 128 + 2 ^ 128 * c'.toNat = val a 128 + val b 128 + c0 := by
  intro r
  induction r with
  | zero =>
    intro f i c g h1 hf hv
    obtain ⟨f, rfl⟩ : ∃ f', f = f' + 1 := ⟨f - 1, by omega⟩
    have hi : i = 128 := by omega
    subst hi
    refine ⟨g, c, ?_, hv⟩
    rw [Js_ref01_sum_116]
    unfold T_ref01_sum_116
    rw [show decide (((128 : Nat) : Int) < 128) = false from rfl, cond_false]
    rw [fl_fits _ (by omega), cond_true, fl_take, fl_lenIs, cond_true, fl_ok, cond_true, fl_whole _ rfl, fl_fits _ (by omega), cond_true, fl_take, fl_pure, Bool.and_self, cond_true]
  | succ r ih =>
    intro f i c g h1 hf hv
    obtain ⟨f, rfl⟩ : ∃ f', f = f' + 1 := ⟨f - 1, by omega⟩
    have hi : i < 128 := by omega
    rw [sum_step n f i c a b g hi]
    refine ih f (i + 1) _ _ (by omega) (by omega) ?_
    have e : val (fun k => if k = i then xr (a i) (b i) c else g k) i = val g i := val_ext i (fun k hk => by rw [if_neg (by omega)])
    show val (fun k => if k = i then xr (a i) (b i) c else g k) i + (if (if i = i then xr (a i) (b i) c else g i) = true then 2 ^ i else 0) + 2 ^ (i + 1) * (maj (a i) (b i) c).toNat = val a i + (if a i = true then 2 ^ i else 0) + (val b i + (if b i = true then 2 ^ i else 0)) + c0
    rw [e, if_pos rfl, Nat.pow_succ]
    generalize 2 ^ i = p at hv ⊢
    cases a i <;> cases b i <;> cases c <;> simp [xr, maj] at hv ⊢ <;> omega
theorem sp_sum (n : Nat) (a b : Nat → Bool) (c : Bool) : ∃ g c', CP C (n + 1) F_ref01_sum [.agg (fl a), .agg (fl b), .bool c] = some (.tup [.agg (fl g), .bool c']) ∧ val g 128 + 2 ^ 128 * c'.toNat = val a 128 + val b 128 + c.toNat := by
  obtain ⟨g, c', h1, h2⟩ := sum_loop n c.toNat a b 128 (n + 300) 0 c (fun _ => false) (by omega) (by omega) (by simp [val])
  refine ⟨g, c', ?_, h2⟩
  rw [eq_ref01_sum]
  rw [show AV.pureL [AV.agg (fl a), .agg (fl b), .bool c] = true by show (AV.pureL (fl a) && (AV.pureL (fl b) && true)) = true; rw [fl_pure, fl_pure]; rfl, cond_true]
  unfold R_ref01_sum T_ref01_sum_1
  rw [← h1]
  rfl
theorem shl_one (i : Nat) (hi : i < 64) : IntKind.u64.wrap (1 * (2 ^ (min (Int.toNat (i : Int)) 64))) = ((2 ^ i : Nat) : Int) := by
  have e1 : min (Int.toNat (i : Int)) 64 = i := by omega
  have h : 2 ^ i < 2 ^ 64 := Nat.pow_lt_pow_right (by omega) hi
  rw [e1, Int.one_mul, show ((2 : Int) ^ i) = ((2 ^ i : Nat) : Int) by simp, IntKind.wrap_u64]
  generalize 2 ^ i = p at h ⊢
  omega
theorem wide_step (n f i : Nat) (g : Nat → Bool) (x y : Nat) (hi : i < 64) (hx : x < 2 ^ i) (hy : y < 2 ^ i) :
    J_ref01_wide_116 (CP C n) n (f + 1) (i : Int) (fl g) (x : Int) (y : Int) = J_ref01_wide_116 (CP C n) n f ((i + 1 : Nat) : Int) (fl g) ((x + (if g (64 + i) then 2 ^ i else 0) : Nat) : Int) ((y + (if g i then 2 ^ i else 0) : Nat) : Int) := by
  have e64 : IntKind.i64.wrap (64 + (i : Int)) = ((64 + i : Nat) : Int) := by rw [w64 (by omega)]; omega
  have e1 : IntKind.i64.wrap ((i : Int) + 1) = ((i + 1 : Nat) : Int) := by rw [w64 (by omega)]; omega
  have ix : ∀ j : Nat, 0 + Int.toNat ((j : Nat) : Int) * 1 = j := fun j => by omega
  have d1 : decide ((i : Int) < 64) = true := decide_eq_true (by omega)
  have d2 : decide ((i : Int) < 128) = true := decide_eq_true (by omega)
  have d0 : decide ((0 : Int) ≤ (i : Int)) = true := decide_eq_true (by omega)
  have d3 : decide ((i : Int) < 0) = false := decide_eq_false (by omega)
  have d4 : decide ((0 : Int) ≤ ((64 + i : Nat) : Int)) = true := decide_eq_true (by omega)
  have d5 : decide (((64 + i : Nat) : Int) < 128) = true := decide_eq_true (by omega)
  have f1 : fits i 1 (fl g) = true := fl_fits _ (by omega)
  have f2 : fits (64 + i) 1 (fl g) = true := fl_fits _ (by omega)
  rw [Js_ref01_wide_116]
  unfold T_ref01_wide_116
  simp only [d1, d2, d0, Bool.and_self, cond_true, ix, f1, fl_nth g (show i < 128 by omega), k_bool, u64i i hi, d3, cond_false, e64, d4, d5, f2, fl_nth g (show 64 + i < 128 by omega), e1, shl_one i hi]
  rw [bnd_eq _ rfl, bnd_eq _ (bit_or y i hy hi)]
  rw [bnd_eq _ rfl, bnd_eq _ (bit_or x i hx hi)]
  cases g i <;> cases g (64 + i) <;> first | rfl | (simp only [cond_true, cond_false]; rw [bnd_eq _ rfl, bnd_eq _ (bit_or x i hx hi)]; rfl)
theorem wide_loop (n : Nat) (g : Nat → Bool) : ∀ (r f i : Nat), i + r = 64 → r < f →
    J_ref01_wide_116 (CP C n) n f (i : Int) (fl g) ((val (fun k => g (64 + k)) i : Nat) : Int) ((val g i : Nat) : Int) = some (.agg [.int .u64 ((val (fun k => g (64 + k)) 64 : Nat) : Int), .int .u64 ((val g 64 : Nat) : Int)]) := by
  intro r
  induction r with
  | zero =>
    intro f i h1 hf
    obtain ⟨f, rfl⟩ : ∃ f', f = f' + 1 := ⟨f - 1, by omega⟩
    have hi : i = 64 := by omega
    subst hi
    rw [Js_ref01_wide_116]
    unfold T_ref01_wide_116
    rw [show decide (((64 : Nat) : Int) < 64) = false from rfl, cond_false]
  | succ r ih =>
    intro f i h1 hf
    obtain ⟨f, rfl⟩ : ∃ f', f = f' + 1 := ⟨f - 1, by omega⟩
    rw [wide_step n f i g _ _ (by omega) (val_lt _ _) (val_lt _ _)]
    exact ih f (i + 1) (by omega) (by omega)
theorem sp_wide (n : Nat) (g : Nat → Bool) : CP C (n + 1) F_ref01_wide [.agg (fl g)] = some (wv (val g 128)) := by
  rw [eq_ref01_wide]
  rw [show AV.pureL [AV.agg (fl g)] = true by show (AV.pureL (fl g) && true) = true; rw [fl_pure]; rfl, cond_true]
  unfold R_ref01_wide T_ref01_wide_1
  have h := wide_loop n g 64 (n + 300) 0 (by omega) (by omega)
  have hs : val g 128 = val g 64 + 2 ^ 64 * val (fun k => g (64 + k)) 64 := val_split g 64 64
  have h1 := val_lt g 64
  have h2 := val_lt (fun k => g (64 + k)) 64
  have e1 : val (fun k => g (64 + k)) 64 = val g 128 / 18446744073709551616 := by omega
  have e2 : val g 64 = val g 128 % 18446744073709551616 := by omega
  rw [e1, e2] at h
  exact h
theorem sp_ref01_Add (n : Nat) (A B : Nat) (hA : A < 340282366920938463463374607431768211456) (hB : B < 340282366920938463463374607431768211456) :
    CP C (n + 2) F_ref01_Add [wv A, wv B] = some (.tup [wv ((A + B) % 340282366920938463463374607431768211456), .bool (decide (340282366920938463463374607431768211456 ≤ A + B))]) := by
  obtain ⟨g, c, h1, h2⟩ := sp_sum n (fun k => A.testBit k) (fun k => B.testBit k) false
  have hg := val_lt g 128
  rw [val_testBit, val_testBit] at h2
  have hs : val g 128 = (A + B) % 340282366920938463463374607431768211456 ∧ c = decide (340282366920938463463374607431768211456 ≤ A + B) := by
    cases c
    · simp at h2; refine ⟨by omega, ?_⟩; symm; apply decide_eq_false; omega
    · simp at h2; refine ⟨by omega, ?_⟩; symm; apply decide_eq_true; omega
  rw [eq_ref01_Add]
  unfold R_ref01_Add
  rw [sp_bits n A hA, sp_bits n B hB]
  simp only [k_bind, k_agg, fl_pure, Bool.and_self, Bool.and_true, cond_true, h1, k_tup, k_cons, k_bool, k_nil, fl_lenIs, fl_ok]
  rw [fl_whole _ rfl, fl_fits _ (by omega), cond_true, fl_take, fl_pure, cond_true, sp_wide n g]
  simp only [k_bind, k_agg, k_cons, k_int, k_nil]
  rw [hs.1, hs.2]
theorem val_not (f : Nat → Bool) : ∀ n, val (fun k => !f k) n + val f n + 1 = 2 ^ n
  | 0 => rfl
  | n + 1 => by
    have := val_not f n
    show val (fun k => !f k) n + (if (!f n) = true then 2 ^ n else 0) + (val f n + (if f n = true then 2 ^ n else 0)) + 1 = 2 ^ (n + 1)
    rw [Nat.pow_succ]
    cases f n <;> simp <;> omega
theorem sp_ref01_Sub (n : Nat) (A B : Nat) (hA : A < 340282366920938463463374607431768211456) (hB : B < 340282366920938463463374607431768211456) :
    CP C (n + 2) F_ref01_Sub [wv A, wv B] = some (.tup [wv ((A + (340282366920938463463374607431768211456 - B)) % 340282366920938463463374607431768211456), .bool (decide (A < B))]) := by
  obtain ⟨g, c, h1, h2⟩ := sp_sum n (fun k => A.testBit k) (fun k => !B.testBit k) true
  have hg := val_lt g 128
  have hn := val_not (fun k => B.testBit k) 128
  rw [val_testBit] at h2 hn
  have hs : val g 128 = (A + (340282366920938463463374607431768211456 - B)) % 340282366920938463463374607431768211456 ∧ (!c) = decide (A < B) := by
    cases c
    · simp at h2; refine ⟨by omega, ?_⟩; symm; apply decide_eq_true; omega
    · simp at h2; refine ⟨by omega, ?_⟩; symm; apply decide_eq_false; omega
  rw [eq_ref01_Sub]
  unfold R_ref01_Sub
  rw [sp_bits n A hA, sp_bits n B hB]
  simp only [k_bind, k_agg, fl_pure, Bool.and_self, Bool.and_true, cond_true, sp_turned, h1, k_tup, k_cons, k_bool, k_nil, fl_lenIs, fl_ok]
  rw [fl_whole _ rfl, fl_fits _ (by omega), cond_true, fl_take, fl_pure, cond_true, sp_wide n g]
  simp only [k_bind, k_agg, k_cons, k_int, k_nil]
  rw [hs.1, hs.2]
theorem sp_ref01_Neg (n : Nat) (A : Nat) (hA : A < 340282366920938463463374607431768211456) :
    CP C (n + 3) F_ref01_Neg [wv A] = some (wv ((340282366920938463463374607431768211456 - A) % 340282366920938463463374607431768211456)) := by
  rw [eq_ref01_Neg]
  unfold R_ref01_Neg
  have h := sp_ref01_Sub n 0 A (by omega) hA
  rw [Nat.zero_add] at h
  have e : wv 0 = .agg [.int .u64 0, .int .u64 0] := rfl
  rw [e] at h
  rw [h]
  rfl
theorem sp_ref01_Of (n : Nat) (x : Int) (h : -9223372036854775808 ≤ x ∧ x ≤ 9223372036854775807) :
    CP C (n + 1) F_ref01_Of [.int .i64 x] = some (wv ((x % 340282366920938463463374607431768211456).toNat)) := by
  rw [eq_ref01_Of]
  unfold R_ref01_Of wv
  by_cases g : x < 0
  · rw [decide_eq_true g, cond_true, IntKind.wrap_u64]
    simp only [Option.some.injEq, AV.int.injEq, AV.bool.injEq, AV.agg.injEq, AV.tup.injEq, List.cons.injEq, true_and, and_true]
    omega
  · rw [decide_eq_false g, cond_false, IntKind.wrap_u64]
    simp only [Option.some.injEq, AV.int.injEq, AV.bool.injEq, AV.agg.injEq, AV.tup.injEq, List.cons.injEq, true_and, and_true]
    omega
theorem or_one (a : Nat) (h : 2 * a + 1 < 18446744073709551616) : IntKind.u64.wrap (((BitVec.ofInt 64 ((2 * a : Nat) : Int) ||| BitVec.ofInt 64 1).toNat : Nat) : Int) = ((2 * a + 1 : Nat) : Int) := by
  have h2 : 2 * a ||| 1 = 2 * a + 1 := (Nat.two_pow_add_eq_or_of_lt (show 1 < 2 ^ 1 by omega) a).symm
  rw [ofInt_nat, show (1 : Int) = ((1 : Nat) : Int) from rfl, ofInt_nat, BitVec.toNat_or]
  simp only [BitVec.toNat_ofNat]
  rw [Nat.mod_eq_of_lt (by omega : 2 * a < 2 ^ 64), Nat.mod_eq_of_lt (by omega : 1 < 2 ^ 64), h2, IntKind.wrap_u64]
  omega
def divT (r : Nat) (b : Bool) : Nat := 2 * r + b.toNat
theorem div_step (n f k b r : Nat) (x g : Nat → Bool) (hk : k < 128) (hb : b < 18446744073709551616) (hr : r < b) :
    J_ref01_Div_1012 (CP C n) n (f + 1) (b : Int) (r : Int) (k : Int) (fl x) (fl g) =
      J_ref01_Div_1012 (CP C n) n f (b : Int) ((if b ≤ divT r (x k) then divT r (x k) - b else divT r (x k) : Nat) : Int) ((k : Int) - 1) (fl x) (fl fun j => if j = k ∧ b ≤ divT r (x k) then true else g j) := by
  have e1 : IntKind.i64.wrap ((k : Int) - 1) = (k : Int) - 1 := by rw [w64 (by omega)]
  have ix : ∀ j : Nat, 0 + Int.toNat ((j : Nat) : Int) * 1 = j := fun j => by omega
  have d1 : decide ((k : Int) < 128) = true := decide_eq_true (by omega)
  have d0 : decide ((0 : Int) ≤ (k : Int)) = true := decide_eq_true (by omega)
  have d2 : decide ((k : Int) ≥ 0) = true := decide_eq_true (by omega)
  have fx : fits k 1 (fl x) = true := fl_fits _ (by omega)
  have fg : fits k 1 (fl g) = true := fl_fits _ (by omega)
  have ew : IntKind.u64.wrap ((r : Int) * 2) = ((2 * (r % 9223372036854775808) : Nat) : Int) := by rw [IntKind.wrap_u64]; omega
  have yes : ∀ T : Nat, divT r (x k) = T → b ≤ T → fl (fun j => if j = k ∧ b ≤ divT r (x k) then true else g j) = fl (fun j => if j = k then true else g j) := by
    intro T h1 h2
    refine fl_ext fun j _ => ?_
    by_cases c : j = k
    · rw [if_pos ⟨c, by omega⟩, if_pos c]
    · rw [if_neg (fun h => c h.1), if_neg c]
  have no : ∀ T : Nat, divT r (x k) = T → ¬ b ≤ T → fl (fun j => if j = k ∧ b ≤ divT r (x k) then true else g j) = fl g := by
    intro T h1 h2
    refine fl_ext fun j _ => ?_
    rw [if_neg (fun h => h2 (by omega))]
  rw [Js_ref01_Div_1012]
  unfold T_ref01_Div_1012
  simp only [d1, d0, d2, Bool.and_self, cond_true, ix, fx, fg, fl_nth x hk, k_bool, e1, ew, fl_splice g true hk]
  cases hx : x k
  · have hT : divT r false = 2 * r := by simp [divT]
    rw [cond_false]
    rw [hx] at yes no
    by_cases o : r ≥ 9223372036854775808
    · rw [decide_eq_true (show (r : Int) ≥ 9223372036854775808 by omega), cond_true, yes _ hT (by omega), hT, if_pos (by omega)]
      rw [show IntKind.u64.wrap (((2 * (r % 9223372036854775808) : Nat) : Int) - (b : Int)) = ((2 * r - b : Nat) : Int) by rw [IntKind.wrap_u64]; omega]
    · rw [decide_eq_false (show ¬ (r : Int) ≥ 9223372036854775808 by omega), cond_false]
      rw [Nat.mod_eq_of_lt (by omega : r < 9223372036854775808)]
      by_cases q : b ≤ 2 * r
      · rw [decide_eq_true (show ((2 * r : Nat) : Int) ≥ (b : Int) by omega), cond_true, yes _ hT q, hT, if_pos q]
        rw [show IntKind.u64.wrap (((2 * r : Nat) : Int) - (b : Int)) = ((2 * r - b : Nat) : Int) by rw [IntKind.wrap_u64]; omega]
      · rw [decide_eq_false (show ¬ ((2 * r : Nat) : Int) ≥ (b : Int) by omega), cond_false, no _ hT q, hT, if_neg q]
  · have hT : divT r true = 2 * r + 1 := by simp [divT]
    rw [cond_true, bnd_eq _ (or_one (r % 9223372036854775808) (by omega))]
    rw [hx] at yes no
    by_cases o : r ≥ 9223372036854775808
    · rw [decide_eq_true (show (r : Int) ≥ 9223372036854775808 by omega), cond_true, yes _ hT (by omega), hT, if_pos (by omega)]
      rw [show IntKind.u64.wrap (((2 * (r % 9223372036854775808) + 1 : Nat) : Int) - (b : Int)) = ((2 * r + 1 - b : Nat) : Int) by rw [IntKind.wrap_u64]; omega]
    · rw [decide_eq_false (show ¬ (r : Int) ≥ 9223372036854775808 by omega), cond_false]
      rw [Nat.mod_eq_of_lt (by omega : r < 9223372036854775808)]
      by_cases q : b ≤ 2 * r + 1
      · rw [decide_eq_true (show ((2 * r + 1 : Nat) : Int) ≥ (b : Int) by omega), cond_true, yes _ hT q, hT, if_pos q]
        rw [show IntKind.u64.wrap (((2 * r + 1 : Nat) : Int) - (b : Int)) = ((2 * r + 1 - b : Nat) : Int) by rw [IntKind.wrap_u64]; omega]
      · rw [decide_eq_false (show ¬ ((2 * r + 1 : Nat) : Int) ≥ (b : Int) by omega), cond_false, no _ hT q, hT, if_neg q]
theorem div_loop (n b X : Nat) (hb : b < 18446744073709551616) : ∀ (k f r : Nat) (g : Nat → Bool), k < f → k ≤ 128 → r < b → (∀ j, j < k → g j = false) →
    X / 2 ^ k = val (fun j => g (k + j)) (128 - k) * b + r →
    J_ref01_Div_1012 (CP C (n + 1)) (n + 1) f (b : Int) (r : Int) ((k : Int) - 1) (fl fun j => X.testBit j) (fl g) = some (.tup [wv (X / b), .int .u64 ((X % b : Nat) : Int), .int .i64 0]) := by
  intro k
  induction k with
  | zero =>
    intro f r g hf hk hr hg hv
    obtain ⟨f, rfl⟩ : ∃ f', f = f' + 1 := ⟨f - 1, by omega⟩
    rw [Js_ref01_Div_1012]
    unfold T_ref01_Div_1012
    rw [show ((0 : Nat) : Int) - 1 = -1 by rfl, show decide ((-1 : Int) ≥ 0) = false from rfl, cond_false]
    rw [fl_fits _ (by omega), cond_true, fl_take, fl_pure, Bool.and_self, cond_true, sp_wide n g]
    simp only [k_bind, k_agg, k_cons, k_int, k_nil]
    have e : val (fun j => g (0 + j)) (128 - 0) = val g 128 := val_ext 128 (fun k _ => by rw [Nat.zero_add])
    rw [e, Nat.pow_zero, Nat.div_one] at hv
    have h1 : X / b = val g 128 := by
      rw [hv, Nat.mul_comm, Nat.mul_add_div (by omega), Nat.div_eq_of_lt hr, Nat.add_zero]
    have h2 : X % b = r := by
      rw [hv, Nat.mul_comm, Nat.mul_add_mod, Nat.mod_eq_of_lt hr]
    rw [h1, h2]
  | succ k ih =>
    intro f r g hf hk hr hg hv
    obtain ⟨f, rfl⟩ : ∃ f', f = f' + 1 := ⟨f - 1, by omega⟩
    rw [show ((k + 1 : Nat) : Int) - 1 = (k : Int) by omega, div_step (n + 1) f k b r _ g (by omega) hb hr]
    have hbit : (X.testBit k).toNat = X / 2 ^ k % 2 := by
      rw [Nat.testBit_eq_decide_div_mod_eq]
      have : X / 2 ^ k % 2 = 0 ∨ X / 2 ^ k % 2 = 1 := by omega
      rcases this with h | h <;> simp [h]
    have hY : X / 2 ^ (k + 1) = X / 2 ^ k / 2 := by rw [Nat.pow_succ, Nat.div_div_eq_div_mul]
    rw [hY] at hv
    have hT : divT r (X.testBit k) = 2 * r + X / 2 ^ k % 2 := by unfold divT; rw [hbit]
    rw [hT]
    generalize hYY : X / 2 ^ k = Y at *
    have hq : ∀ c : Bool, val (fun j => (fun j => if j = k ∧ b ≤ 2 * r + Y % 2 then true else g j) (k + j)) (128 - k) = (if b ≤ 2 * r + Y % 2 then 1 else 0) + 2 * val (fun j => g (k + 1 + j)) (128 - (k + 1)) := by
      intro _
      rw [show 128 - k = (128 - (k + 1)) + 1 by omega, val_cons]
      have a1 : val (fun j => (fun j => (fun j => if j = k ∧ b ≤ 2 * r + Y % 2 then true else g j) (k + j)) (j + 1)) (128 - (k + 1)) = val (fun j => g (k + 1 + j)) (128 - (k + 1)) :=
        val_ext _ (fun j _ => by
          show (if k + (j + 1) = k ∧ b ≤ 2 * r + Y % 2 then true else g (k + (j + 1))) = g (k + 1 + j)
          rw [if_neg (by omega), show k + (j + 1) = k + 1 + j by omega])
      rw [a1]
      congr 1
      show (if k + 0 = k ∧ b ≤ 2 * r + Y % 2 then true else g (k + 0)).toNat = _
      by_cases c : b ≤ 2 * r + Y % 2
      · rw [if_pos ⟨rfl, c⟩, if_pos c]; rfl
      · rw [if_neg (fun h => c h.2), if_neg c, Nat.add_zero, hg k (by omega)]; rfl
    refine ih f _ _ (by omega) (by omega) ?_ ?_ ?_
    · split <;> omega
    · intro j hj
      rw [if_neg (by omega)]; exact hg j (by omega)
    · have := hq true
      dsimp only at this
      rw [this]
      generalize val (fun j => g (k + 1 + j)) (128 - (k + 1)) = Q at hv
      have e3 : Y = 2 * (Q * b + r) + Y % 2 := by omega
      by_cases c : b ≤ 2 * r + Y % 2
      · rw [if_pos c, if_pos c, Nat.add_mul, Nat.mul_assoc, Nat.one_mul]; omega
      · rw [if_neg c, if_neg c, Nat.zero_add, Nat.mul_assoc]; omega
theorem sp_ref01_Div (n X b : Nat) (hX : X < 340282366920938463463374607431768211456) (hb0 : 0 < b) (hb : b < 18446744073709551616) :
    CP C (n + 2) F_ref01_Div [wv X, .int .u64 (b : Int)] = some (.tup [wv (X / b), .int .u64 ((X % b : Nat) : Int), .int .i64 0]) := by
  rw [eq_ref01_Div]
  unfold R_ref01_Div T_ref01_Div_1
  rw [show (((b : Int)) == 0) = false by rw [beq_eq_false_iff_ne]; omega, cond_false, sp_bits n X hX]
  simp only [k_bind, k_agg, fl_lenIs, fl_ok, cond_true]
  rw [fl_whole _ rfl]
  have h := div_loop n b X hb 128 (n + 1 + 300) 0 (fun _ => false) (by omega) (by omega) hb0 (fun _ _ => rfl) (by
    rw [Nat.div_eq_of_lt hX]; simp [val])
  rw [show ((128 : Nat) : Int) - 1 = 127 by rfl] at h
  rw [← h]
  rfl
def sh (d : Nat → Bool) (k j : Nat) : Bool := if k < j then d (j - 1) else d j
def shl (d : Nat → Bool) (j : Nat) : Bool := if j = 0 then false else d (j - 1)
theorem mul_shift (n : Nat) (r244 : Int → Int → List AV → List AV → Option AV) (b i : Int) (c : List AV) (d : Nat → Bool) : ∀ (k f : Nat), k < f → k < 128 →
    J_ref01_Mul_62612 (CP C n) n r244 f b i (k : Int) c (fl (sh d k)) = r244 b (IntKind.i64.wrap (i + 1)) c (fl (shl d)) := by
  intro k
  induction k with
  | zero =>
    intro f hf hk
    obtain ⟨f, rfl⟩ : ∃ f', f = f' + 1 := ⟨f - 1, by omega⟩
    rw [Js_ref01_Mul_62612]
    unfold T_ref01_Mul_62612
    rw [show decide (((0 : Nat) : Int) > 0) = false from rfl, cond_false, fl_fits _ (by omega), cond_true, fl_splice _ _ (by omega)]
    refine congrArg (r244 b (IntKind.i64.wrap (i + 1)) c) (fl_ext fun j _ => ?_)
    unfold sh shl
    by_cases h : j = 0
    · rw [if_pos h, if_pos h]
    · rw [if_neg h, if_neg h, if_pos (show 0 < j by omega)]
  | succ k ih =>
    intro f hf hk
    obtain ⟨f, rfl⟩ : ∃ f', f = f' + 1 := ⟨f - 1, by omega⟩
    have e1 : IntKind.i64.wrap (((k + 1 : Nat) : Int) - 1) = (k : Int) := by rw [w64 (by omega)]; omega
    have ix : ∀ j : Nat, 0 + Int.toNat ((j : Nat) : Int) * 1 = j := fun j => by omega
    have d1 : decide ((k : Int) < 128) = true := decide_eq_true (by omega)
    have d0 : decide ((0 : Int) ≤ (k : Int)) = true := decide_eq_true (by omega)
    have d2 : decide (((k + 1 : Nat) : Int) < 128) = true := decide_eq_true (by omega)
    have d3 : decide ((0 : Int) ≤ ((k + 1 : Nat) : Int)) = true := decide_eq_true (by omega)
    have d4 : decide (((k + 1 : Nat) : Int) > 0) = true := decide_eq_true (by omega)
    rw [Js_ref01_Mul_62612]
    unfold T_ref01_Mul_62612
    rw [e1, d4, cond_true, d0, d1, Bool.and_self, cond_true, ix, ix, fl_fits _ (by omega), cond_true, d2, d3, Bool.and_self, cond_true, fl_nth _ (by omega)]
    rw [show cellsOf (AV.bool (sh d (k + 1) k)) = [.bool (sh d (k + 1) k)] from rfl, show lenIs [AV.bool (sh d (k + 1) k)] 1 = true from rfl, cond_true, show cellsOk [AV.bool (sh d (k + 1) k)] = true from rfl, cond_true, fl_fits _ (by omega), cond_true, fl_splice _ _ hk]
    rw [← ih f (by omega) (by omega)]
    refine congrArg (J_ref01_Mul_62612 (CP C n) n r244 f b i (k : Int) c) (fl_ext fun j _ => ?_)
    unfold sh
    by_cases h : j = k + 1
    · subst h
      rw [if_pos rfl, if_neg (show ¬ k + 1 < k by omega), if_pos (show k < k + 1 by omega), show k + 1 - 1 = k by omega]
    · rw [if_neg h]
      by_cases h2 : k + 1 < j
      · rw [if_pos h2, if_pos (show k < j by omega)]
      · rw [if_neg h2, if_neg (show ¬ k < j by omega)]
theorem val_shl (d : Nat → Bool) (n : Nat) : val (shl d) (n + 1) = 2 * val d n := by
  rw [val_cons]
  have : val (fun j => shl d (j + 1)) n = val d n := val_ext n (fun j _ => by unfold shl; rw [if_neg (by omega), show j + 1 - 1 = j by omega])
  rw [this]
  show (false).toNat + 2 * val d n = _
  simp
theorem val_false : ∀ n, val (fun _ => false) n = 0
  | 0 => rfl
  | n + 1 => by show val (fun _ => false) n + 0 = 0; rw [val_false n]
theorem sh_all (d : Nat → Bool) : fl (sh d 127) = fl d := fl_ext fun j hj => by unfold sh; rw [if_neg (by omega)]
theorem mul_loop (n A B : Nat) (hA : A < 18446744073709551616) (hB : B < 18446744073709551616) : ∀ (r f i : Nat) (c d : Nat → Bool), i + r = 64 → r < f → val d 128 = A * 2 ^ i → val c 128 = A * (B % 2 ^ i) →
    J_ref01_Mul_244 (CP C (n + 1)) (n + 1) f (B : Int) (i : Int) (fl c) (fl d) = some (wv (A * B)) := by
  intro r
  induction r with
  | zero =>
    intro f i c d h1 hf hd hc
    obtain ⟨f, rfl⟩ : ∃ f', f = f' + 1 := ⟨f - 1, by omega⟩
    have hi : i = 64 := by omega
    subst hi
    rw [Js_ref01_Mul_244]
    unfold T_ref01_Mul_244
    rw [show decide (((64 : Nat) : Int) < 64) = false from rfl, cond_false]
    rw [fl_fits _ (by omega), cond_true, fl_take, fl_pure, Bool.and_self, cond_true, sp_wide n c]
    simp only [k_bind, k_agg, k_cons, k_int, k_nil]
    rw [hc, Nat.mod_eq_of_lt (show B < 2 ^ 64 by omega)]
  | succ r ih =>
    intro f i c d h1 hf hd hc
    obtain ⟨f, rfl⟩ : ∃ f', f = f' + 1 := ⟨f - 1, by omega⟩
    have hi : i < 64 := by omega
    have e1 : IntKind.i64.wrap ((i : Int) + 1) = ((i + 1 : Nat) : Int) := by rw [w64 (by omega)]; omega
    have hp : 2 ^ i ≤ 2 ^ 63 := Nat.pow_le_pow_right (by omega) (by omega)
    have hAp : A * 2 ^ i < 2 ^ 127 := Nat.lt_of_lt_of_le (Nat.mul_lt_mul_of_pos_right hA (Nat.two_pow_pos i)) (by omega)
    have hsd : val (shl d) 128 = A * 2 ^ (i + 1) := by
      have h2 : val d 128 = val d 127 + (if d 127 = true then 2 ^ 127 else 0) := rfl
      have h3 : d 127 = false := by
        cases h : d 127
        · rfl
        · rw [h, if_pos rfl] at h2; omega
      rw [h3] at h2
      rw [val_shl, Nat.pow_succ, ← Nat.mul_assoc, ← hd]
      simp at h2
      omega
    have hmod : B % 2 ^ (i + 1) = B % 2 ^ i + 2 ^ i * (B.testBit i).toNat := by
      rw [Nat.mod_pow_succ, Nat.testBit_eq_decide_div_mod_eq]
      have : B / 2 ^ i % 2 = 0 ∨ B / 2 ^ i % 2 = 1 := by omega
      rcases this with h | h <;> simp [h]
    rw [Js_ref01_Mul_244]
    unfold T_ref01_Mul_244
    rw [decide_eq_true (show (i : Int) < 64 by omega), cond_true, u64i i hi, decide_eq_false (show ¬ (i : Int) < 0 by omega), cond_false, bnd_eq _ rfl, bnd_eq _ rfl, shr_bit B i hB hi]
    cases hbit : B.testBit i
    · rw [cond_false]
      have := mul_shift (n + 1) (J_ref01_Mul_244 (CP C (n + 1)) (n + 1) f) (B : Int) (i : Int) (fl c) d 127 (n + 1 + 300) (by omega) (by omega)
      rw [sh_all] at this
      rw [show (127 : Int) = ((127 : Nat) : Int) from rfl, this, e1]
      refine ih f (i + 1) c (shl d) (by omega) (by omega) hsd ?_
      rw [hmod, hbit, hc]; simp
    · rw [cond_true]
      obtain ⟨g, c', s1, s2⟩ := sp_sum n c d false
      have hcb : val c 128 + val d 128 < 2 ^ 128 := by
        have h4 : B % 2 ^ i < 2 ^ i := Nat.mod_lt _ (Nat.two_pow_pos i)
        have h5 : A * (B % 2 ^ i) ≤ A * 2 ^ i := Nat.mul_le_mul_left _ (Nat.le_of_lt h4)
        omega
      have hg : val g 128 = val c 128 + val d 128 := by
        cases c'
        · simp at s2; omega
        · simp at s2; omega
      rw [fl_fits c (by omega), fl_fits d (by omega), cond_true, cond_true, fl_take, fl_take, fl_pure, fl_pure]
      simp only [Bool.and_self, cond_true, s1, k_bind, k_tup, k_cons, k_agg, k_bool, k_nil, fl_lenIs, fl_ok]
      rw [fl_whole _ (fl_len c)]
      have := mul_shift (n + 1) (J_ref01_Mul_244 (CP C (n + 1)) (n + 1) f) (B : Int) (i : Int) (fl g) d 127 (n + 1 + 300) (by omega) (by omega)
      rw [sh_all] at this
      rw [show (127 : Int) = ((127 : Nat) : Int) from rfl, this, e1]
      refine ih f (i + 1) g (shl d) (by omega) (by omega) hsd ?_
      rw [hmod, hbit, hg, hc, hd, Nat.mul_add]; simp
def mf (A i k : Nat) : Bool := if k < i then A.testBit k else false
theorem mul116 (n A B : Nat) (hA : A < 18446744073709551616) (hB : B < 18446744073709551616) : ∀ (r f i : Nat), i + r = 64 → r < f →
    J_ref01_Mul_116 (CP C (n + 1)) (n + 1) f (A : Int) (B : Int) (i : Int) (fl (mf A i)) = some (wv (A * B)) := by
  intro r
  induction r with
  | zero =>
    intro f i h1 hf
    obtain ⟨f, rfl⟩ : ∃ f', f = f' + 1 := ⟨f - 1, by omega⟩
    have hi : i = 64 := by omega
    subst hi
    rw [Js_ref01_Mul_116]
    unfold T_ref01_Mul_116
    rw [show decide (((64 : Nat) : Int) < 64) = false from rfl, cond_false]
    have hv : val (mf A 64) 128 = A * 2 ^ 0 := by
      have h2 := val_testBit A 128
      have h3 : val (mf A 64) 128 = val (fun k => A.testBit k) 128 := val_ext 128 (fun k _ => by
        unfold mf
        by_cases c : k < 64
        · rw [if_pos c]
        · rw [if_neg c]; symm; exact Nat.testBit_lt_two_pow (Nat.lt_of_lt_of_le (show A < 2 ^ 64 by omega) (Nat.pow_le_pow_right (by omega) (by omega))))
      rw [h3, h2, Nat.mod_eq_of_lt (by omega)]; omega
    have hz : val (fun _ => false) 128 = A * (B % 2 ^ 0) := by
      rw [Nat.pow_zero, Nat.mod_one, Nat.mul_zero]; exact val_false 128
    have h := mul_loop n A B hA hB 64 (n + 1 + 300) 0 (fun _ => false) (mf A 64) (by omega) (by omega) hv hz
    rw [← h]; rfl
  | succ r ih =>
    intro f i h1 hf
    obtain ⟨f, rfl⟩ : ∃ f', f = f' + 1 := ⟨f - 1, by omega⟩
    have hi : i < 64 := by omega
    have e1 : IntKind.i64.wrap ((i : Int) + 1) = ((i + 1 : Nat) : Int) := by rw [w64 (by omega)]; omega
    have ix : ∀ j : Nat, 0 + Int.toNat ((j : Nat) : Int) * 1 = j := fun j => by omega
    rw [Js_ref01_Mul_116]
    unfold T_ref01_Mul_116
    rw [decide_eq_true (show (i : Int) < 64 by omega), cond_true, u64i i hi, decide_eq_false (show ¬ (i : Int) < 0 by omega), cond_false, bnd_eq _ rfl, bnd_eq _ rfl, shr_bit A i hA hi]
    rw [decide_eq_true (show (0 : Int) ≤ (i : Int) by omega), decide_eq_true (show (i : Int) < 128 by omega), Bool.and_self, cond_true, ix, fl_fits _ (by omega), cond_true, fl_splice _ _ (by omega), e1]
    rw [← ih f (i + 1) (by omega) (by omega)]
    refine congrArg (J_ref01_Mul_116 (CP C (n + 1)) (n + 1) f (A : Int) (B : Int) ((i + 1 : Nat) : Int)) (fl_ext fun k _ => ?_)
    unfold mf
    by_cases c : k = i
    · subst c; rw [if_pos rfl, if_pos (show k < k + 1 by omega)]
    · rw [if_neg c]
      by_cases c2 : k < i
      · rw [if_pos c2, if_pos (show k < i + 1 by omega)]
      · rw [if_neg c2, if_neg (show ¬ k < i + 1 by omega)]
theorem sp_ref01_Mul (n A B : Nat) (hA : A < 18446744073709551616) (hB : B < 18446744073709551616) : CP C (n + 2) F_ref01_Mul [.int .u64 (A : Int), .int .u64 (B : Int)] = some (wv (A * B)) := by
  rw [eq_ref01_Mul]
  unfold R_ref01_Mul T_ref01_Mul_1
  have h := mul116 n A B hA hB 64 (n + 1 + 300) 0 (by omega) (by omega)
  rw [← h]; rfl
/-- A signed number as its two words. -/
abbrev wI (z : Int) : AV := wv (z % 340282366920938463463374607431768211456).toNat
theorem wI_of (V : Nat) (hV : V < 340282366920938463463374607431768211456) : wv V = wI (V : Int) := by
  unfold wI
  rw [show ((V : Int) % 340282366920938463463374607431768211456).toNat = V by omega]
theorem sp_ref01_Below (n : Nat) (z : Int) (h : -170141183460469231731687303715884105728 ≤ z ∧ z < 170141183460469231731687303715884105728) :
    CP C (n + 1) F_ref01_Below [wI z] = some (.bool (decide (z < 0))) := by
  rw [eq_ref01_Below]
  unfold R_ref01_Below
  rw [show decide ((((z % 340282366920938463463374607431768211456).toNat / 18446744073709551616 : Nat) : Int) ≥ 9223372036854775808) = decide (z < 0) by rw [decide_eq_decide]; omega]
theorem sp_ref01_Int (n : Nat) (z : Int) (h : -170141183460469231731687303715884105728 ≤ z ∧ z < 170141183460469231731687303715884105728) :
    CP C (n + 2) F_ref01_Int [wI z] = some (.tup [.int .i64 (if -9223372036854775808 ≤ z ∧ z ≤ 9223372036854775807 then z else 0), .int .i64 (if -9223372036854775808 ≤ z ∧ z ≤ 9223372036854775807 then 0 else 8)]) := by
  rw [eq_ref01_Int]
  unfold R_ref01_Int
  rw [sp_ref01_Of n _ (by rw [IntKind.wrap_i64]; omega)]
  simp only [k_int, k_anyInt, k_bool, k_str, k_agg, k_tup, k_cons, k_nil, k_bind, ↓c_not, ↓c_bne, ite_cond, Bool.and_eq_true, Bool.or_eq_true, beq_iff_eq, Bool.and_true, decide_eq_true_eq, Bool.false_eq_true, if_true, if_false, bne_self_eq_false, and_self, Int.reduceEq, Int.reduceLT, Int.reduceNeg, i_some, i_int, i_bool, i_agg, i_tup, i_cons, i_self, Option.some.injEq, AV.int.injEq, AV.bool.injEq, AV.agg.injEq, AV.tup.injEq, List.cons.injEq, true_and, and_true]
  rw [IntKind.wrap_i64]
  omega
theorem wI_add (a b : Int) : wv (((a % 340282366920938463463374607431768211456).toNat + (b % 340282366920938463463374607431768211456).toNat) % 340282366920938463463374607431768211456) = wI (a + b) := by
  unfold wI
  rw [show ((a % 340282366920938463463374607431768211456).toNat + (b % 340282366920938463463374607431768211456).toNat) % 340282366920938463463374607431768211456 = ((a + b) % 340282366920938463463374607431768211456).toNat by omega]
theorem wI_sub (a b : Int) : wv (((a % 340282366920938463463374607431768211456).toNat + (340282366920938463463374607431768211456 - (b % 340282366920938463463374607431768211456).toNat)) % 340282366920938463463374607431768211456) = wI (a - b) := by
  unfold wI
  rw [show ((a % 340282366920938463463374607431768211456).toNat + (340282366920938463463374607431768211456 - (b % 340282366920938463463374607431768211456).toNat)) % 340282366920938463463374607431768211456 = ((a - b) % 340282366920938463463374607431768211456).toNat by omega]
theorem wI_neg (a : Int) : wv ((340282366920938463463374607431768211456 - (a % 340282366920938463463374607431768211456).toNat) % 340282366920938463463374607431768211456) = wI (-a) := by
  unfold wI
  rw [show (340282366920938463463374607431768211456 - (a % 340282366920938463463374607431768211456).toNat) % 340282366920938463463374607431768211456 = (-a % 340282366920938463463374607431768211456).toNat by omega]
/-- Does the sum of two numbers of 128 bits carry? -/
def cA (a b : Int) : Bool := decide (340282366920938463463374607431768211456 ≤ (a % 340282366920938463463374607431768211456).toNat + (b % 340282366920938463463374607431768211456).toNat)
theorem sg_ref01_Add (n : Nat) (a b : Int) : CP C (n + 2) F_ref01_Add [wI a, wI b] = some (.tup [wI (a + b), .bool (cA a b)]) := by
  unfold wI
  rw [sp_ref01_Add n _ _ (by omega) (by omega), wI_add]
  rfl
def cS (a b : Int) : Bool := decide ((a % 340282366920938463463374607431768211456).toNat < (b % 340282366920938463463374607431768211456).toNat)
theorem sg_ref01_Sub (n : Nat) (a b : Int) : CP C (n + 2) F_ref01_Sub [wI a, wI b] = some (.tup [wI (a - b), .bool (cS a b)]) := by
  unfold wI
  rw [sp_ref01_Sub n _ _ (by omega) (by omega), wI_sub]
  rfl
theorem sg_ref01_Neg (n : Nat) (a : Int) : CP C (n + 3) F_ref01_Neg [wI a] = some (wI (-a)) := by
  unfold wI
  rw [sp_ref01_Neg n _ (by omega), wI_neg]
end Go.Proofs.YtbikcndldcfffaaDoor.Sim.S
