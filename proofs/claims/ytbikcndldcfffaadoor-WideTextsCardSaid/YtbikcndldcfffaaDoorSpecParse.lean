/- A text as a number of 128 bits: what the program's and the document's functions answer. Condition: none beyond what each theorem says. -/
import Derived.Test.YtbikcndldcfffaaDoorSpecText
set_option linter.unusedSimpArgs false
set_option linter.unusedVariables false
open Go Go.Proofs
namespace Go.Proofs.YtbikcndldcfffaaDoor.Sim.S
open Go
def negT (l : List UInt8) : Bool := decide (l[0]? = some 45)
def restT (l : List UInt8) : List UInt8 := if negT l then l.drop 1 else l
def badT (l : List UInt8) : Bool := decide (restT l = []) || (!(restT l).all isDig || (decide ((restT l)[0]? = some 48) && decide (l ≠ [48])))
def most (b : Bool) : Nat := if b then 170141183460469231731687303715884105728 else 170141183460469231731687303715884105727
def errA (e : Int) : AV := .tup [.agg [.int .u64 0, .int .u64 0], .int .i64 e]
def res (b : Bool) (V : Nat) : AV := if V ≤ most b then .tup [wv (if b then (340282366920938463463374607431768211456 - V) % 340282366920938463463374607431768211456 else V), .int .i64 0] else errA 8
def prs (l : List UInt8) : AV := if 64 < l.length then errA 1 else if badT l then errA 2 else res (negT l) (vl (restT l))
theorem res_neg (V : Nat) (h : V ≤ 170141183460469231731687303715884105728) : res true V = .tup [wv ((340282366920938463463374607431768211456 - V) % 340282366920938463463374607431768211456), .int .i64 0] := by
  unfold res most
  rw [if_pos rfl, if_pos h, if_pos rfl]
theorem res_pos (V : Nat) (h : V ≤ 170141183460469231731687303715884105727) : res false V = .tup [wv V, .int .i64 0] := by
  unfold res most
  rw [if_neg Bool.false_ne_true, if_pos h, if_neg Bool.false_ne_true]
theorem res_bad (b : Bool) (V : Nat) (h : most b < V) : res b V = .tup [.agg [.int .u64 0, .int .u64 0], .int .i64 8] := by
  unfold res errA
  rw [if_neg (Nat.not_le.2 h)]
theorem most_le (b : Bool) : most b ≤ 170141183460469231731687303715884105728 := by cases b <;> decide
theorem most_ge (b : Bool) : 170141183460469231731687303715884105727 ≤ most b := by cases b <;> decide

/-! ### the sign -/
theorem sp_HasPrefix (n : Nat) (l : List UInt8) : CP C (n + 1) F_internal_stringslite_HasPrefix [.str (BA l), .str (ByteArray.mk #[45])] = some (.bool (negT l)) := by
  rw [eq_internal_stringslite_HasPrefix]
  unfold R_internal_stringslite_HasPrefix negT
  rw [show (ByteArray.mk #[45]) = BA [45] from rfl, BA_size, BA_size, Int.toNat_natCast, BA_extract, BA_toList, BA_toList]
  cases l with
  | nil => rfl
  | cons b l =>
    rw [decide_eq_true (show (((b :: l).length : Nat) : Int) ≥ (([45] : List UInt8).length : Nat) by simp only [List.length_cons, List.length_nil]; omega), cT,
      decide_eq_true (show (0 : Int) ≤ (([45] : List UInt8).length : Nat) by omega), Bool.and_self, cT]
    show some (AV.bool ([b] == [45])) = some (AV.bool (decide (some b = some 45)))
    by_cases h : b = 45
    · subst h; rfl
    · rw [decide_eq_false (by simpa using h)]
      simp [h]
theorem sp_CutPrefix (n : Nat) (l : List UInt8) : CP C (n + 2) F_internal_stringslite_CutPrefix [.str (BA l), .str (ByteArray.mk #[45])] = some (.tup [.str (BA (restT l)), .bool (negT l)]) := by
  rw [eq_internal_stringslite_CutPrefix]
  unfold R_internal_stringslite_CutPrefix restT
  rw [sp_HasPrefix n l]
  simp only [k_bind, k_bool]
  cases h : negT l with
  | false => rfl
  | true =>
    have hl : 1 ≤ l.length := by
      cases l with
      | nil => cases h
      | cons b l => simp
    rw [Bool.not_true, cF, show (ByteArray.mk #[45]) = BA [45] from rfl, BA_size, BA_size, Int.toNat_natCast, BA_extract]
    rw [decide_eq_true (show (0 : Int) ≤ (([45] : List UInt8).length : Nat) by omega), decide_eq_true (show ((([45] : List UInt8).length : Nat) : Int) ≤ ((l.length : Nat) : Int) by simp only [List.length_cons, List.length_nil]; omega), Bool.and_self, cT]
    rw [List.take_length]
    rfl
theorem sp_strings_CutPrefix (n : Nat) (l : List UInt8) : CP C (n + 3) F_strings_CutPrefix [.str (BA l), .str (ByteArray.mk #[45])] = some (.tup [.str (BA (restT l)), .bool (negT l)]) := by
  rw [eq_strings_CutPrefix]
  unfold R_strings_CutPrefix
  rw [sp_CutPrefix n l]
  simp only [k_bind, k_tup, k_cons, k_nil, k_str, k_bool]

/-! ### the digits -/
theorem digs_isDig (b : UInt8) : ([48, 49, 50, 51, 52, 53, 54, 55, 56, 57] : List UInt8).contains b = isDig b := by
  have h : ((List.range 256).all fun n => ([48, 49, 50, 51, 52, 53, 54, 55, 56, 57] : List UInt8).contains (UInt8.ofNat n) == isDig (UInt8.ofNat n)) = true := by kernel_rfl
  have := List.all_eq_true.1 h b.toNat (List.mem_range.2 b.toNat_lt)
  rw [UInt8.ofNat_toNat] at this
  exact eq_of_beq this
theorem mem_dw {p : UInt8 → Bool} {b : UInt8} (hb : p b = false) : ∀ {l : List UInt8}, b ∈ l → b ∈ l.dropWhile p
  | [], h => by cases h
  | c :: l, h => by
    rw [List.dropWhile_cons]
    split
    · rename_i hc
      rcases List.mem_cons.1 h with rfl | h
      · rw [hb] at hc; cases hc
      · exact mem_dw hb h
    · exact h
theorem dw_nil {p : UInt8 → Bool} : ∀ {l : List UInt8}, (∀ x ∈ l, p x = true) → l.dropWhile p = []
  | [], _ => rfl
  | c :: l, h => by
    rw [List.dropWhile_cons, if_pos (h c List.mem_cons_self)]
    exact dw_nil fun x hx => h x (List.mem_cons_of_mem _ hx)
theorem trim_nil (l : List UInt8) : Lib.trimS l [48, 49, 50, 51, 52, 53, 54, 55, 56, 57] = [] ↔ l.all isDig = true := by
  have e : (fun b => ([48, 49, 50, 51, 52, 53, 54, 55, 56, 57] : List UInt8).contains b) = isDig := funext digs_isDig
  unfold Lib.trimS Lib.trimLeftS Lib.trimRightS
  rw [e]
  constructor
  · intro h
    cases hall : l.all isDig with
    | true => rfl
    | false =>
      obtain ⟨b, hb, hn⟩ := List.all_eq_false.1 hall
      have hn' : isDig b = false := by simpa using hn
      have := mem_dw (p := isDig) hn' (l := (l.reverse.dropWhile isDig).reverse) (List.mem_reverse.2 (mem_dw hn' (List.mem_reverse.2 hb)))
      rw [h] at this
      cases this
  · intro h
    have : l.reverse.dropWhile isDig = [] := dw_nil fun x hx => List.all_eq_true.1 h x (List.mem_reverse.1 hx)
    rw [this]; rfl
theorem sp_Trim (n : Nat) (l : List UInt8) (hl : l.length ≤ 64) : CP C (n + 1) F_strings_Trim [.str (BA l), .str (ByteArray.mk #[48, 49, 50, 51, 52, 53, 54, 55, 56, 57])] = some (.str (BA (Lib.trimS l [48, 49, 50, 51, 52, 53, 54, 55, 56, 57]))) := by
  have h : CP C (n + 1) F_strings_Trim [.str (BA l), .str (ByteArray.mk #[48, 49, 50, 51, 52, 53, 54, 55, 56, 57])] =
      cond (decide ((BA l).size ≤ 9223372036854775807) && true) (some (.str (BA (Lib.trimS l [48, 49, 50, 51, 52, 53, 54, 55, 56, 57])))) (CP C (n + 1) F_strings_Trim [.str (BA l), .str (ByteArray.mk #[48, 49, 50, 51, 52, 53, 54, 55, 56, 57])]) := by
    cases hs : decide ((BA l).size ≤ 9223372036854775807) with
    | false =>
      have := of_decide_eq_false hs
      rw [BA_size] at this
      omega
    | true =>
      have hk : trimK [.str (BA l), .str (ByteArray.mk #[48, 49, 50, 51, 52, 53, 54, 55, 56, 57])] = some (.str (BA (Lib.trimS l [48, 49, 50, 51, 52, 53, 54, 55, 56, 57]))) := by
        show cond (decide ((BA l).size ≤ 9223372036854775807) && true) _ _ = _
        rw [hs]
        rfl
      have : C.known F_strings_Trim [.str (BA l), .str (ByteArray.mk #[48, 49, 50, 51, 52, 53, 54, 55, 56, 57])] = some (.str (BA (Lib.trimS l [48, 49, 50, 51, 52, 53, 54, 55, 56, 57]))) := hk
      unfold CP
      simp only [this, Bool.and_self, cT]
  rw [h, BA_size, decide_eq_true (by omega), Bool.and_self, cT]
theorem cmpS (n A B : Nat) (ha : A < 340282366920938463463374607431768211456) (hb : B < 340282366920938463463374607431768211456) :
    CP C (n + 1) F_ref01_Cmp [wv A, wv B] = some (.int .i64 (if A < B then -1 else if B < A then 1 else 0)) := by
  rw [eq_ref01_Cmp]
  unfold R_ref01_Cmp
  simp only [k_int, k_anyInt, k_bool, k_str, k_agg, k_tup, k_cons, k_nil, k_bind, ↓c_not, ↓c_bne, ite_cond, Bool.and_eq_true, Bool.or_eq_true, beq_iff_eq, Bool.and_true, decide_eq_true_eq, Bool.false_eq_true, if_true, if_false, bne_self_eq_false, and_self, Int.reduceEq, Int.reduceLT, Int.reduceNeg, i_some, i_int, i_bool, i_agg, i_tup, i_cons, i_self, Option.some.injEq, AV.int.injEq, AV.bool.injEq, AV.agg.injEq, AV.tup.injEq, List.cons.injEq, true_and, and_true]
  omega
theorem cmpW (n A B : Nat) (ha : A < 340282366920938463463374607431768211456) (hb : B < 340282366920938463463374607431768211456) :
    CP C (n + 2) F_wide_Cmp [wv A, wv B] = some (.int .i64 (if A < B then -1 else if B < A then 1 else 0)) := by
  rw [eq_wide_Cmp]
  unfold R_wide_Cmp
  rw [sp_wide_Sub n A B ha hb]
  simp only [k_bind, k_tup, k_agg, k_cons, k_int, k_nil, k_bool]
  by_cases h : A = B
  · subst h
    rw [if_neg (Nat.lt_irrefl _)]
    simp only [beq_self_eq_true, Bool.and_self, cT, if_neg (Nat.lt_irrefl A)]
  · rw [show (((A / 18446744073709551616 : Nat) : Int) == ((B / 18446744073709551616 : Nat) : Int) && (((A % 18446744073709551616 : Nat) : Int) == ((B % 18446744073709551616 : Nat) : Int) && true)) = false by
      rw [Bool.and_true, Bool.and_eq_false_iff, beq_eq_false_iff_ne, beq_eq_false_iff_ne]; omega, cF]
    by_cases g : A < B
    · rw [decide_eq_true g, if_pos g]; rfl
    · rw [decide_eq_false g, if_neg g, if_pos (by omega)]; rfl
theorem digit_word (c : UInt8) (h : isDig c = true) : IntKind.u64.wrap (IntKind.u8.wrap (((c.toNat : Nat) : Int) - 48)) = ((c.toNat - 48 : Nat) : Int) := by
  have : 48 ≤ c.toNat ∧ c.toNat ≤ 57 := by simpa [isDig] using h
  rw [IntKind.wrap_u64, IntKind.wrap_u8]
  omega
theorem word_join (x y : Nat) (hy : y < 18446744073709551616) : AV.agg [.int .u64 ((x : Nat) : Int), .int .u64 ((y : Nat) : Int)] = wv (x * 18446744073709551616 + y) := by
  unfold wv
  rw [show (x * 18446744073709551616 + y) / 18446744073709551616 = x by omega, show (x * 18446744073709551616 + y) % 18446744073709551616 = y by omega]
theorem times_ten (A : Nat) (h : A / 18446744073709551616 ≤ 1152921504606846976) :
    (A % 18446744073709551616 * 10 / 18446744073709551616 + A / 18446744073709551616 * 10 % 18446744073709551616) * 18446744073709551616 + A % 18446744073709551616 * 10 % 18446744073709551616 = 10 * A := by omega
theorem high_word (L H : Nat) (hL : L < 18446744073709551616) (hH : H ≤ 1152921504606846976) :
    IntKind.u64.wrap (((L * 10 / 18446744073709551616 : Nat) : Int) + ((H * 10 % 18446744073709551616 : Nat) : Int)) = ((L * 10 / 18446744073709551616 + H * 10 % 18446744073709551616 : Nat) : Int) := by
  have h1 : L * 10 / 18446744073709551616 ≤ 10 := by omega
  have h2 : H * 10 % 18446744073709551616 ≤ 11529215046068469760 := Nat.le_trans (Nat.mod_le _ _) (by omega)
  generalize L * 10 / 18446744073709551616 = x at *
  generalize H * 10 % 18446744073709551616 = y at *
  rw [IntKind.wrap_u64]; omega
/-- The program's rounds. -/
theorem parse_loop (n : Nat) (t : List UInt8) (b : Bool) (ht : t.all isDig = true) (hl : t.length ≤ 64) : ∀ (m k : Nat), t.length < k + m → k ≤ t.length → vl (t.take k) ≤ most b →
    J_wide_Parse_4084 (CP C (n + 3)) (n + 3) m (BA t) b ((t.length : Nat) : Int) ((k : Nat) : Int) ((most b / 18446744073709551616 : Nat) : Int) ((most b % 18446744073709551616 : Nat) : Int) ((vl (t.take k) / 18446744073709551616 : Nat) : Int) ((vl (t.take k) % 18446744073709551616 : Nat) : Int) = some (res b (vl t))
  | 0, k, h, h', _ => absurd h (by omega)
  | m + 1, k, h, h', hA => by
    have hM := most_le b
    have hM' := most_ge b
    rw [Js_wide_Parse_4084]
    unfold T_wide_Parse_4084
    by_cases hk : k < t.length
    · rw [decide_eq_true (show ((k : Nat) : Int) < ((t.length : Nat) : Int) by omega), cT]
      have hget : t[k]? = some t[k] := List.getElem?_eq_getElem hk
      have hdig : isDig t[k] = true := List.all_eq_true.1 ht _ (List.getElem_mem hk)
      have hstep := vl_take_succ t k t[k] hget
      have hle := vl_take t (k + 1)
      have hd9 : 48 ≤ t[k].toNat ∧ t[k].toNat ≤ 57 := by simpa [isDig] using hdig
      generalize hA0 : vl (t.take k) = A at *
      generalize hV : vl t = V at *
      by_cases hbig : A / 18446744073709551616 > 1152921504606846976
      · rw [decide_eq_true (show ((A / 18446744073709551616 : Nat) : Int) > 1152921504606846976 by omega), cT]
        rw [res_bad _ _ (by omega)]
      · rw [decide_eq_false (show ¬ ((A / 18446744073709551616 : Nat) : Int) > 1152921504606846976 by omega), cF]
        have m1 := sp_wide_Mul (n + 1) (A % 18446744073709551616) 10 (by omega) (by omega)
        have m2 := sp_wide_Mul (n + 1) (A / 18446744073709551616) 10 (by omega) (by omega)
        rw [show ((10 : Nat) : Int) = 10 from rfl] at m1 m2
        rw [m1, m2]
        unfold wv
        simp only [k_bind, k_tup, k_agg, k_cons, k_int, k_nil, k_bool]
        rw [decide_eq_true (show (0 : Int) ≤ ((k : Nat) : Int) by omega), cT, Int.toNat_natCast]
        simp only [BA_get, hget]
        rw [bnd_eq _ (digit_word _ hdig)]
        have e1 := high_word (A % 18446744073709551616) (A / 18446744073709551616) (by omega) (by omega)
        rw [e1, word_join _ _ (by omega), times_ten A (by omega)]
        have e2 : AV.agg [.int .u64 0, .int .u64 ((t[k].toNat - 48 : Nat) : Int)] = wv (t[k].toNat - 48) := by
          have := word_join 0 (t[k].toNat - 48) (by omega)
          rw [Nat.zero_mul, Nat.zero_add] at this
          exact this
        rw [e2, sp_wide_Add (n + 2) _ _ (by omega) (by omega), Nat.mod_eq_of_lt (show 10 * A + (t[k].toNat - 48) < 340282366920938463463374607431768211456 by omega), ← hstep]
        generalize hW : vl (t.take (k + 1)) = W at *
        unfold wv
        simp only [k_bind, k_tup, k_agg, k_cons, k_int, k_nil, k_bool]
        have hc := cmpW (n + 1) W (most b) (by omega) (by omega)
        unfold wv at hc
        rw [hc]
        simp only [k_bind, k_int]
        by_cases g : most b < W
        · rw [decide_eq_true (by rw [if_neg (by omega), if_pos g]; decide), cT]
          rw [res_bad _ _ (by omega)]
        · rw [decide_eq_false (by rw [if_neg g]; split <;> decide), cF]
          have hi : IntKind.i64.wrap (((k : Nat) : Int) + 1) = ((k + 1 : Nat) : Int) := by rw [IntKind.wrap_i64]; omega
          have ih := parse_loop n t b ht hl m (k + 1) (by omega) (by omega) (by omega)
          rw [hW, hV] at ih
          rw [hi]
          exact ih
    · rw [decide_eq_false (show ¬ ((k : Nat) : Int) < ((t.length : Nat) : Int) by omega), cF]
      have hk' : k = t.length := by omega
      rw [show vl (t.take k) = vl t by rw [hk', List.take_length]] at *
      cases b with
      | false =>
        rw [res_pos _ hA, cF]
      | true =>
        rw [res_neg _ hA, cT]
        have e := sp_wide_Neg (n + 1) (vl t) (by omega)
        unfold wv at e ⊢
        rw [e]
        simp only [k_bind, k_agg, k_cons, k_int, k_nil]
theorem beqBA (a : List UInt8) (b : List UInt8) : ((BA a).toList == (BA b).toList) = decide (a = b) := by
  rw [BA_toList, BA_toList]
  by_cases h : a = b
  · subst h; simp
  · rw [decide_eq_false h]; exact beq_eq_false_iff_ne.2 h
theorem rest_len (l : List UInt8) : (restT l).length ≤ l.length := by
  unfold restT; split <;> simp
theorem sp_wide_Parse (n : Nat) (l : List UInt8) : CP C (n + 4) F_wide_Parse [.str (BA l)] = some (prs l) := by
  rw [eq_wide_Parse]
  unfold R_wide_Parse T_wide_Parse_1 prs
  rw [BA_size]
  by_cases hl : 64 < l.length
  · rw [decide_eq_true (show ((l.length : Nat) : Int) > 64 by omega), cT, if_pos hl]
    rfl
  · rw [decide_eq_false (show ¬ ((l.length : Nat) : Int) > 64 by omega), cF, if_neg hl, sp_strings_CutPrefix n l]
    simp only [k_bind, k_tup, k_cons, k_nil, k_str, k_bool]
    have hrl := rest_len l
    have hTr := sp_Trim (n + 2) (restT l) (by omega)
    rw [hTr]
    simp only [k_bind, k_str]
    rw [show (ByteArray.mk #[]) = BA [] from rfl, show (ByteArray.mk #[48]) = BA [48] from rfl, beqBA, beqBA, beqBA]
    have hL := parse_loop n (restT l) (negT l)
    have hsub := sp_wide_Sub (n + 2) (9223372036854775808 * 18446744073709551616) 1 (by omega) (by omega)
    have e1 : AV.agg [.int .u64 9223372036854775808, .int .u64 0] = wv (9223372036854775808 * 18446744073709551616) := by unfold wv; rfl
    have e2 : AV.agg [.int .u64 0, .int .u64 1] = wv 1 := by unfold wv; rfl
    unfold badT
    by_cases h1 : restT l = []
    · rw [decide_eq_true h1, cT, Bool.true_or, if_pos rfl]
      rfl
    · rw [decide_eq_false h1, cF, Bool.false_or]
      have htr := trim_nil (restT l)
      cases h2 : (restT l).all isDig with
      | false =>
        rw [h2] at htr
        rw [decide_eq_false (fun e => Bool.false_ne_true (htr.1 e)), Bool.not_false, cT, Bool.true_or, if_pos rfl]
        rfl
      | true =>
        rw [decide_eq_true (htr.2 h2), Bool.not_true, cF, Bool.false_or]
        obtain ⟨c, t', ht⟩ := List.exists_cons_of_ne_nil h1
        have hg : (restT l)[0]? = some c := by rw [ht]; rfl
        simp only [BA_get, hg]
        have h48 : ((((c.toNat : Nat) : Int) == 48) = decide (some c = some (48 : UInt8))) := by
          by_cases hc : c = 48
          · subst hc; rfl
          · rw [decide_eq_false (fun e => hc (Option.some.inj e)), beq_eq_false_iff_ne]
            intro e
            exact hc (UInt8.toNat_inj.1 (by have : (48 : UInt8).toNat = 48 := rfl; omega))
        have fin : (cond (!negT l) ((CP C (n + 3) F_wide_Sub [.agg [.int .u64 9223372036854775808, .int .u64 0], .agg [.int .u64 0, .int .u64 1]]).bind fun r_12 =>
            (AV.tupK r_12 fun l_13 => (consK l_13 fun v_14 l_15 => (AV.aggK v_14 fun l_16 => (consK l_16 fun v_17 l_18 => (AV.intK .u64 v_17 fun i_19 => (consK l_18 fun v_20 l_21 => (AV.intK .u64 v_20 fun i_22 => (nilK l_21 (consK l_15 fun v_23 l_24 => (AV.boolK v_23 fun b_25 => (nilK l_24
              (J_wide_Parse_4084 (CP C (n + 3)) (n + 3) (n + 3 + 300) (BA (restT l)) (negT l) (((BA (restT l)).size : Nat) : Int) 0 i_19 i_22 0 0)))))))))))))
            (J_wide_Parse_4084 (CP C (n + 3)) (n + 3) (n + 3 + 300) (BA (restT l)) (negT l) (((BA (restT l)).size : Nat) : Int) 0 9223372036854775808 0 0 0)) = some (res (negT l) (vl (restT l))) := by
          rw [BA_size]
          have := hL h2 (by omega) (n + 3 + 300) 0 (by omega) (by omega) (by show 0 ≤ _; omega)
          rw [List.take_zero, show vl [] = 0 from rfl, show ((0 / 18446744073709551616 : Nat) : Int) = 0 by kernel_rfl] at this
          cases hn : negT l with
          | true =>
            rw [hn, show ((most true / 18446744073709551616 : Nat) : Int) = 9223372036854775808 by kernel_rfl, show ((most true % 18446744073709551616 : Nat) : Int) = 0 by kernel_rfl] at this
            exact this
          | false =>
            rw [hn, show ((most false / 18446744073709551616 : Nat) : Int) = 9223372036854775807 by kernel_rfl, show ((most false % 18446744073709551616 : Nat) : Int) = 18446744073709551615 by kernel_rfl] at this
            rw [Bool.not_false, cT, e1, e2, hsub]
            unfold wv
            rw [show (((9223372036854775808 * 18446744073709551616 + (340282366920938463463374607431768211456 - 1)) % 340282366920938463463374607431768211456 / 18446744073709551616 : Nat) : Int) = 9223372036854775807 by kernel_rfl, show (((9223372036854775808 * 18446744073709551616 + (340282366920938463463374607431768211456 - 1)) % 340282366920938463463374607431768211456 % 18446744073709551616 : Nat) : Int) = 18446744073709551615 by kernel_rfl]
            simp only [k_bind, k_tup, k_agg, k_cons, k_int, k_nil, k_bool]
            exact this
        rw [h48]
        by_cases hc : some c = some (48 : UInt8)
        · rw [decide_eq_true hc, cT, Bool.true_and]
          by_cases h5 : l = [48]
          · rw [decide_eq_true h5, Bool.not_true, cF, decide_eq_false (fun h => h h5), if_neg Bool.false_ne_true]
            exact fin
          · rw [decide_eq_false h5, Bool.not_false, cT, decide_eq_true h5, if_pos rfl]
            rfl
        · rw [decide_eq_false hc, cF, Bool.false_and, if_neg Bool.false_ne_true]
          exact fin
/-! ### the document's -/
theorem over_step (H L d : Nat) (hH : H < 18446744073709551616) (hL : L < 18446744073709551616) (hd : d ≤ 9) :
    (H * 10 / 18446744073709551616 = 0 ∧ L * 10 + H * 10 % 18446744073709551616 * 18446744073709551616 < 340282366920938463463374607431768211456 ∧
      (L * 10 + H * 10 % 18446744073709551616 * 18446744073709551616) % 340282366920938463463374607431768211456 + d < 340282366920938463463374607431768211456 ∧
      ((L * 10 + H * 10 % 18446744073709551616 * 18446744073709551616) % 340282366920938463463374607431768211456 + d) % 340282366920938463463374607431768211456 = 10 * (H * 18446744073709551616 + L) + d ∧ 10 * (H * 18446744073709551616 + L) + d < 340282366920938463463374607431768211456) ∨
    ((¬ H * 10 / 18446744073709551616 = 0 ∨ 340282366920938463463374607431768211456 ≤ L * 10 + H * 10 % 18446744073709551616 * 18446744073709551616 ∨
      340282366920938463463374607431768211456 ≤ (L * 10 + H * 10 % 18446744073709551616 * 18446744073709551616) % 340282366920938463463374607431768211456 + d) ∧ 340282366920938463463374607431768211456 ≤ 10 * (H * 18446744073709551616 + L) + d) := by
  by_cases h1 : H * 10 < 18446744073709551616
  · rw [Nat.div_eq_of_lt h1, Nat.mod_eq_of_lt h1]
    by_cases h2 : L * 10 + H * 10 * 18446744073709551616 < 340282366920938463463374607431768211456
    · rw [Nat.mod_eq_of_lt h2]
      by_cases h3 : L * 10 + H * 10 * 18446744073709551616 + d < 340282366920938463463374607431768211456
      · rw [Nat.mod_eq_of_lt h3]
        exact .inl ⟨rfl, h2, h3, by omega, by omega⟩
      · exact .inr ⟨.inr (.inr (by omega)), by omega⟩
    · exact .inr ⟨.inr (.inl (by omega)), by omega⟩
  · refine .inr ⟨.inl (fun e => ?_), by omega⟩
    have := Nat.div_pos (show 18446744073709551616 ≤ H * 10 by omega) (by decide)
    omega
def over (V : Nat) : Bool := decide (340282366920938463463374607431768211456 ≤ V)
theorem ref_end (n : Nat) (t : List UInt8) (b : Bool) (A : Nat) (hA : A < 340282366920938463463374607431768211456) (hO : over (vl t) = false → A = vl t) :
    (cond (over (vl t)) (some (.tup [.agg [.int .u64 0, .int .u64 0], .int .i64 8]))
      ((CP C (n + 3) F_ref01_Cmp [.agg [.int .u64 ((A / 18446744073709551616 : Nat) : Int), .int .u64 ((A % 18446744073709551616 : Nat) : Int)], .agg [.int .u64 9223372036854775808, .int .u64 0]]).bind fun r_47 =>
       (AV.intK .i64 r_47 fun i_48 =>
       (cond (decide (i_48 > 0)) (some (.tup [.agg [.int .u64 0, .int .u64 0], .int .i64 8]))
        (cond (!b)
         ((CP C (n + 3) F_ref01_Cmp [.agg [.int .u64 ((A / 18446744073709551616 : Nat) : Int), .int .u64 ((A % 18446744073709551616 : Nat) : Int)], .agg [.int .u64 9223372036854775808, .int .u64 0]]).bind fun r_49 =>
          (AV.intK .i64 r_49 fun i_50 =>
          (cond (i_50 == 0) (some (.tup [.agg [.int .u64 0, .int .u64 0], .int .i64 8]))
           (cond b
            ((CP C (n + 3) F_ref01_Neg [.agg [.int .u64 ((A / 18446744073709551616 : Nat) : Int), .int .u64 ((A % 18446744073709551616 : Nat) : Int)]]).bind fun r_51 =>
             (AV.aggK r_51 fun l_52 => (consK l_52 fun v_53 l_54 => (AV.intK .u64 v_53 fun i_55 => (consK l_54 fun v_56 l_57 => (AV.intK .u64 v_56 fun i_58 => (nilK l_57
               (some (.tup [.agg [.int .u64 i_55, .int .u64 i_58], .int .i64 0])))))))))
            (some (.tup [.agg [.int .u64 ((A / 18446744073709551616 : Nat) : Int), .int .u64 ((A % 18446744073709551616 : Nat) : Int)], .int .i64 0]))))))
         (cond b
            ((CP C (n + 3) F_ref01_Neg [.agg [.int .u64 ((A / 18446744073709551616 : Nat) : Int), .int .u64 ((A % 18446744073709551616 : Nat) : Int)]]).bind fun r_51 =>
             (AV.aggK r_51 fun l_52 => (consK l_52 fun v_53 l_54 => (AV.intK .u64 v_53 fun i_55 => (consK l_54 fun v_56 l_57 => (AV.intK .u64 v_56 fun i_58 => (nilK l_57
               (some (.tup [.agg [.int .u64 i_55, .int .u64 i_58], .int .i64 0])))))))))
            (some (.tup [.agg [.int .u64 ((A / 18446744073709551616 : Nat) : Int), .int .u64 ((A % 18446744073709551616 : Nat) : Int)], .int .i64 0])))))))) = some (res b (vl t)) := by
  have hM := most_le b
  cases hov : over (vl t) with
  | true =>
    have h1 : 340282366920938463463374607431768211456 ≤ vl t := of_decide_eq_true hov
    rw [cT, res_bad _ _ (by omega)]
  | false =>
    have hAk := hO hov
    subst hAk
    rw [cF]
    have hw : (AV.agg [.int .u64 ((vl t / 18446744073709551616 : Nat) : Int), .int .u64 ((vl t % 18446744073709551616 : Nat) : Int)]) = wv (vl t) := of_eq_true (eq_self _)
    have hm : (AV.agg [.int .u64 9223372036854775808, .int .u64 0]) = wv 170141183460469231731687303715884105728 := by unfold wv; kernel_rfl
    have hc := cmpS (n + 2) (vl t) 170141183460469231731687303715884105728 (by omega) (by decide)
    have hng := sp_ref01_Neg n (vl t) (by omega)
    rw [hw, hm, hc]
    simp only [k_bind, k_int]
    by_cases g1 : 170141183460469231731687303715884105728 < vl t
    · rw [decide_eq_true (by rw [if_neg (by omega), if_pos g1]; decide), cT, res_bad _ _ (by omega)]
    · rw [decide_eq_false (by rw [if_neg g1]; split <;> decide), cF]
      cases b with
      | true =>
        rw [Bool.not_true, cF, cT, hng, res_neg _ (by omega)]
        conv => lhs; unfold wv
        simp only [k_bind, k_agg, k_cons, k_int, k_nil]
      | false =>
        rw [Bool.not_false, cT]
        by_cases g2 : vl t < 170141183460469231731687303715884105728
        · have e0 : ((if vl t < 170141183460469231731687303715884105728 then (-1 : Int) else if 170141183460469231731687303715884105728 < vl t then 1 else 0) == 0) = false := by rw [if_pos g2]; rfl
          rw [e0, cF, cF, res_pos _ (by omega)]
        · have e0 : ((if vl t < 170141183460469231731687303715884105728 then (-1 : Int) else if 170141183460469231731687303715884105728 < vl t then 1 else 0) == 0) = true := by rw [if_neg g2, if_neg g1]; rfl
          rw [e0, cT, res_bad _ _ (by show 170141183460469231731687303715884105727 < vl t; omega)]
theorem ref_loop (n : Nat) (t : List UInt8) (b : Bool) (ht : t.all isDig = true) (hl : t.length ≤ 64) : ∀ (m k A : Nat), t.length < k + m → k ≤ t.length → A < 340282366920938463463374607431768211456 → (over (vl (t.take k)) = false → A = vl (t.take k)) →
    J_ref01_Parse_32756 (CP C (n + 3)) (n + 3) m (BA t) b (over (vl (t.take k))) ((k : Nat) : Int) ((A / 18446744073709551616 : Nat) : Int) ((A % 18446744073709551616 : Nat) : Int) = some (res b (vl t))
  | 0, k, A, h, h', _, _ => absurd h (by omega)
  | m + 1, k, A, h, h', hA, hO => by
    have hM := most_le b
    have hM' := most_ge b
    rw [Js_ref01_Parse_32756]
    unfold T_ref01_Parse_32756
    rw [BA_size]
    by_cases hk : k < t.length
    · rw [decide_eq_true (show ((k : Nat) : Int) < ((t.length : Nat) : Int) by omega), cT]
      have hget : t[k]? = some t[k] := List.getElem?_eq_getElem hk
      have hdig : isDig t[k] = true := List.all_eq_true.1 ht _ (List.getElem_mem hk)
      have hstep := vl_take_succ t k t[k] hget
      have hd9 : 48 ≤ t[k].toNat ∧ t[k].toNat ≤ 57 := by simpa [isDig] using hdig
      have m1 := sp_ref01_Mul (n + 1) (A % 18446744073709551616) 10 (by omega) (by omega)
      have m2 := sp_ref01_Mul (n + 1) (A / 18446744073709551616) 10 (by omega) (by omega)
      rw [show ((10 : Nat) : Int) = 10 from rfl] at m1 m2
      rw [m1, m2]
      have hos := over_step (A / 18446744073709551616) (A % 18446744073709551616) (t[k].toNat - 48) (by omega) (by omega) (by omega)
      rw [show A / 18446744073709551616 * 18446744073709551616 + A % 18446744073709551616 = A by omega] at hos
      have hb1 : A % 18446744073709551616 * 10 < 340282366920938463463374607431768211456 := by omega
      have hb2 : A / 18446744073709551616 * 10 % 18446744073709551616 * 18446744073709551616 < 340282366920938463463374607431768211456 := by
        have := Nat.mod_lt (A / 18446744073709551616 * 10) (show 0 < 18446744073709551616 by decide)
        omega
      generalize hLt : A % 18446744073709551616 * 10 = X at *
      generalize hHt : A / 18446744073709551616 * 10 = Y at *
      have a1 := sp_ref01_Add (n + 1) X (Y % 18446744073709551616 * 18446744073709551616) hb1 hb2
      have e0 : AV.agg [.int .u64 ((Y % 18446744073709551616 : Nat) : Int), .int .u64 0] = wv (Y % 18446744073709551616 * 18446744073709551616) := by
        have := word_join (Y % 18446744073709551616) 0 (by decide)
        rw [Nat.add_zero] at this
        exact this
      have eX : AV.agg [.int .u64 ((X / 18446744073709551616 : Nat) : Int), .int .u64 ((X % 18446744073709551616 : Nat) : Int)] = wv X := rfl
      have hb3 : (X + Y % 18446744073709551616 * 18446744073709551616) % 340282366920938463463374607431768211456 < 340282366920938463463374607431768211456 := Nat.mod_lt _ (by decide)
      generalize hZ : (X + Y % 18446744073709551616 * 18446744073709551616) % 340282366920938463463374607431768211456 = Z at *
      have a2 := sp_ref01_Add (n + 1) Z (t[k].toNat - 48) hb3 (by omega)
      have e2 : AV.agg [.int .u64 0, .int .u64 ((t[k].toNat - 48 : Nat) : Int)] = wv (t[k].toNat - 48) := by
        have := word_join 0 (t[k].toNat - 48) (by omega)
        rw [Nat.zero_mul, Nat.zero_add] at this
        exact this
      have eZ : AV.agg [.int .u64 ((Z / 18446744073709551616 : Nat) : Int), .int .u64 ((Z % 18446744073709551616 : Nat) : Int)] = wv Z := rfl
      conv => lhs; unfold wv
      simp only [k_bind, k_tup, k_agg, k_cons, k_int, k_nil, k_bool]
      rw [eX, e0, a1]
      conv => lhs; unfold wv
      simp only [k_bind, k_tup, k_agg, k_cons, k_int, k_nil, k_bool]
      rw [decide_eq_true (show (0 : Int) ≤ ((k : Nat) : Int) by omega), cT, Int.toNat_natCast]
      simp only [BA_get, hget]
      rw [bnd_eq _ (digit_word _ hdig)]
      rw [eZ, e2, a2]
      have hb4 : (Z + (t[k].toNat - 48)) % 340282366920938463463374607431768211456 < 340282366920938463463374607431768211456 := Nat.mod_lt _ (by decide)
      conv => lhs; unfold wv
      simp only [k_bind, k_tup, k_agg, k_cons, k_int, k_nil, k_bool]
      have hi : IntKind.i64.wrap (((k : Nat) : Int) + 1) = ((k + 1 : Nat) : Int) := by rw [IntKind.wrap_i64]; omega
      rw [hi]
      have ih := ref_loop n t b ht hl m (k + 1) ((Z + (t[k].toNat - 48)) % 340282366920938463463374607431768211456) (by omega) (by omega) hb4
      cases hov : over (vl (t.take k)) with
      | true =>
        have h1 : 340282366920938463463374607431768211456 ≤ vl (t.take k) := of_decide_eq_true hov
        have h2 : over (vl (t.take (k + 1))) = true := decide_eq_true (by omega)
        rw [h2] at ih
        rw [cT]
        exact ih (fun e => absurd e (by decide))
      | false =>
        have hAk := hO hov
        rw [cF]
        rcases hos with ⟨h1, h2, h3, h4, h5⟩ | ⟨h1, h2⟩
        · have g2 : over (vl (t.take (k + 1))) = false := decide_eq_false (by omega)
          rw [g2] at ih
          rw [show (((Y / 18446744073709551616 : Nat) : Int) != 0) = false by rw [h1]; rfl, cF, decide_eq_false (show ¬ 340282366920938463463374607431768211456 ≤ X + Y % 18446744073709551616 * 18446744073709551616 by omega), cF, decide_eq_false (show ¬ 340282366920938463463374607431768211456 ≤ Z + (t[k].toNat - 48) by omega)]
          exact ih (fun _ => by omega)
        · have g2 : over (vl (t.take (k + 1))) = true := decide_eq_true (by omega)
          rw [g2] at ih
          have ih' := ih (fun e => absurd e (by decide))
          rcases h1 with h1 | h1 | h1
          · rw [show (((Y / 18446744073709551616 : Nat) : Int) != 0) = true by rw [bne_iff_ne]; omega, cT]
            exact ih'
          · rw [decide_eq_true h1, cT]
            cases (((Y / 18446744073709551616 : Nat) : Int) != 0) <;> exact ih'
          · rw [decide_eq_true h1]
            cases (((Y / 18446744073709551616 : Nat) : Int) != 0) <;> cases decide (340282366920938463463374607431768211456 ≤ X + Y % 18446744073709551616 * 18446744073709551616) <;> exact ih'
    · rw [decide_eq_false (show ¬ ((k : Nat) : Int) < ((t.length : Nat) : Int) by omega), cF]
      have hk' : k = t.length := by omega
      rw [show vl (t.take k) = vl t by rw [hk', List.take_length]] at *
      exact ref_end n t b A hA hO
/-- The document's look at each sign. -/
theorem ref_check (n : Nat) (t : List UInt8) (b : Bool) (hl : t.length ≤ 64) : ∀ (m k : Nat), t.length < k + m → k ≤ t.length →
    J_ref01_Parse_2036 (CP C (n + 3)) (n + 3) m (BA t) b ((k : Nat) : Int) = if (t.drop k).all isDig then (if 39 < t.length then some (errA 8) else J_ref01_Parse_32756 (CP C (n + 3)) (n + 3) (n + 3 + 300) (BA t) b false 0 0 0) else some (errA 2)
  | 0, k, h, h' => absurd h (by omega)
  | m + 1, k, h, h' => by
    rw [Js_ref01_Parse_2036]
    unfold T_ref01_Parse_2036
    rw [BA_size]
    by_cases hk : k < t.length
    · rw [decide_eq_true (show ((k : Nat) : Int) < ((t.length : Nat) : Int) by omega), cT, decide_eq_true (show (0 : Int) ≤ ((k : Nat) : Int) by omega), cT, Int.toNat_natCast]
      have hget : t[k]? = some t[k] := List.getElem?_eq_getElem hk
      simp only [BA_get, hget]
      rw [cT, List.drop_eq_getElem_cons hk, List.all_cons]
      have hi : IntKind.i64.wrap (((k : Nat) : Int) + 1) = ((k + 1 : Nat) : Int) := by rw [IntKind.wrap_i64]; omega
      by_cases h1 : t[k].toNat < 48
      · rw [decide_eq_true (show ((t[k].toNat : Nat) : Int) < 48 by omega), cT, show isDig t[k] = false by unfold isDig; rw [decide_eq_false (by omega), Bool.false_and], Bool.false_and, if_neg Bool.false_ne_true]
        rfl
      · rw [decide_eq_false (show ¬ ((t[k].toNat : Nat) : Int) < 48 by omega), cF]
        by_cases h2 : 57 < t[k].toNat
        · rw [decide_eq_true (show ((t[k].toNat : Nat) : Int) > 57 by omega), cT, show isDig t[k] = false by unfold isDig; rw [decide_eq_false (show ¬ t[k].toNat ≤ 57 by omega), Bool.and_false], Bool.false_and, if_neg Bool.false_ne_true]
          rfl
        · rw [decide_eq_false (show ¬ ((t[k].toNat : Nat) : Int) > 57 by omega), cF, show isDig t[k] = true by unfold isDig; rw [decide_eq_true (by omega), decide_eq_true (by omega), Bool.and_self], Bool.true_and, hi]
          exact ref_check n t b hl m (k + 1) (by omega) (by omega)
    · rw [decide_eq_false (show ¬ ((k : Nat) : Int) < ((t.length : Nat) : Int) by omega), cF, List.drop_eq_nil_of_le (by omega)]
      rw [if_pos (show ([] : List UInt8).all isDig = true from rfl)]
      by_cases h3 : 39 < t.length
      · rw [decide_eq_true (show ((t.length : Nat) : Int) > 39 by omega), cT, if_pos h3]
        rfl
      · rw [decide_eq_false (show ¬ ((t.length : Nat) : Int) > 39 by omega), cF, if_neg h3]
theorem ref_tail (n : Nat) (t : List UInt8) (b : Bool) (hl : t.length ≤ 64) (h0 : t[0]? = some 48 → t.length = 1) :
    J_ref01_Parse_2036 (CP C (n + 3)) (n + 3) (n + 3 + 300) (BA t) b 0 = if t.all isDig then some (res b (vl t)) else some (errA 2) := by
  have h := ref_check n t b hl (n + 3 + 300) 0 (by omega) (by omega)
  rw [List.drop_zero, show ((0 : Nat) : Int) = 0 from rfl] at h
  rw [h]
  cases ht : t.all isDig with
  | false => rw [if_neg Bool.false_ne_true, if_neg Bool.false_ne_true]
  | true =>
    rw [if_pos rfl, if_pos rfl]
    by_cases h3 : 39 < t.length
    · have hb := vl_big t ht (fun e => by have := h0 e; omega) 39 h3
      have hM := most_le b
      rw [p39] at hb
      rw [if_pos h3, res_bad _ _ (by omega)]
      rfl
    · rw [if_neg h3]
      have := ref_loop n t b ht hl (n + 3 + 300) 0 0 (by omega) (by omega) (by decide) (fun _ => rfl)
      rw [List.take_zero, show over (vl []) = false from rfl, show ((0 / 18446744073709551616 : Nat) : Int) = 0 by kernel_rfl] at this
      exact this
theorem byte48 (c : UInt8) : ((((c.toNat : Nat) : Int) == 48) = decide (some c = some (48 : UInt8))) := by
  by_cases hc : c = 48
  · subst hc; rfl
  · rw [decide_eq_false (fun e => hc (Option.some.inj e)), beq_eq_false_iff_ne]
    intro e
    exact hc (UInt8.toNat_inj.1 (by have : (48 : UInt8).toNat = 48 := rfl; omega))
theorem byte45 (c : UInt8) : ((((c.toNat : Nat) : Int) == 45) = decide (some c = some (45 : UInt8))) := by
  by_cases hc : c = 45
  · subst hc; rfl
  · rw [decide_eq_false (fun e => hc (Option.some.inj e)), beq_eq_false_iff_ne]
    intro e
    exact hc (UInt8.toNat_inj.1 (by have : (45 : UInt8).toNat = 45 := rfl; omega))
theorem sp_ref01_Parse (n : Nat) (l : List UInt8) : CP C (n + 4) F_ref01_Parse [.str (BA l)] = some (prs l) := by
  rw [eq_ref01_Parse]
  unfold R_ref01_Parse T_ref01_Parse_1 prs
  simp only [BA_size, BA_extract, BA_get]
  rw [show (ByteArray.mk #[]) = BA [] from rfl, beqBA, beqBA]
  by_cases hl : 64 < l.length
  · rw [decide_eq_true (show ((l.length : Nat) : Int) > 64 by omega), cT, if_pos hl]
    rfl
  · rw [decide_eq_false (show ¬ ((l.length : Nat) : Int) > 64 by omega), cF, if_neg hl]
    cases l with
    | nil => rfl
    | cons c l =>
      rw [decide_eq_true (show (((c :: l).length : Nat) : Int) > 0 by simp only [List.length_cons]; omega), cT]
      simp only [List.getElem?_cons_zero, byte45, byte48]
      by_cases hc : c = 45
      · subst hc
        have hn : negT (45 :: l) = true := rfl
        have hr : restT (45 :: l) = l := rfl
        rw [hn, hr, decide_eq_true (show some (45 : UInt8) = some 45 from rfl), cT, decide_eq_true (show (1 : Int) ≤ (((45 :: l : List UInt8).length : Nat) : Int) by simp only [List.length_cons]; omega), cT]
        rw [show List.drop 1 (List.take (45 :: l).length (45 :: l)) = l by rw [List.take_length]; rfl]
        cases l with
        | nil => rfl
        | cons d l =>
          rw [decide_eq_false (show ¬ (d :: l : List UInt8) = [] from fun e => by cases e), cF]
          simp only [List.getElem?_cons_zero, byte48]
          unfold bnd
          by_cases hd : some d = some (48 : UInt8)
          · have hbad : badT (45 :: d :: l) = true := by
              show (decide ((d :: l : List UInt8) = []) || (!(d :: l : List UInt8).all isDig || (decide (some d = some 48) && decide ((45 :: d :: l : List UInt8) ≠ [48])))) = true
              rw [decide_eq_true hd, decide_eq_true (show (45 :: d :: l : List UInt8) ≠ [48] from fun e => by cases e), Bool.and_self, Bool.or_true, Bool.or_true]
            rw [decide_eq_true hd, cT, cT, hbad, if_pos rfl]
            generalize (((d :: l : List UInt8).length : Nat) : Int) = y
            show cond (decide (y > 1)) _ _ = _
            cases decide (y > 1) <;> rfl
          · have ht := ref_tail n (d :: l) true (by simp only [List.length_cons] at hl ⊢; omega) (fun e => absurd e hd)
            have hbad : badT (45 :: d :: l) = !(d :: l : List UInt8).all isDig := by
              show (decide ((d :: l : List UInt8) = []) || (!(d :: l : List UInt8).all isDig || (decide (some d = some 48) && decide ((45 :: d :: l : List UInt8) ≠ [48])))) = _
              rw [decide_eq_false hd, Bool.false_and, Bool.or_false, decide_eq_false (show ¬ (d :: l : List UInt8) = [] from fun e => by cases e), Bool.false_or]
            rw [decide_eq_false hd, cF, ht, hbad]
            cases (d :: l : List UInt8).all isDig <;> rfl
      · have hn : negT (c :: l) = false := decide_eq_false (fun e => hc (Option.some.inj e))
        have hr : restT (c :: l) = c :: l := by unfold restT; rw [hn]; rfl
        have hne : decide ((c :: l : List UInt8) = []) = false := decide_eq_false (fun e => by cases e)
        rw [hn, hr, decide_eq_false (show ¬ some c = some (45 : UInt8) from fun e => hc (Option.some.inj e)), cF, hne, cF]
        by_cases hd : some c = some (48 : UInt8)
        · rw [decide_eq_true hd, cT]
          injection hd with hd
          subst hd
          cases l with
          | nil =>
            have ht := ref_tail n [48] false (by decide) (fun _ => rfl)
            rw [decide_eq_false (show ¬ ((([48] : List UInt8).length : Nat) : Int) > 1 by decide), cF, cF, ht]
            rfl
          | cons d l =>
            have hbad : badT (48 :: d :: l) = true := by
              unfold badT
              rw [hr, hne]
              show (false || (!(48 :: d :: l : List UInt8).all isDig || (true && decide ((48 :: d :: l : List UInt8) ≠ [48])))) = true
              rw [decide_eq_true (show (48 :: d :: l : List UInt8) ≠ [48] from fun e => by cases e), Bool.and_self, Bool.or_true, Bool.or_true]
            rw [decide_eq_true (show (((48 :: d :: l : List UInt8).length : Nat) : Int) > 1 by simp only [List.length_cons]; omega), cT, hbad, if_pos rfl]
            rfl
        · have ht := ref_tail n (c :: l) false (by omega) (fun e => absurd e hd)
          have hbad : badT (c :: l) = !(c :: l : List UInt8).all isDig := by
            unfold badT
            rw [hr, hne]
            show (false || (!(c :: l : List UInt8).all isDig || (decide (some c = some 48) && decide ((c :: l : List UInt8) ≠ [48])))) = _
            rw [decide_eq_false hd, Bool.false_and, Bool.or_false, Bool.false_or]
          rw [decide_eq_false hd, cF, ht, hbad]
          cases (c :: l : List UInt8).all isDig <;> rfl
end Go.Proofs.YtbikcndldcfffaaDoor.Sim.S
