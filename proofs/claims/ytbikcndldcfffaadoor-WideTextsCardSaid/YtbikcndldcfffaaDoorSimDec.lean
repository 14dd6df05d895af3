/- Numbers as decimal digits, in plain Lean. Condition: none beyond what each theorem says. -/
import Derived.Test.YtbikcndldcfffaaDoorSimKit
import Derived.Laws.Concat
import Derived.Lib.Strings
namespace Go.Proofs.YtbikcndldcfffaaDoor.Sim
open Go

/-- Bytes as a string. -/
def BA (l : List UInt8) : ByteArray := ⟨l.toArray⟩
theorem BA_data (s : ByteArray) : s = BA s.data.toList := by cases s; simp [BA]
theorem BA_size (l : List UInt8) : (BA l).size = l.length := by simp [BA, ByteArray.size]
theorem BA_append (a b : List UInt8) : BA a ++ BA b = BA (a ++ b) := ByteArray.mk_append_mk a b
theorem BA_toList (l : List UInt8) : (BA l).toList = l := by rw [Lib.toList_data]; simp [BA]
theorem BA_get (l : List UInt8) (i : Nat) : (BA l)[i]? = l[i]? := by
  by_cases h : i < l.length
  · rw [List.getElem?_eq_getElem h, getElem?_pos _ _ (by rw [BA_size]; exact h)]
    rfl
  · rw [List.getElem?_eq_none (by omega), getElem?_neg _ _ (by rw [BA_size]; exact h)]
theorem BA_extract (l : List UInt8) (i j : Nat) : (BA l).extract i j = BA ((l.take j).drop i) := by
  have := Lib.extract_eq (BA l) i j
  rw [this]
  simp only [BA, List.drop_take]

def dec : Nat → Nat → List UInt8
  | 0, _ => []
  | f + 1, A => (if A / 10 = 0 then [] else dec f (A / 10)) ++ [UInt8.ofNat (48 + A % 10)]
def isDig (b : UInt8) : Bool := decide (48 ≤ b.toNat) && decide (b.toNat ≤ 57)
def vl (l : List UInt8) : Nat := l.foldl (fun a b => 10 * a + (b.toNat - 48)) 0
theorem vl_snoc (l : List UInt8) (b : UInt8) : vl (l ++ [b]) = 10 * vl l + (b.toNat - 48) := by simp [vl]
theorem dig_toNat (k : Nat) (h : k < 10) : (UInt8.ofNat (48 + k)).toNat = 48 + k := by
  rw [UInt8.toNat_ofNat']; omega
theorem dec_val : ∀ (f A : Nat), A < 10 ^ f → vl (dec f A) = A
  | 0, A, h => by simp at h; subst h; rfl
  | f + 1, A, h => by
    have hp : 10 ^ (f + 1) = 10 * 10 ^ f := by rw [Nat.pow_succ, Nat.mul_comm]
    unfold dec
    rw [vl_snoc, dig_toNat _ (Nat.mod_lt _ (by decide))]
    split
    · rename_i h0
      show 10 * 0 + _ = _
      omega
    · rw [dec_val f (A / 10) (by omega)]
      omega
theorem dec_dig : ∀ (f A : Nat), (dec f A).all isDig = true
  | 0, A => rfl
  | f + 1, A => by
    unfold dec
    rw [List.all_append]
    have h1 : ((if A / 10 = 0 then [] else dec f (A / 10)).all isDig) = true := by
      split
      · rfl
      · exact dec_dig f _
    have h2 : ([UInt8.ofNat (48 + A % 10)].all isDig) = true := by
      simp only [List.all_cons, List.all_nil, Bool.and_true, isDig, Bool.and_eq_true, decide_eq_true_eq]
      rw [dig_toNat _ (Nat.mod_lt _ (by decide))]
      omega
    rw [h1, h2]; rfl
theorem dec_len : ∀ (f A : Nat), (dec f A).length ≤ f
  | 0, A => by simp [dec]
  | f + 1, A => by
    unfold dec
    have := dec_len f (A / 10)
    split <;> simp <;> omega
theorem dec_ne (f A : Nat) : dec (f + 1) A ≠ [] := by unfold dec; simp
/-- The first digit is no 0, but of 0 alone. -/
theorem dec_head : ∀ (f A : Nat), 0 < A → A < 10 ^ f → (dec f A)[0]? ≠ some 48
  | 0, A, h, h' => by simp at h'; omega
  | f + 1, A, h, h' => by
    have hp : 10 ^ (f + 1) = 10 * 10 ^ f := by rw [Nat.pow_succ, Nat.mul_comm]
    unfold dec
    split
    · rename_i h0
      intro e
      simp only [List.nil_append, List.getElem?_cons_zero, Option.some.injEq] at e
      have := congrArg UInt8.toNat e
      rw [dig_toNat _ (Nat.mod_lt _ (by decide))] at this
      have : (48 : UInt8).toNat = 48 := rfl
      omega
    · have ih := dec_head f (A / 10) (by omega) (by omega)
      have hne : dec f (A / 10) ≠ [] := by
        cases f with
        | zero => simp at hp; omega
        | succ f => exact dec_ne f _
      intro e
      rw [List.getElem?_append_left (List.length_pos_iff.2 hne)] at e
      exact ih e
theorem dec_zero (f : Nat) : dec (f + 1) 0 = [48] := by unfold dec; simp
theorem vl_pos (l : List UInt8) (h : l.all isDig = true) (hne : l ≠ []) (h0 : l[0]? ≠ some 48) : 0 < vl l := by
  obtain ⟨b, l', rfl⟩ := List.exists_cons_of_ne_nil hne
  have key : ∀ (l : List UInt8) (a : Nat), 0 < a → 0 < l.foldl (fun a b => 10 * a + (b.toNat - 48)) a := by
    intro l
    induction l with
    | nil => intro a h; exact h
    | cons b l ih => intro a h; exact ih _ (by dsimp only; omega)
  refine key l' _ ?_
  simp only [List.all_cons, Bool.and_eq_true, isDig, decide_eq_true_eq] at h
  have hb : b.toNat ≠ 48 := by
    intro e
    apply h0
    simp only [List.getElem?_cons_zero, Option.some.injEq]
    exact UInt8.toNat_inj.1 e
  dsimp only
  omega
theorem dec_back : ∀ (f : Nat) (l : List UInt8), l.all isDig = true → l ≠ [] → (l[0]? = some 48 → l.length = 1) → l.length ≤ f → dec f (vl l) = l
  | 0, l, _, hne, _, hl => absurd (List.length_eq_zero_iff.1 (by omega)) hne
  | f + 1, l, hd, hne, h0, hl => by
    obtain ⟨l', b, rfl⟩ : ∃ l' b, l = l' ++ [b] := ⟨l.dropLast, l.getLast hne, (List.dropLast_concat_getLast hne).symm⟩
    rw [List.all_append] at hd
    simp only [List.all_cons, List.all_nil, Bool.and_true, Bool.and_eq_true] at hd
    obtain ⟨hd1, hd2⟩ := hd
    have hb : 48 ≤ b.toNat ∧ b.toNat ≤ 57 := by simpa [isDig] using hd2
    have e : UInt8.ofNat (48 + (10 * vl l' + (b.toNat - 48)) % 10) = b := by
      refine UInt8.toNat_inj.1 ?_
      rw [dig_toNat _ (Nat.mod_lt _ (by decide))]
      omega
    unfold dec
    rw [vl_snoc, e, show (10 * vl l' + (b.toNat - 48)) / 10 = vl l' by omega]
    by_cases hn : l' = []
    · subst hn
      rfl
    · have hlen : 0 < l'.length := List.length_pos_iff.2 hn
      have h48 : l'[0]? ≠ some 48 := by
        intro e
        rw [List.getElem?_append_left hlen] at h0
        have := h0 e
        rw [List.length_append, List.length_singleton] at this
        omega
      have hp := vl_pos l' hd1 hn h48
      rw [if_neg (by omega), dec_back f l' hd1 hn (fun e => absurd e h48) (by simp at hl; omega)]
theorem vl_take (l : List UInt8) (k : Nat) : vl (l.take k) ≤ vl l := by
  have key : ∀ (l : List UInt8) (a : Nat), a ≤ l.foldl (fun a b => 10 * a + (b.toNat - 48)) a := by
    intro l
    induction l with
    | nil => intro a; exact Nat.le_refl _
    | cons b l ih => intro a; exact Nat.le_trans (by omega) (ih (10 * a + (b.toNat - 48)))
  have e : vl l = (l.drop k).foldl (fun a b => 10 * a + (b.toNat - 48)) (vl (l.take k)) := by
    unfold vl
    rw [← List.foldl_append, List.take_append_drop]
  rw [e]
  exact key _ _
theorem vl_take_succ (l : List UInt8) (k : Nat) (b : UInt8) (h : l[k]? = some b) : vl (l.take (k + 1)) = 10 * vl (l.take k) + (b.toNat - 48) := by
  have hk : k < l.length := (List.getElem?_eq_some_iff.1 h).1
  have hb : l[k] = b := (List.getElem?_eq_some_iff.1 h).2
  rw [List.take_succ_eq_append_getElem hk, vl_snoc, hb]
theorem vl_big (l : List UInt8) (h : l.all isDig = true) (h0 : l[0]? ≠ some 48) (n : Nat) (hn : n < l.length) : 10 ^ n ≤ vl l := by
  have key : ∀ (l : List UInt8) (a : Nat), a * 10 ^ l.length ≤ l.foldl (fun a b => 10 * a + (b.toNat - 48)) a := by
    intro l
    induction l with
    | nil => intro a; simp
    | cons b l ih =>
      intro a
      refine Nat.le_trans ?_ (ih _)
      rw [List.length_cons, Nat.pow_succ, Nat.mul_comm (10 ^ l.length) 10, ← Nat.mul_assoc]
      exact Nat.mul_le_mul_right _ (by dsimp only; omega)
  cases l with
  | nil => simp at hn
  | cons b l =>
    have hp : 0 < vl [b] := vl_pos [b] (by simp only [List.all_cons, Bool.and_eq_true] at h; simp [h.1]) (by simp) (by simpa using h0)
    have := key l (vl [b])
    refine Nat.le_trans ?_ this
    refine Nat.le_trans (Nat.pow_le_pow_right (by decide) (show n ≤ l.length by simp at hn; omega)) (Nat.le_mul_of_pos_left _ hp)

/-- Bytes as cells. -/
def bAV (b : UInt8) : AV := .int .u8 ((b.toNat : Nat) : Int)
theorem bytesOf_map : ∀ (d acc : List UInt8), bytesOf (d.map bAV) (some (BA acc)) = some (BA (acc ++ d))
  | [], acc => by simp [bytesOf]
  | b :: d, acc => by
    have : (BA acc).push (UInt8.ofNat ((b.toNat : Nat) : Int).toNat) = BA (acc ++ [b]) := by
      rw [Int.toNat_natCast]
      simp [BA, ByteArray.push]
    show bytesOf (d.map bAV) (some ((BA acc).push (UInt8.ofNat ((b.toNat : Nat) : Int).toNat))) = _
    rw [this, bytesOf_map d (acc ++ [b])]
    simp
end Go.Proofs.YtbikcndldcfffaaDoor.Sim
