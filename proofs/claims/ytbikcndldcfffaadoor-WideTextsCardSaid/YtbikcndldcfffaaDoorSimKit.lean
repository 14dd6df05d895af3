/- Small facts by which the plain functions are reckoned with. Condition: none beyond what each theorem says. -/
import Derived.Test.YtbikcndldcfffaaDoorSimCfg
import Derived.IntWalk
namespace Go.Proofs.YtbikcndldcfffaaDoor.Sim
open Go

section
variable {R : Type}
theorem k_int (k : IntKind) (n : Int) (c : Int → Option R) : AV.intK k (.int k n) c = c n := by simp [AV.intK]
theorem k_anyInt (k : IntKind) (n : Int) (c : Int → Option R) : AV.anyIntK (.int k n) c = c n := of_eq_true (eq_self _)
theorem k_bool (b : Bool) (c : Bool → Option R) : AV.boolK (.bool b) c = c b := of_eq_true (eq_self _)
theorem k_str (s : ByteArray) (c : ByteArray → Option R) : AV.strK (.str s) c = c s := of_eq_true (eq_self _)
theorem k_agg (l : List AV) (c : List AV → Option R) : AV.aggK (.agg l) c = c l := of_eq_true (eq_self _)
theorem k_tup (l : List AV) (c : List AV → Option R) : AV.tupK (.tup l) c = c l := of_eq_true (eq_self _)
theorem k_cons (x : AV) (xs : List AV) (c : AV → List AV → Option R) : consK (x :: xs) c = c x xs := of_eq_true (eq_self _)
theorem k_nil (c : Option R) : nilK ([] : List AV) c = c := of_eq_true (eq_self _)
theorem k_bind {A : Type} (x : A) (c : A → Option R) : (some x).bind c = c x := of_eq_true (eq_self _)
end

theorem tdiv_pos {b : Int} (a : Int) (_hb : 0 < b) : Int.tdiv a b = if 0 ≤ a then a / b else -((-a) / b) := by
  split
  · exact Int.tdiv_eq_ediv_of_nonneg (by assumption)
  · rename_i h
    have : a = -(-a) := by omega
    rw [this, Int.neg_tdiv, Int.tdiv_eq_ediv_of_nonneg (by omega), Int.neg_neg]
theorem tmod_pos {b : Int} (a : Int) (_hb : 0 < b) : Int.tmod a b = if 0 ≤ a then a % b else -((-a) % b) := by
  split
  · exact Int.tmod_eq_emod_of_nonneg (by assumption)
  · rename_i h
    have : a = -(-a) := by omega
    rw [this, Int.neg_tmod, Int.tmod_eq_emod_of_nonneg (by omega), Int.neg_neg]

theorem w64 {x : Int} (h : -9223372036854775808 ≤ x ∧ x ≤ 9223372036854775807) : IntKind.i64.wrap x = x := by rw [IntKind.wrap_i64]; omega
theorem td_nn {a b : Int} (h : 0 ≤ a) : Int.tdiv a b = a / b := Int.tdiv_eq_ediv_of_nonneg h
theorem tm_nn {a b : Int} (h : 0 ≤ a) : Int.tmod a b = a % b := Int.tmod_eq_emod_of_nonneg h
theorem c_not {R : Type} (b : Bool) (x y : R) : cond (!b) x y = cond b y x := by cases b <;> rfl
theorem c_bne {R : Type} (a b : Int) (x y : R) : cond (a != b) x y = cond (a == b) y x := c_not _ _ _
theorem ite_cond {R : Type} (b : Bool) (x y : R) : cond b x y = if b = true then x else y := by cases b <;> rfl

section
variable {p : Prop} [Decidable p]
theorem i_some {A : Type} (x y : A) : (if p then some x else some y) = some (if p then x else y) := by split <;> rfl
theorem i_int (k : IntKind) (x y : Int) : (if p then AV.int k x else AV.int k y) = AV.int k (if p then x else y) := by split <;> rfl
theorem i_bool (x y : Bool) : (if p then AV.bool x else AV.bool y) = AV.bool (if p then x else y) := by split <;> rfl
theorem i_agg (x y : List AV) : (if p then AV.agg x else AV.agg y) = AV.agg (if p then x else y) := by split <;> rfl
theorem i_tup (x y : List AV) : (if p then AV.tup x else AV.tup y) = AV.tup (if p then x else y) := by split <;> rfl
theorem i_cons {A : Type} (x y : A) (xs ys : List A) : (if p then x :: xs else y :: ys) = (if p then x else y) :: (if p then xs else ys) := by split <;> rfl
theorem i_self {A : Type} (x : A) : (if p then x else x) = x := by split <;> rfl
end

theorem nr {A : Type} {x y : A} (h : x = y) : x = y := of_eq_true (h ▸ eq_self _)

end Go.Proofs.YtbikcndldcfffaaDoor.Sim
