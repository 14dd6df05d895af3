/- Arithmetic, comparison, conversion, slicing, fields, indexes. Condition: none beyond what each lemma says. -/
import Derived.Test.YtbikcndldcfffaaDoorSimOps4
namespace Go.Proofs.YtbikcndldcfffaaDoor.Sim
open Go.RowKit
variable {P : Program} {m : BM}

theorem guard_int (op : BinOp) (t : TypeId) (x y : Operand) (k k' : IntKind) (a b : Int) (w : World) : (eqGuard op t x y (.int k a) (.int k' b)).run P w = .ok () w := by
  unfold eqGuard; cases op <;> simp
theorem guard_str (op : BinOp) (t : TypeId) (x y : Operand) (a b : ByteArray) (w : World) : (eqGuard op t x y (.string a) (.string b)).run P w = .ok () w := by
  unfold eqGuard; cases op <;> simp
theorem guard_agg (op : BinOp) (t : TypeId) (x y : Operand) (a b : Array Value) (h : P.eqGuardType P.depth t = false) (w : World) : (eqGuard op t x y (.agg a) (.agg b)).run P w = .ok () w := by
  unfold eqGuard; cases op <;> simp [program, Sem.run, h]

theorem isConst_true {x : Operand} (h : isConst x = true) : ∃ v, x = .const v := by cases x <;> simp_all [isConst]

theorem bin_ints {op : BinOp} {t : TypeId} {cx cy : Bool} {kx ky : IntKind} {a b : Int} {v : AV} (h : binK P op t cx cy (.int kx a) (.int ky b) some = some v) (w : World) :
    ∃ v', (binOp op t (.int kx a) (.int ky b)).run P w = .ok v' w ∧ VR m v v' := by
  unfold binK at h
  cases op <;> simp only at h
  case shl =>
    obtain ⟨h1, h⟩ := some_cond' h; injection h with h; subst h
    have hb : ¬ b < 0 := by simpa using h1
    exact ⟨_, by simp [binOp, Op.shift, hb], .int _ _⟩
  case shr =>
    obtain ⟨h1, h⟩ := some_cond' h; injection h with h; subst h
    have hb : ¬ b < 0 := by simpa using h1
    exact ⟨_, by simp [binOp, Op.shift, hb], .int _ _⟩
  case quo =>
    obtain ⟨h1, h⟩ := some_cond h
    obtain ⟨h2, h⟩ := some_cond' h; injection h with h; subst h
    have hk : kx = ky := by simpa using h1
    have hb : ¬ b = 0 := by simpa using h2
    subst hk
    exact ⟨_, by simp [binOp, Op.intDiv, hb], .int _ _⟩
  case rem =>
    obtain ⟨h1, h⟩ := some_cond h
    obtain ⟨h2, h⟩ := some_cond' h; injection h with h; subst h
    have hk : kx = ky := by simpa using h1
    have hb : ¬ b = 0 := by simpa using h2
    subst hk
    exact ⟨_, by simp [binOp, Op.intDiv, hb], .int _ _⟩
  all_goals
    obtain ⟨h1, h⟩ := some_cond h
    have hk : kx = ky := by simpa using h1
    subst hk
    simp only [arith] at h
    injection h with h
    subst h
    refine ⟨_, ?_, by constructor⟩
    simp only [binOp, ne_eq, not_true_eq_false, if_false]
    rfl

theorem bin_strs {op : BinOp} {t : TypeId} {cx cy : Bool} {a b : ByteArray} {v : AV} (h : binK P op t cx cy (.str a) (.str b) some = some v) (w : World) :
    ∃ v', (binOp op t (.string a) (.string b)).run P w = .ok v' w ∧ VR m v v' := by
  unfold binK at h
  cases op <;> simp only at h
  case add =>
    obtain ⟨h1, h⟩ := some_cond' h; injection h with h; subst h
    have hb : ¬ ((a.size + b.size : Nat) : Int) > IntKind.i64.max := by simpa using h1
    refine ⟨_, ?_, .str _⟩
    simp only [binOp, Op.stringOp]
    rw [if_neg hb]
    rfl
  all_goals first
    | (cases h; done)
    | (injection h with h; subst h; exact ⟨_, by simp [binOp, Op.stringOp], .bool _⟩)

theorem bin_of {op : BinOp} {t : TypeId} {x y : Operand} {ax ay : AV} {vx vy : Value} (hx : VR m ax vx) (hy : VR m ay vy) {v : AV}
    (h : binK P op t (isConst x) (isConst y) ax ay some = some v) (w : World) :
    ∃ v', (do eqGuard op t x y vx vy; binOp op t vx vy : Sem Value).run P w = .ok v' w ∧ VR m v v' := by
  by_cases hi : ∃ kx a ky b, ax = .int kx a ∧ ay = .int ky b
  · obtain ⟨kx, a, ky, b, rfl, rfl⟩ := hi
    rw [vr_int hx, vr_int hy]
    obtain ⟨v', h1, h2⟩ := bin_ints (m := m) h w
    exact ⟨v', by simp [guard_int, h1], h2⟩
  by_cases hs : ∃ a b, ax = .str a ∧ ay = .str b
  · obtain ⟨a, b, rfl, rfl⟩ := hs
    rw [vr_str hx, vr_str hy]
    obtain ⟨v', h1, h2⟩ := bin_strs (m := m) h w
    exact ⟨v', by simp [guard_str, h1], h2⟩
  by_cases ha : ∃ a b, ax = .agg a ∧ ay = .agg b
  · obtain ⟨a, b, rfl, rfl⟩ := ha
    unfold binK at h
    simp only at h
    obtain ⟨h1, h⟩ := some_cond' h
    have hx' := hx
    have hy' := hy
    obtain ⟨va, rfl, _⟩ := vr_agg hx
    obtain ⟨vb, rfl, _⟩ := vr_agg hy
    cases op <;> simp only at h <;> (try (cases h; done))
    · split at h
      · rename_i e; injection h with h; subst h
        have := eqV_of 100 t _ _ _ e Op.maxDepth (by decide) hx' hy' w
        exact ⟨_, by simp [guard_agg _ _ _ _ _ _ h1, binOp, Op.equal, this], .bool _⟩
      · cases h
    · split at h
      · rename_i e; injection h with h; subst h
        have := eqV_of 100 t _ _ _ e Op.maxDepth (by decide) hx' hy' w
        exact ⟨_, by simp [guard_agg _ _ _ _ _ _ h1, binOp, Op.equal, this], .bool _⟩
      · cases h
  · have hh : cond (isNilI ax && isNilI ay && !isConst x && !isConst y) none
        (match op with
        | .eql => match eqV P 100 t ax ay with | some b => some (AV.bool b) | none => none
        | .neq => match eqV P 100 t ax ay with | some b => some (AV.bool (!b)) | none => none
        | _ => none) = some v := by
      unfold binK at h
      cases ax <;> cases ay <;> first | exact h | (exfalso; first | exact hi ⟨_, _, _, _, rfl, rfl⟩ | exact hs ⟨_, _, rfl, rfl⟩ | exact ha ⟨_, _, rfl, rfl⟩)
    obtain ⟨h1, h⟩ := some_cond' hh
    have key : ∀ b, eqV P 100 t ax ay = some b → (∃ a c, ax = .bool a ∧ ay = .bool c) ∨ (ax = .nilI ∧ ay = .nilI) ∨ (∃ u z, ax = .nilI ∧ ay = .iface u z) ∨ (∃ u z, ax = .iface u z ∧ ay = .nilI) := by
      intro b e
      unfold eqV at e
      split at e
      · exact .inl ⟨_, _, rfl, rfl⟩
      · exact absurd ⟨_, _, _, _, rfl, rfl⟩ hi
      · exact absurd ⟨_, _, rfl, rfl⟩ hs
      · exact absurd ⟨_, _, rfl, rfl⟩ ha
      · exact absurd ⟨_, _, rfl, rfl⟩ ha
      · exact .inr (.inl ⟨rfl, rfl⟩)
      · exact .inr (.inr (.inl ⟨_, _, rfl, rfl⟩))
      · exact .inr (.inr (.inr ⟨_, _, rfl, rfl⟩))
      · cases e
    have hfin : ∀ b, eqV P 100 t ax ay = some b → ∃ (op' : op = .eql ∨ op = .neq), (Op.equal t vx vy).run P w = .ok b w ∧ (eqGuard op t x y vx vy).run P w = .ok () w ∧
        binOp .eql t vx vy = (do pure (.bool (← Op.equal t vx vy))) ∧ binOp .neq t vx vy = (do pure (.bool (!(← Op.equal t vx vy)))) := by
      intro b e
      have hop : op = .eql ∨ op = .neq := by cases op <;> simp_all
      refine ⟨hop, eqV_of 100 t _ _ _ e Op.maxDepth (by decide) hx hy w, ?_⟩
      rcases key b e with ⟨a, c, rfl, rfl⟩ | ⟨rfl, rfl⟩ | ⟨u, z, rfl, rfl⟩ | ⟨u, z, rfl, rfl⟩
      · rw [vr_bool hx, vr_bool hy]
        exact ⟨by unfold eqGuard; rcases hop with rfl | rfl <;> simp, rfl, rfl⟩
      · rw [vr_nilI hx, vr_nilI hy]
        refine ⟨?_, rfl, rfl⟩
        simp only [isNilI, Bool.true_and, Bool.and_eq_false_iff, Bool.not_eq_false'] at h1
        unfold eqGuard
        rcases h1 with h1 | h1
        · obtain ⟨v, rfl⟩ := isConst_true h1; rcases hop with rfl | rfl <;> simp
        · obtain ⟨v, rfl⟩ := isConst_true h1; rcases hop with rfl | rfl <;> simp
      · obtain ⟨v', rfl, _⟩ := vr_iface hy
        rw [vr_nilI hx]
        exact ⟨by unfold eqGuard; rcases hop with rfl | rfl <;> simp, rfl, rfl⟩
      · obtain ⟨v', rfl, _⟩ := vr_iface hx
        rw [vr_nilI hy]
        exact ⟨by unfold eqGuard; rcases hop with rfl | rfl <;> simp, rfl, rfl⟩
    cases op <;> simp only at h <;> (try (cases h; done))
    · split at h
      · rename_i b e; injection h with h; subst h
        obtain ⟨_, k1, k2, k3, k4⟩ := hfin b e
        exact ⟨.bool b, by simp [k2, k3, k1], .bool _⟩
      · cases h
    · split at h
      · rename_i b e; injection h with h; subst h
        obtain ⟨_, k1, k2, k3, k4⟩ := hfin b e
        exact ⟨.bool (!b), by simp [k2, k4, k1], .bool _⟩
      · cases h

theorem un_of {op : UnOp} {ax v : AV} {vx : Value} (hx : VR m ax vx) (h : unK op ax some = some v) (w : World) : ∃ v', (Op.unary op vx).run P w = .ok v' w ∧ VR m v v' := by
  unfold unK at h
  split at h <;> (try (cases h; done))
  · injection h with h; subst h; rw [vr_int hx]; exact ⟨_, by simp [Op.unary, Op.intArith], .int _ _⟩
  · injection h with h; subst h; rw [vr_int hx]; exact ⟨_, by simp only [Op.unary, Op.intBits]; rfl, .int _ _⟩
  · injection h with h; subst h; rw [vr_bool hx]; exact ⟨_, by simp [Op.unary], .bool _⟩

/-! ### bounds -/
theorem bnd_of {v : Option AV} {d : Option Nat} {n : Nat} {R : Type} {c : Nat → Option R} {r : R} (h : bndK v d n c = some r) :
    (∃ k i, v = some (.int k i) ∧ 0 ≤ i ∧ i ≤ n ∧ c i.toNat = some r) ∨ (v = none ∧ ∃ e, d = some e ∧ c e = some r) := by
  unfold bndK at h
  split at h
  · rename_i x _
    unfold AV.anyIntK at h
    split at h <;> (try (cases h; done))
    obtain ⟨h1, h⟩ := some_cond h
    simp only [Bool.and_eq_true, decide_eq_true_eq] at h1
    exact .inl ⟨_, _, rfl, h1.1, h1.2, h⟩
  · exact .inr ⟨rfl, _, rfl, h⟩
  · cases h

theorem run_sliceBound {k : IntKind} {i : Int} {n : Nat} (c : BoundsCode) (h0 : 0 ≤ i) (h1 : i ≤ n) (w : World) : (Instr.sliceBound (.int k i) n c).run P w = .ok i.toNat w := by
  simp [Instr.sliceBound, asIntOf, h0, h1]

end Go.Proofs.YtbikcndldcfffaaDoor.Sim
