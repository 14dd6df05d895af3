/- Comparison of values by their type. Condition: none beyond what each lemma says. -/
import Derived.Test.YtbikcndldcfffaaDoorSimOps3
namespace Go.Proofs.YtbikcndldcfffaaDoor.Sim
open Go.RowKit
variable {P : Program} {m : BM}

def seen (b : Bool) : Option Bool × PUnit := if b then (none, ()) else (some false, ())

theorem part_true {t : TypeId} {cs : List AV} {vs : List Value} {off n : Nat} (hc : VRs m cs vs) (ha : aggOf P t = some true) (hs : szOf P t = some n) (w : World) :
    (part t vs.toArray off).run P w = .ok (.agg ((vs.drop off).take n).toArray) w ∧ VR m (.agg ((cs.drop off).take n)) (.agg ((vs.drop off).take n).toArray) :=
  ⟨by simp [part, run_isAgg_true ha, run_sizeOf_of hs], .agg _ _ (vrs_take (vrs_drop hc off) n)⟩

theorem part_false {t : TypeId} {cs : List AV} {vs : List Value} {off : Nat} (hc : VRs m cs vs) (ha : aggOf P t = some false) (hf : off < cs.length) (w : World) :
    ∃ u, (part t vs.toArray off).run P w = .ok u w ∧ VR m (nth cs off) u := by
  obtain ⟨u, hu, hv⟩ := vrs_get hc off hf
  exact ⟨u, by simp [part, run_isAgg_false ha, hu], hv⟩

theorem eq_loop_step (P : Program) (w : World) {s : Sem Bool} {b : Bool} (hs : s.run P w = .ok b w) :
    (do let r ← s
        if (!r) = true then pure (ForInStep.done (some false, PUnit.unit)) else pure (ForInStep.yield (none, PUnit.unit)) : Sem (ForInStep (Option Bool × PUnit))).run P w =
      .ok (if b then ForInStep.yield (none, PUnit.unit) else ForInStep.done (some false, PUnit.unit)) w := by
  cases b <;> simp [hs]

mutual
theorem eqV_of : ∀ (d : Nat) (t : TypeId) (x y : AV) (b : Bool), eqV P d t x y = some b → ∀ D, d ≤ D → ∀ {x' y' : Value}, VR m x x' → VR m y y' → ∀ w, (Op.equalIn D t x' y').run P w = .ok b w
  | 0, _, _, _, _, h, _, _, _, _, _, _, _ => by simp [eqV] at h
  | d + 1, t, x, y, b, h, D, hD, x', y', hx, hy, w => by
    obtain ⟨D, rfl⟩ : ∃ D', D = D' + 1 := ⟨D - 1, by omega⟩
    unfold eqV at h
    split at h
    · rename_i hu; injection h with h; subst h
      rw [vr_bool hx, vr_bool hy]
      simp [Op.equalIn, run_underlying hu]
    · rename_i hu
      split at h
      · rename_i hk; injection h with h; subst h hk
        rw [vr_int hx, vr_int hy]
        simp [Op.equalIn, run_underlying hu]
      · cases h
    · rename_i hu; injection h with h; subst h
      rw [vr_str hx, vr_str hy]
      simp [Op.equalIn, run_underlying hu]
    · rename_i fields xs ys hu
      split at h
      · cases h
      rename_i hst
      have hst : P.stoodInHeld t = false := by simpa using hst
      obtain ⟨vs, rfl, hvs⟩ := vr_agg hx
      obtain ⟨us, rfl, hus⟩ := vr_agg hy
      unfold Op.equalIn
      simp only [Sem.run_bind, run_underlying hu w, Result.andThen_ok, program, Sem.run, hst, Bool.false_eq_true, if_false]
      have := eqF_of d fields.toList xs ys b h D (by omega) hvs hus w
      rw [← Array.forIn_toList, this]
      cases b <;> simp [seen]
    · rename_i len elem xs ys hu
      split at h
      · rename_i hs ha
        split at h
        · rename_i hl
          simp only [Bool.and_eq_true] at hl
          obtain ⟨vs, rfl, hvs⟩ := vr_agg hx
          obtain ⟨us, rfl, hus⟩ := vr_agg hy
          have hlx : xs.length = len := by simpa [lenIs] using hl.1
          have hly : ys.length = len := by simpa [lenIs] using hl.2
          unfold Op.equalIn
          simp only [Sem.run_bind, run_underlying hu w, Result.andThen_ok, run_sizeOf_of hs w]
          have := eqC_of d elem xs ys b h D (by omega) ha [] [] vs us hvs hus rfl w
          simp only [List.nil_append, List.length_nil] at this
          rw [Std.Legacy.Range.forIn_eq_forIn_range']
          simp only [Std.Legacy.Range.size, Nat.sub_zero, Nat.add_sub_cancel, Nat.div_one]
          rw [show List.range' 0 len = List.range' 0 xs.length from by rw [hlx]]
          rw [this]
          cases b <;> simp [seen]
        · cases h
      · cases h
    · rename_i hu; injection h with h; subst h
      rw [vr_nilI hx, vr_nilI hy]
      simp [Op.equalIn, run_underlying hu]
    · rename_i hu; injection h with h; subst h
      obtain ⟨v', rfl, _⟩ := vr_iface hy
      rw [vr_nilI hx]
      simp [Op.equalIn, run_underlying hu]
    · rename_i hu; injection h with h; subst h
      obtain ⟨v', rfl, _⟩ := vr_iface hx
      rw [vr_nilI hy]
      simp [Op.equalIn, run_underlying hu]
    · cases h
theorem eqF_of : ∀ (d : Nat) (fs : List Field) (xs ys : List AV) (b : Bool), eqF P d fs xs ys = some b → ∀ D, d ≤ D → ∀ {vs us : List Value}, VRs m xs vs → VRs m ys us → ∀ w,
    (forIn fs (none, PUnit.unit) fun (f : Field) (_ : Option Bool × PUnit) =>
      if f.name ≠ "_" then do
        let a ← part f.type vs.toArray f.offset
        let b ← part f.type us.toArray f.offset
        let c ← Op.equalIn D f.type a b
        if (!c) = true then pure (ForInStep.done (some false, PUnit.unit)) else pure (ForInStep.yield (none, PUnit.unit))
      else (pure (ForInStep.yield (none, PUnit.unit)) : Sem (ForInStep (Option Bool × PUnit)))).run P w = .ok (seen b) w
  | d, [], _, _, b, h, D, hD, vs, us, hx, hy, w => by
    have : b = true := by cases d <;> (simp [eqF] at h; exact h)
    subst this
    simp [seen]
  | 0, _ :: _, _, _, _, h, _, _, _, _, _, _, _ => by simp [eqF] at h
  | d + 1, f :: fs, xs, ys, b, h, D, hD, vs, us, hx, hy, w => by
    unfold eqF at h
    split at h
    · cases h
    rename_i hn
    split at h
    · rename_i n ha hs
      split at h
      · rename_i hf
        split at h
        · rename_i b1 b2 e1 e2
          injection h with h; subst h
          obtain ⟨p1, q1⟩ := part_true (off := f.offset) hx ha hs w
          obtain ⟨p2, q2⟩ := part_true (off := f.offset) hy ha hs w
          have h1 := eqV_of d f.type _ _ b1 e1 D (by omega) q1 q2 w
          have h2 := eqF_of d fs xs ys b2 e2 D (by omega) hx hy w
          rw [List.forIn_cons, if_pos hn]
          simp only [Sem.run_bind, p1, p2, h1, Result.andThen_ok]
          cases b1
          · simp [seen]
          · simp only [Bool.not_true, Bool.false_eq_true, if_false, Sem.run_pure, Result.andThen_ok, h2, Bool.true_and]
        · cases h
      · cases h
    · rename_i n ha hs
      split at h
      · rename_i hf
        split at h
        · rename_i b1 b2 e1 e2
          injection h with h; subst h
          simp only [Bool.and_eq_true] at hf
          obtain ⟨u1, p1, q1⟩ := part_false hx ha (fits_le hf.1) w
          obtain ⟨u2, p2, q2⟩ := part_false hy ha (fits_le hf.2) w
          have h1 := eqV_of d f.type _ _ b1 e1 D (by omega) q1 q2 w
          have h2 := eqF_of d fs xs ys b2 e2 D (by omega) hx hy w
          rw [List.forIn_cons, if_pos hn]
          simp only [Sem.run_bind, p1, p2, h1, Result.andThen_ok]
          cases b1
          · simp [seen]
          · simp only [Bool.not_true, Bool.false_eq_true, if_false, Sem.run_pure, Result.andThen_ok, h2, Bool.true_and]
        · cases h
      · cases h
    · cases h
theorem eqC_of : ∀ (d : Nat) (t : TypeId) (xs ys : List AV) (b : Bool), eqC P d t xs ys = some b → ∀ D, d ≤ D → aggOf P t = some false → ∀ (px py vs us : List Value), VRs m xs vs → VRs m ys us → px.length = py.length → ∀ w,
    (forIn (List.range' px.length xs.length) (none, PUnit.unit) fun (i : Nat) (_ : Option Bool × PUnit) => do
        let a ← part t (px ++ vs).toArray (i * 1)
        let b ← part t (py ++ us).toArray (i * 1)
        let c ← Op.equalIn D t a b
        if (!c) = true then pure (ForInStep.done (some false, PUnit.unit)) else (pure (ForInStep.yield (none, PUnit.unit)) : Sem (ForInStep (Option Bool × PUnit)))).run P w = .ok (seen b) w
  | d, t, [], [], b, h, D, hD, ha, px, py, vs, us, hx, hy, hp, w => by
    have : b = true := by cases d <;> (simp [eqC] at h; exact h)
    subst this
    simp [seen]
  | 0, _, _ :: _, _, _, h, _, _, _, _, _, _, _, _, _, _, _ => by simp [eqC] at h
  | 0, _, [], _ :: _, _, h, _, _, _, _, _, _, _, _, _, _, _ => by simp [eqC] at h
  | d + 1, t, x :: xs, [], _, h, _, _, _, _, _, _, _, _, _, _, _ => by simp [eqC] at h
  | d + 1, t, [], _ :: _, _, h, _, _, _, _, _, _, _, _, _, _, _ => by simp [eqC] at h
  | d + 1, t, x :: xs, y :: ys, b, h, D, hD, ha, px, py, _, _, .cons _ v _ vs hx hxs, .cons _ u _ us hy hys, hp, w => by
    unfold eqC at h
    split at h
    · rename_i b1 b2 e1 e2
      injection h with h; subst h
      have h1 := eqV_of d t x y b1 e1 D (by omega) hx hy w
      have h2 := eqC_of d t xs ys b2 e2 D (by omega) ha (px ++ [v]) (py ++ [u]) vs us hxs hys (by simp [hp]) w
      have p1 : (part t (px ++ v :: vs).toArray (px.length * 1)).run P w = .ok v w := by
        simp [part, run_isAgg_false ha]
      have p2 : (part t (py ++ u :: us).toArray (px.length * 1)).run P w = .ok u w := by
        simp [part, run_isAgg_false ha, hp]
      simp only [List.length_cons, List.range'_succ, List.forIn_cons, Sem.run_bind, p1, p2, h1, Result.andThen_ok]
      simp only [List.append_assoc, List.singleton_append, List.length_append, List.length_cons, List.length_nil, Nat.zero_add] at h2
      cases b1
      · simp [seen]
      · simp only [Bool.not_true, Bool.false_eq_true, if_false, Sem.run_pure, Result.andThen_ok, h2, Bool.true_and]
    · cases h
end
end Go.Proofs.YtbikcndldcfffaaDoor.Sim
