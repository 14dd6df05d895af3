/- Slicing, fields, indexes, calls: each operation at once. Condition: none beyond what each lemma says. -/
import Derived.Test.YtbikcndldcfffaaDoorSimOps5
namespace Go.Proofs.YtbikcndldcfffaaDoor.Sim
open Go.RowKit
variable {P : Program} {m : BM}

/-- A value's bound, in the machine. -/
theorem vr_opt {B : Nat} {w0 : World} {st : St} {a : Act} {w : World} (h : Rel B w0 m st a w) (x : Option Operand) :
    (x = none ∧ x.map (evA st.tmps) = none ∧ x.map a.eval = none) ∨ (∃ o, x.map (evA st.tmps) = some (evA st.tmps o) ∧ x.map a.eval = some (a.eval o) ∧ VR m (evA st.tmps o) (a.eval o)) := by
  cases x with
  | none => exact .inl ⟨rfl, rfl, rfl⟩
  | some o => exact .inr ⟨o, rfl, rfl, h.eval o⟩

theorem sliceBounds_of {B : Nat} {w0 : World} {st : St} {a : Act} {w : World} (h : Rel B w0 m st a w) (isS : Bool) (len cap : Nat) (lo hi mx : Option Operand) {R : Type} {c : Nat → Nat → Nat → Option R} {r : R}
    (e : bndK (mx.map (evA st.tmps)) (some cap) cap (fun mm => bndK (hi.map (evA st.tmps)) (cond mx.isSome none (some len)) mm fun hh => bndK (lo.map (evA st.tmps)) (some 0) hh fun l => c mm hh l) = some r) :
    ∃ l hh mm, (Instr.sliceBounds isS len cap (lo.map a.eval) (hi.map a.eval) (mx.map a.eval)).run P w = .ok (l, hh, mm) w ∧ c mm hh l = some r := by
  have lowpart : ∀ (hh mm : Nat), bndK (lo.map (evA st.tmps)) (some 0) hh (fun l => c mm hh l) = some r →
      ∃ l, (match lo.map a.eval with | some v => Instr.sliceBound v hh (if (mx.map a.eval).isSome then .slice3C else .sliceB) | none => (pure 0 : Sem Nat)).run P w = .ok l w ∧ c mm hh l = some r := by
    intro hh mm e
    rcases vr_opt h lo with ⟨_, h2, h3⟩ | ⟨o, h2, h3, h4⟩
    · rw [h2] at e
      rcases bnd_of e with ⟨k, i, hv, _⟩ | ⟨_, d, hd, e⟩
      · cases hv
      · injection hd with hd; subst hd; exact ⟨0, by simp [h3], e⟩
    · rw [h2] at e
      rcases bnd_of e with ⟨k, i, hv, i0, i1, e⟩ | ⟨hv, _⟩
      · injection hv with hv
        rw [hv] at h4
        exact ⟨i.toNat, by rw [h3, vr_int h4]; exact run_sliceBound _ i0 i1 w, e⟩
      · cases hv
  rcases vr_opt h mx with ⟨m1, m2, m3⟩ | ⟨mo, m2, m3, m4⟩
  · rw [m2] at e
    rcases bnd_of e with ⟨k, i, hv, _⟩ | ⟨_, d, hd, e⟩
    · cases hv
    injection hd with hd; subst hd
    rcases vr_opt h hi with ⟨_, h2, h3⟩ | ⟨o, h2, h3, h4⟩
    · rw [h2, m1] at e
      rcases bnd_of e with ⟨k, i, hv, _⟩ | ⟨_, d, hd, e⟩
      · cases hv
      injection hd with hd; subst hd
      obtain ⟨l, l1, l2⟩ := lowpart _ _ e
      rw [m3] at l1 ⊢
      refine ⟨l, len, cap, ?_, l2⟩
      rw [h3]
      simp only [Instr.sliceBounds, Sem.run_bind, Sem.run_pure, Result.andThen_ok]
      revert l1; cases Option.map a.eval lo <;> intro l1 <;> simp_all
    · rw [h2] at e
      rcases bnd_of e with ⟨k, i, hv, i0, i1, e⟩ | ⟨hv, _⟩
      · injection hv with hv
        rw [hv] at h4
        obtain ⟨l, l1, l2⟩ := lowpart _ _ e
        rw [m3] at l1 ⊢
        refine ⟨l, i.toNat, cap, ?_, l2⟩
        rw [h3, vr_int h4]
        simp only [Instr.sliceBounds, Sem.run_bind, Sem.run_pure, Result.andThen_ok, run_sliceBound _ i0 i1 w]
        clear h3 m3
        revert l1; cases Option.map a.eval lo <;> intro l1 <;> simp_all
      · cases hv
  · rw [m2] at e
    rcases bnd_of e with ⟨k, i, hv, i0, i1, e⟩ | ⟨hv, _⟩
    case inr => cases hv
    injection hv with hv
    rw [hv] at m4
    have hms : mx.isSome = true := by cases mx <;> simp_all
    rcases vr_opt h hi with ⟨_, h2, h3⟩ | ⟨o, h2, h3, h4⟩
    · rw [h2, hms] at e
      rcases bnd_of e with ⟨k, i, hv, _⟩ | ⟨_, d, hd, e⟩
      · cases hv
      · cases hd
    · rw [h2] at e
      rcases bnd_of e with ⟨k', i', hv', i0', i1', e⟩ | ⟨hv', _⟩
      · injection hv' with hv'
        rw [hv'] at h4
        obtain ⟨l, l1, l2⟩ := lowpart _ _ e
        refine ⟨l, i'.toNat, i.toNat, ?_, l2⟩
        rw [m3] at l1 ⊢
        rw [h3, vr_int h4, vr_int m4]
        rw [vr_int m4] at l1
        simp only [Instr.sliceBounds, Sem.run_bind, Result.andThen_ok, run_sliceBound _ i0 i1 w, run_sliceBound _ i0' i1' w]
        clear h3 m3
        revert l1; cases Option.map a.eval lo <;> intro l1 <;> simp_all
      · cases hv'

theorem slice_str_of {B : Nat} {w0 : World} {st : St} {a : Act} {w : World} (h : Rel B w0 m st a w) (s : ByteArray) (lo hi : Option Operand) {v : AV}
    (e : sliceStrK s (lo.map (evA st.tmps)) (hi.map (evA st.tmps)) some = some v) :
    ∃ l hh mm, (Instr.sliceBounds false s.size s.size (lo.map a.eval) (hi.map a.eval) none).run P w = .ok (l, hh, mm) w ∧ v = .str (s.extract l hh) := by
  have := sliceBounds_of (P := P) h false s.size s.size lo hi none (c := fun mm hh l => some (AV.str (s.extract l hh))) (r := v) (by simpa [sliceStrK, bndK] using e)
  obtain ⟨l, hh, mm, h1, h2⟩ := this
  injection h2 with h2
  exact ⟨l, hh, mm, h1, h2.symm⟩

theorem cond_push (b : Bool) (p q : Option (Nat × Nat)) (x y : Nat) : (cond b (some (AV.slice p x y)) (some (AV.slice q x y))) = some (AV.slice (cond b p q) x y) := by cases b <;> rfl

theorem sliceAt_of {B : Nat} {w0 : World} {st : St} {a : Act} {w : World} (h : Rel B w0 m st a w) (t : TypeId) (x : Operand) (lo hi mx : Option Operand) {v : AV}
    (e : sliceK P t (evA st.tmps x) (lo.map (evA st.tmps)) (hi.map (evA st.tmps)) (mx.map (evA st.tmps)) some = some v) :
    ∃ v', (Instr.sliceAt t (a.eval x) (lo.map a.eval) (hi.map a.eval) (mx.map a.eval)).run P w = .ok v' w ∧ VR m v v' := by
  have hx := h.eval x
  generalize hax : evA st.tmps x = ax at hx e
  generalize a.eval x = vx at hx
  unfold sliceK at e
  split at e
  · rename_i s hu
    obtain ⟨e1, e⟩ := some_cond' e
    rw [vr_str hx]
    have hmx : mx = none := by cases mx <;> simp_all
    subst hmx
    obtain ⟨l, hh, mm, h1, rfl⟩ := slice_str_of (P := P) h s lo hi e
    refine ⟨_, ?_, .str _⟩
    simp only [Instr.sliceAt, Instr.slice, Sem.run_bind, run_underlying hu w, Result.andThen_ok, Option.map_none, Option.isSome_none, Bool.false_eq_true, if_false, h1, Sem.run_pure]
  · rename_i elem p len cap hu
    split at e
    · rename_i n hs
      unfold sliceSlK at e
      simp only [cond_push] at e
      have e' : bndK (mx.map (evA st.tmps)) (some cap) cap (fun mm => bndK (hi.map (evA st.tmps)) (cond mx.isSome none (some len)) mm fun hh => bndK (lo.map (evA st.tmps)) (some 0) hh fun l =>
          some (AV.slice (cond (Nat.beq mm l) p (p.map fun a => (a.1, a.2 + l * n))) (hh - l) (mm - l))) = some v := by
        rw [← e]; congr 1; funext mm; congr 1; cases mx <;> rfl
      obtain ⟨l, hh, mm, h1, h2⟩ := sliceBounds_of (P := P) h true len cap lo hi mx e'
      injection h2 with h2
      subst h2
      cases p with
      | none =>
        rw [vr_sl0 hx]
        refine ⟨.slice none (hh - l) (mm - l), ?_, ?_⟩
        · simp only [Instr.sliceAt, Instr.slice, Sem.run_bind, run_underlying hu w, Result.andThen_ok, h1, run_sizeOf_of hs w, Sem.run_pure]
          split <;> rfl
        · cases Nat.beq mm l <;> exact .sl0 _ _
      | some q =>
        obtain ⟨K, o⟩ := q
        obtain ⟨r, rfl, hK⟩ := vr_sl hx
        refine ⟨.slice (some (if mm = l then ⟨r, o, none⟩ else ⟨r, o + l * n, none⟩)) (hh - l) (mm - l), ?_, ?_⟩
        · simp only [Instr.sliceAt, Instr.slice, Sem.run_bind, run_underlying hu w, Result.andThen_ok, h1, run_sizeOf_of hs w, Sem.run_pure, Option.map_some, Addr.add_mid]
          split <;> rfl
        · by_cases hml : mm = l
          · have hb : Nat.beq mm l = true := by simpa using hml
            rw [hb, if_pos hml]; exact .sl _ _ _ _ _ hK
          · have hb : Nat.beq mm l = false := by
              cases hbb : Nat.beq mm l
              · rfl
              · exact absurd (Nat.eq_of_beq_eq_true hbb) hml
            rw [hb, if_neg hml]; exact .sl _ _ _ _ _ hK
    · cases e
  · rename_i n elem p hu
    split at e
    · rename_i z hs
      unfold sliceSlK at e
      simp only [cond_push] at e
      have e' : bndK (mx.map (evA st.tmps)) (some n) n (fun mm => bndK (hi.map (evA st.tmps)) (cond mx.isSome none (some n)) mm fun hh => bndK (lo.map (evA st.tmps)) (some 0) hh fun l =>
          some (AV.slice (cond (Nat.beq mm l) (some p) ((some p).map fun a => (a.1, a.2 + l * z))) (hh - l) (mm - l))) = some v := by
        rw [← e]; congr 1; funext mm; congr 1; cases mx <;> rfl
      obtain ⟨l, hh, mm, h1, h2⟩ := sliceBounds_of (P := P) h false n n lo hi mx e'
      injection h2 with h2
      subst h2
      obtain ⟨K, o⟩ := p
      obtain ⟨r, rfl, hK⟩ := vr_ptr hx
      refine ⟨.slice (some (if mm = l then ⟨r, o, none⟩ else ⟨r, o + l * z, none⟩)) (hh - l) (mm - l), ?_, ?_⟩
      · simp only [Instr.sliceAt, Instr.sureAddr, Sem.run_bind, run_underlying hu w, Result.andThen_ok, h1, run_sizeOf_of hs w, Sem.run_pure, Addr.add_mid]
      · by_cases hml : mm = l
        · have hb : Nat.beq mm l = true := by simpa using hml
          rw [hb, if_pos hml]; exact .sl _ _ _ _ _ hK
        · have hb : Nat.beq mm l = false := by
            cases hbb : Nat.beq mm l
            · rfl
            · exact absurd (Nat.eq_of_beq_eq_true hbb) hml
          rw [hb, if_neg hml]; exact .sl _ _ _ _ _ hK
    · cases e
  · cases e

theorem fieldAt_of {t : TypeId} {x v : AV} {vx : Value} {f : Nat} (hx : VR m x vx) (e : fieldAddrK P t x f some = some v) (w : World) : ∃ v', (Instr.fieldAt t vx f).run P w = .ok v' w ∧ VR m v v' := by
  unfold fieldAddrK at e
  split at e <;> (try (cases e; done))
  rename_i fields hu
  split at e <;> (try (cases e; done))
  rename_i fd hf
  split at e <;> (try (cases e; done))
  rename_i n hs
  cases hx <;> simp only [AV.ptrK] at e <;> (try (cases e; done))
  rename_i K o r hK
  injection e with e; subst e
  refine ⟨.pointer (some ⟨r, o + fd.offset, none⟩), ?_, .ptr _ _ _ hK⟩
  simp only [Instr.fieldAt, Sem.run_bind, run_underlying hu w, Result.andThen_ok, hf, Instr.sureAddr, Sem.run_pure, fieldPlace, run_sizeOf_of hs w]
  rw [if_neg (by omega)]
  simp [Addr.add_mid]

theorem field_of {t : TypeId} {x v : AV} {vx : Value} {f : Nat} (hx : VR m x vx) (e : fieldK P t x f some = some v) (w : World) : ∃ v', (Instr.field t vx f).run P w = .ok v' w ∧ VR m v v' := by
  unfold fieldK at e
  split at e <;> (try (cases e; done))
  rename_i fields hu
  split at e <;> (try (cases e; done))
  rename_i fd hf
  cases hx <;> simp only [AV.aggK] at e <;> (try (cases e; done))
  rename_i cs vs hvs
  obtain ⟨v', h1, h2⟩ := part_of hvs e w
  refine ⟨v', ?_, h2⟩
  simp [Instr.field, run_underlying hu, hf, asAgg, h1]

theorem anyInt_of {R : Type} {x : AV} {c : Int → Option R} {r : R} (h : x.anyIntK c = some r) : ∃ k i, x = .int k i ∧ c i = some r := by
  unfold AV.anyIntK at h
  split at h
  · exact ⟨_, _, rfl, h⟩
  · cases h

theorem indexAt_of {t : TypeId} {x i v : AV} {vx vi : Value} (hx : VR m x vx) (hi : VR m i vi) (e : indexAddrK P t x i some = some v) (w : World) : ∃ v', (Instr.indexAt t vx vi).run P w = .ok v' w ∧ VR m v v' := by
  unfold indexAddrK at e
  split at e
  · rename_i len elem p hu
    split at e <;> (try (cases e; done))
    rename_i n hs
    obtain ⟨k, j, rfl, e⟩ := anyInt_of e
    obtain ⟨e1, e⟩ := some_cond e
    injection e with e; subst e
    obtain ⟨K, o⟩ := p
    obtain ⟨r, rfl, hK⟩ := vr_ptr hx
    rw [vr_int hi]
    simp only [Bool.and_eq_true, decide_eq_true_eq] at e1
    refine ⟨.pointer (some ⟨r, o + j.toNat * n, none⟩), ?_, .ptr _ _ _ hK⟩
    simp [Instr.indexAt, asIntOf, run_underlying hu, Instr.sureAddr, e1.1, e1.2, run_sizeOf_of hs, Addr.add_mid]
  · rename_i elem p len cap hu
    split at e <;> (try (cases e; done))
    rename_i n hs
    obtain ⟨k, j, rfl, e⟩ := anyInt_of e
    obtain ⟨e1, e⟩ := some_cond e
    injection e with e; subst e
    obtain ⟨K, o⟩ := p
    obtain ⟨r, rfl, hK⟩ := vr_sl hx
    rw [vr_int hi]
    simp only [Bool.and_eq_true, decide_eq_true_eq] at e1
    refine ⟨.pointer (some ⟨r, o + j.toNat * n, none⟩), ?_, .ptr _ _ _ hK⟩
    simp [Instr.indexAt, asIntOf, run_underlying hu, e1.1, e1.2, run_sizeOf_of hs, Addr.add_mid]
  · cases e

theorem index_of {t : TypeId} {x i v : AV} {vx vi : Value} (hx : VR m x vx) (hi : VR m i vi) (e : indexK P t x i some = some v) (w : World) : ∃ v', (Instr.index t vx vi).run P w = .ok v' w ∧ VR m v v' := by
  unfold indexK at e
  split at e
  · rename_i len elem cs hu
    split at e <;> (try (cases e; done))
    rename_i n hs
    obtain ⟨k, j, rfl, e⟩ := anyInt_of e
    obtain ⟨e1, e⟩ := some_cond e
    obtain ⟨vs, rfl, hvs⟩ := vr_agg hx
    rw [vr_int hi]
    simp only [Bool.and_eq_true, decide_eq_true_eq] at e1
    obtain ⟨v', h1, h2⟩ := part_of hvs e w
    refine ⟨v', ?_, h2⟩
    simp [Instr.index, asIntOf, run_underlying hu, e1.1, e1.2, run_sizeOf_of hs, h1]
  · rename_i s hu
    obtain ⟨k, j, rfl, e⟩ := anyInt_of e
    obtain ⟨e1, e⟩ := some_cond e
    split at e <;> (try (cases e; done))
    rename_i b hb
    injection e with e; subst e
    rw [vr_str hx, vr_int hi]
    simp only [decide_eq_true_eq] at e1
    refine ⟨_, ?_, .int _ _⟩
    simp [Instr.index, asIntOf, run_underlying hu, e1, hb]
  · cases e

theorem len_of {t : TypeId} {x v : AV} {vx : Value} (hx : VR m x vx) (e : lenK P t x some = some v) (ty : TypeId) (ts : Array TypeId) (ht : ts[0]? = some t) (w : World) :
    ∃ v', (Builtin.len_ ts ty #[vx]).run P w = .ok v' w ∧ VR m v v' := by
  unfold lenK at e
  split at e
  · rename_i s hu; injection e with e; subst e; rw [vr_str hx]
    exact ⟨_, by simp [Builtin.len_, ht, run_underlying hu, goInt], .int _ _⟩
  · rename_i n _ hu; injection e with e; subst e
    exact ⟨_, by simp [Builtin.len_, ht, run_underlying hu, goInt], .int _ _⟩
  · rename_i el p n c hu; injection e with e; subst e
    cases hx
    · exact ⟨_, by simp [Builtin.len_, ht, run_underlying hu, goInt], .int _ _⟩
    · exact ⟨_, by simp [Builtin.len_, ht, run_underlying hu, goInt], .int _ _⟩
  · cases e

theorem max_of : ∀ (l : List AV) (x : AV) {v : AV} {vx : Value} {vl : List Value}, VR m x vx → VRs m l vl → maxK true x l some = some v → ∀ w, ∃ v', (vl.foldlM Builtin.max2 vx).run P w = .ok v' w ∧ VR m v v'
  | [], x, v, vx, _, hx, .nil, e, w => by
    simp only [maxK] at e; injection e with e; subst e; exact ⟨vx, by simp, hx⟩
  | _, x, v, vx, _, hx, .cons y vy l vl hy hl, e, w => by
    cases x <;> cases y <;> simp only [maxK] at e <;> (try (cases e; done))
    rename_i k a k' b
    obtain ⟨v', h1, h2⟩ := max_of l _ (.int k _) hl e w
    rw [vr_int hx, vr_int hy]
    refine ⟨v', ?_, h2⟩
    simp only [List.foldlM_cons, Sem.run_bind, Builtin.max2, Sem.run_pure, Result.andThen_ok]
    exact h1
theorem min_of : ∀ (l : List AV) (x : AV) {v : AV} {vx : Value} {vl : List Value}, VR m x vx → VRs m l vl → maxK false x l some = some v → ∀ w, ∃ v', (vl.foldlM Builtin.min2 vx).run P w = .ok v' w ∧ VR m v v'
  | [], x, v, vx, _, hx, .nil, e, w => by
    simp only [maxK] at e; injection e with e; subst e; exact ⟨vx, by simp, hx⟩
  | _, x, v, vx, _, hx, .cons y vy l vl hy hl, e, w => by
    cases x <;> cases y <;> simp only [maxK] at e <;> (try (cases e; done))
    rename_i k a k' b
    obtain ⟨v', h1, h2⟩ := min_of l _ (.int k _) hl e w
    rw [vr_int hx, vr_int hy]
    refine ⟨v', ?_, h2⟩
    simp only [List.foldlM_cons, Sem.run_bind, Builtin.min2, Sem.run_pure, Result.andThen_ok]
    exact h1

theorem bytes_of : ∀ (cs : List AV) (vs : List Value) (acc s : ByteArray), VRs m cs vs → bytesOf cs (some acc) = some s →
    ∀ w, (forIn vs acc fun (c : Value) (s : ByteArray) => (match c with
      | .int .u8 n => pure (ForInStep.yield (s.push (UInt8.ofNat n.toNat)))
      | _ => do
        (stuck "bytesToString: byte expected" : Sem PUnit)
        pure (ForInStep.yield s) : Sem (ForInStep ByteArray))).run P w = .ok s w
  | [], _, acc, s, .nil, h, w => by simp [bytesOf] at h; simp [h]
  | x :: cs, _, acc, s, .cons _ v _ vs hx hs, h, w => by
    unfold bytesOf at h
    split at h
    · rename_i he; injection he
    · rename_i n r acc' h1 h2
      injection h1 with h1a h1b
      injection h2 with h2
      subst h1a h1b h2
      rw [vr_int hx, List.forIn_cons]
      simp only [Sem.run_bind, Sem.run_pure, Result.andThen_ok]
      exact bytes_of _ vs _ s hs h w
    · cases h

theorem conv_of {B : Nat} {w0 : World} {H : List Blk} {w : World} (h : Sim B w0 m H w) {s d : TypeId} {x v : AV} {vx : Value} (hx : VR m x vx) (e : convK P H s d x some = some v) : ∃ v', (convert s d vx).run P w = .ok v' w ∧ VR m v v' := by
  unfold convK at e
  split at e
  · rename_i u kd k n hu hd; injection e with e; subst e
    rw [vr_int hx]
    exact ⟨_, by simp [convert, run_underlying hu, run_underlying hd, Conv.intToInt], .int _ _⟩
  · rename_i u s hu hd; injection e with e; subst e
    rw [vr_str hx]
    refine ⟨.string s, ?_, .str s⟩
    simp only [convert, Sem.run_bind, run_underlying hu w, run_underlying hd w, Result.andThen_ok]
    cases u <;> rfl
  · rename_i el K o len c hu hd
    split at e
    · rename_i t cs he hb
      obtain ⟨e1, e⟩ := some_cond e
      split at e <;> (try (cases e; done))
      rename_i str hstr
      injection e with e; subst e
      obtain ⟨r, rfl, hK⟩ := vr_sl hx
      obtain ⟨vs, ex, fr, hh, hvs, _⟩ := h.row hK hb
      have hl := vrs_length hvs
      have hf := fits_le e1
      refine ⟨.string str, ?_, .str str⟩
      have hload : (loadCells ⟨r, o, none⟩ len).run P w = .ok ((vs.drop o).take len).toArray w := by
        have h1 := run_loadCells_list (P := P) w ⟨r, o, none⟩ ((vs.drop o).take len) (fun j v hv => by rw [Addr.add_mid]; exact range_row hh (by omega) j v hv)
        rw [show ((vs.drop o).take len).length = len from by simp; omega] at h1
        exact h1
      have := bytes_of (P := P) ((cs.drop o).take len) ((vs.drop o).take len) .empty str (vrs_take (vrs_drop hvs o) len) hstr w
      simp only [convert, Sem.run_bind, run_underlying hu w, run_underlying hd w, run_underlying he w, Result.andThen_ok, Conv.bytesToString, hload]
      rw [← Array.forIn_toList]
      exact congrArg (fun (r : Result ByteArray) => r.andThen fun a w' => Sem.run P (pure (Value.string a)) w') this
    · cases e
  · cases e

theorem methodOf_of {t : TypeId} {name : String} {f : FuncId} (h : methodOf P t name = some f) :
    ∃ i mm pr d, P.info? t = some i ∧ i.methods.find? (·.name == name) = some mm ∧ mm.path = #[] ∧ mm.func = some (f, pr) ∧ P.underlying t = some d ∧ ((∃ e, d = .pointer e) ∧ pr = true ∨ (∀ e, d ≠ .pointer e) ∧ pr = false) := by
  unfold methodOf at h
  split at h <;> (try (cases h; done))
  rename_i i hi
  split at h <;> (try (cases h; done))
  rename_i mm hm
  split at h <;> (try (cases h; done))
  rename_i g pr hp hf
  have hp' : mm.path = #[] := by cases hq : mm.path; simp_all
  split at h <;> (try (cases h; done))
  · rename_i e hu
    split at h <;> (try (cases h; done))
    rename_i hpr
    injection h with h; subst h
    exact ⟨i, mm, pr, _, hi, hm, hp', hf, hu, .inl ⟨⟨e, rfl⟩, hpr⟩⟩
  · rename_i d hd hu
    split at h <;> (try (cases h; done))
    rename_i hpr
    injection h with h; subst h
    exact ⟨i, mm, pr, d, hi, hm, hp', hf, hu, .inr ⟨fun e he => hd e (by rw [he]), by simpa using hpr⟩⟩

theorem invoke_of {t : TypeId} {name : String} {f : FuncId} (h : methodOf P t name = some f) (v : Value) (args : Array Value) (w : World) :
    (callMethod (.iface t v) name args).run P w = (callFunc f (#[v] ++ args)).run P w := by
  obtain ⟨i, mm, pr, d, hi, hm, hp, hf, hu, hd⟩ := methodOf_of h
  obtain ⟨n, hn⟩ : ∃ n, P.types.size + Made.depth = n + 1 := ⟨P.types.size + Made.depth - 1, by unfold Made.depth; omega⟩
  have hmeth : (method (n + 1) t v name).run P w = .ok (f, v) w := by
    unfold method
    simp only [Sem.run_bind, typeInfo, program, Sem.run, Result.andThen_ok, hi, Sem.run_pure, hm, hp, follow, hf]
    rcases hd with ⟨⟨e, rfl⟩, rfl⟩ | ⟨hne, rfl⟩
    · simp only [receiverAt, Sem.run_bind, run_underlying hu w, Result.andThen_ok, Place.get, Sem.run_pure]
    · simp only [receiverAt, Sem.run_bind, run_underlying hu w, Result.andThen_ok]
      cases d <;> first | exact absurd rfl (hne _) | rfl
  simp only [callMethod, Sem.run_bind, program, Sem.run, Result.andThen_ok, hn, hmeth]
end Go.Proofs.YtbikcndldcfffaaDoor.Sim
