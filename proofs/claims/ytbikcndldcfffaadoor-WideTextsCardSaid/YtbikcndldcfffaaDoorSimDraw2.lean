/- What an operation of the abstract run looks at. Condition: none beyond what each theorem says. -/
import Derived.Test.YtbikcndldcfffaaDoorSimDraw
namespace Go.Proofs.YtbikcndldcfffaaDoor.Sim
open Go.RowKit

theorem loadK_local {R : Type} (P : Program) (H H' : List Blk) (t : TypeId) (a : AV) (k : AV → Option R) (h : ∀ K ∈ blkOf a, blk H K = blk H' K) : loadK P H t a k = loadK P H' t a k := by
  unfold loadK AV.ptrK
  split
  · rename_i p
    have := h p.1 (by simp [blkOf])
    simp only
    rw [this]
  · rfl
theorem storeK_local {R : Type} (P : Program) (H H' : List Blk) (t : TypeId) (a v : AV) (k : Res → Option R) (h : ∀ K ∈ blkOf a, blk H K = blk H' K) : storeK P H t a v k = storeK P H' t a v k := by
  unfold storeK AV.ptrK
  split
  · rename_i p
    have := h p.1 (by simp [blkOf])
    simp only
    rw [this]
  · rfl
theorem convK_local {R : Type} (P : Program) (H H' : List Blk) (s d : TypeId) (a : AV) (k : AV → Option R) (h : ∀ K ∈ blkOf a, blk H K = blk H' K) : convK P H s d a k = convK P H' s d a k := by
  unfold convK
  split
  · rfl
  · rfl
  · rename_i e K o len c hu hd
    have := h K (by simp [blkOf])
    rw [this]
  · rfl

theorem evL_local {T T' : List AV} : ∀ (l : List Operand), (∀ x ∈ l, evA T x = evA T' x) → evL T l = evL T' l
  | [], _ => rfl
  | x :: l, h => by
    simp only [evL]
    rw [h x (List.mem_cons_self ..), evL_local l (fun y hy => h y (List.mem_cons_of_mem _ hy))]
theorem mapEv_local {T T' : List AV} : ∀ (l : List (Nat × Operand)), (∀ x ∈ l, evA T x.2 = evA T' x.2) → mapEv T l = mapEv T' l
  | [], _ => rfl
  | (i, x) :: l, h => by
    simp only [mapEv]
    have := h (i, x) (List.mem_cons_self ..)
    simp only at this
    rw [this, mapEv_local l (fun y hy => h y (List.mem_cons_of_mem _ hy))]
theorem optEv_local {T T' : List AV} (x : Option Operand) (h : ∀ y ∈ x, evA T y = evA T' y) : x.map (evA T) = x.map (evA T') := by
  cases x with
  | none => rfl
  | some y => simp [h y rfl]

/-- The blocks that an operation may look into. -/
def rdK (o : Oper) (T : List AV) : List Nat :=
  match o.op with
  | .load _ a => blkOf (evA T a)
  | .store _ a _ => blkOf (evA T a)
  | .next a _ => blkOf (evA T a)
  | .convert _ _ a => blkOf (evA T a)
  | _ => []

theorem opV_local (E : Env) (o : Oper) (st st' : St) (hT : ∀ x ∈ o.op.operands, evA st.tmps x = evA st'.tmps x) (hB : ∀ K ∈ rdK o st.tmps, blk st.heap K = blk st'.heap K) : opV E o st = opV E o st' := by
  obtain ⟨dst, op, type, pos, after, guard⟩ := o
  unfold opV opK
  cases op with
  | move x => simp only; rw [hT x (by simp [Op.operands])]
  | assign x => simp only; rw [hT x (by simp [Op.operands])]
  | pick c x y => simp only; rw [hT c (by simp [Op.operands]), hT x (by simp [Op.operands]), hT y (by simp [Op.operands])]
  | alloc t => rfl
  | box t x => simp only; rw [hT x (by simp [Op.operands])]
  | build t ps =>
    simp only
    rw [mapEv_local ps.toList (fun x hx => hT x.2 (by simp [Op.operands]; exact ⟨x.1, by simpa using hx⟩))]
  | buildSlice t n ps =>
    simp only
    rw [mapEv_local ps.toList (fun x hx => hT x.2 (by simp [Op.operands]; exact ⟨x.1, by simpa using hx⟩))]
  | load t x => simp only; rw [loadK_local E.P _ _ t _ _ hB, hT x (by simp [Op.operands])]
  | store t x y => simp only; rw [storeK_local E.P _ _ t _ _ _ hB, hT x (by simp [Op.operands]), hT y (by simp [Op.operands])]
  | nilCheck x => simp only; rw [hT x (by simp [Op.operands])]
  | binOp op t x y yt => simp only; rw [hT x (by simp [Op.operands]), hT y (by simp [Op.operands])]
  | unOp op t x => simp only; rw [hT x (by simp [Op.operands])]
  | convert s d x => simp only; rw [convK_local E.P _ _ s d _ _ hB, hT x (by simp [Op.operands])]
  | makeInterface t x => simp only; rw [hT x (by simp [Op.operands])]
  | makeFunc f p q =>
    cases f with
    | func f =>
      simp only
      rw [evL_local p.toList (fun x hx => hT x (by simp [Op.operands]; left; simpa using hx)), evL_local q.toList (fun x hx => hT x (by simp [Op.operands]; right; simpa using hx))]
    | _ => rfl
  | slice t x lo hi mx =>
    simp only
    rw [hT x (by simp [Op.operands]), optEv_local lo (fun y hy => hT y (by simp [Op.operands]; right; left; simpa using hy)), optEv_local hi (fun y hy => hT y (by simp [Op.operands]; right; right; left; simpa using hy)),
      optEv_local mx (fun y hy => hT y (by simp [Op.operands]; right; right; right; simpa using hy))]
  | fieldAddr t x f => simp only; rw [hT x (by simp [Op.operands])]
  | field t x f => simp only; rw [hT x (by simp [Op.operands])]
  | indexAddr t x i => simp only; rw [hT x (by simp [Op.operands]), hT i (by simp [Op.operands])]
  | index t x i => simp only; rw [hT x (by simp [Op.operands]), hT i (by simp [Op.operands])]
  | range t x => simp only; rw [hT x (by simp [Op.operands])]
  | next it isS =>
    cases isS with
    | false => rfl
    | true =>
      have h0 := hT it (by simp [Op.operands])
      simp only [rdK] at hB
      simp only
      rw [← h0]
      split
      · rename_i K hK
        rw [hK] at hB
        rw [hB K (by simp [blkOf])]
      · rfl
  | extract t i => simp only; rw [hT t (by simp [Op.operands])]
  | call c =>
    obtain ⟨callee, args, argTypes⟩ := c
    have ha : evL st.tmps args.toList = evL st'.tmps args.toList := evL_local _ (fun x hx => hT x (by simp [Op.operands, Call.operands]; right; simpa using hx))
    cases callee with
    | value f => simp only; rw [hT f (by simp [Op.operands, Call.operands]), ha]
    | invoke r n => simp only; rw [hT r (by simp [Op.operands, Call.operands]), ha]
    | builtin b => simp only; rw [ha]; rfl
  | _ => rfl

theorem accOf_local (E : Env) (new i : Nat) (o : Oper) (T T' : List AV) (hT : ∀ x ∈ o.op.operands, evA T x = evA T' x) : accOf E new o T i = accOf E new o T' i := by
  obtain ⟨dst, op, type, pos, after, guard⟩ := o
  unfold accOf
  cases op with
  | load t x => simp only; rw [hT x (by simp [Op.operands])]
  | store t x y => simp only; rw [hT x (by simp [Op.operands])]
  | convert s d x => simp only; rw [hT x (by simp [Op.operands])]
  | next it isS => simp only; rw [hT it (by simp [Op.operands])]
  | call c =>
    obtain ⟨callee, args, argTypes⟩ := c
    cases callee with
    | value f => simp only; rw [hT f (by simp [Op.operands, Call.operands])]
    | invoke r n => rfl
    | builtin b => cases b <;> rfl
  | _ => rfl

theorem rdK_acc (E : Env) (new i : Nat) (o : Oper) (T : List AV) : ∀ K ∈ rdK o T, K ∈ (accOf E new o T i).rd ∨ K ∈ (accOf E new o T i).wr := by
  obtain ⟨dst, op, type, pos, after, guard⟩ := o
  intro K hK
  unfold rdK at hK
  unfold accOf
  cases op <;> simp only at hK ⊢ <;> first | exact .inl hK | exact .inr hK | (simp at hK)

theorem storeK_some {P : Program} {H : List Blk} {t : TypeId} {a v : AV} {res : Res} (h : storeK P H t a v some = some res) : ∃ K b, res = .wr K b (.tup []) ∧ K ∈ blkOf a := by
  unfold storeK AV.ptrK at h
  split at h <;> (try (cases h; done))
  rename_i p
  simp only at h
  split at h <;> (try (cases h; done))
  split at h <;> (try (cases h; done))
  obtain ⟨_, h⟩ := some_cond h
  obtain ⟨_, h⟩ := some_cond h
  obtain ⟨_, h⟩ := some_cond h
  injection h with h
  exact ⟨_, _, h.symm, by simp [blkOf]⟩

theorem buildSliceK_some {P : Program} {t : TypeId} {n : Nat} {ps : List (Nat × AV)} {res : Res} (h : buildSliceK P t n ps some = some res) : ∃ b vf, res = .new b vf := by
  unfold buildSliceK at h
  split at h <;> (try (cases h; done))
  split at h <;> (try (cases h; done))
  rename_i sz z _ _
  obtain ⟨_, h⟩ := some_cond h
  obtain ⟨_, h⟩ := some_cond h
  obtain ⟨_, h⟩ := some_cond h
  rw [fillK_bind] at h
  cases hq : fillK P (fun i => some (i * sz, sz)) (repCells n (cellsOf z)) ps some with
  | none => rw [hq] at h; cases h
  | some cs => rw [hq] at h; injection h with h; exact ⟨_, _, h.symm⟩

/-- Which operations bring about what. -/
def KindOk (o : Oper) (T : List AV) : Res → Prop
  | .val _ => True
  | .new _ _ => isNew o = true
  | .wr K _ _ => (∃ t a x, o.op = .store t a x ∧ K ∈ blkOf (evA T a)) ∨ (∃ a, o.op = .next a true ∧ K ∈ blkOf (evA T a))
  | .call f _ => (∃ c g p q, o.op = .call c ∧ c.callee = .value g ∧ evA T g = .fn f p q) ∨ (∃ c r n, o.op = .call c ∧ c.callee = .invoke r n)

theorem opV_kind {E : Env} {o : Oper} {st : St} {res : Res} (h : opV E o st = some res) : KindOk o st.tmps res := by
  obtain ⟨dst, op, type, pos, after, guard⟩ := o
  unfold opV opK at h
  cases op with
  | move x => injection h with h; subst h; trivial
  | assign x => injection h with h; subst h; trivial
  | pick c x y => simp only at h; obtain ⟨b', _, h⟩ := boolK_some h; cases b' <;> (injection h with h; subst h; trivial)
  | alloc t =>
    simp only at h
    split at h <;> (try (cases h; done))
    obtain ⟨_, h⟩ := some_cond h
    injection h with h; subst h; rfl
  | box t x => simp only at h; obtain ⟨_, h⟩ := some_cond h; injection h with h; subst h; rfl
  | build t ps => simp only at h; rw [buildK_bind] at h; obtain ⟨v, _, rfl⟩ := bind_val h; trivial
  | buildSlice t n ps => simp only at h; obtain ⟨b, vf, rfl⟩ := buildSliceK_some h; rfl
  | load t x => simp only at h; rw [loadK_bind] at h; obtain ⟨v, _, rfl⟩ := bind_val h; trivial
  | store t x y => simp only at h; obtain ⟨K, b, rfl, hK⟩ := storeK_some h; exact .inl ⟨t, x, y, rfl, hK⟩
  | nilCheck x =>
    simp only at h
    split at h <;> (try (cases h; done))
    · injection h with h; subst h; trivial
    · injection h with h; subst h; trivial
  | binOp op t x y yt => simp only at h; rw [binK_bind] at h; obtain ⟨v, _, rfl⟩ := bind_val h; trivial
  | unOp op t x => simp only at h; rw [unK_bind] at h; obtain ⟨v, _, rfl⟩ := bind_val h; trivial
  | convert s d x => simp only at h; rw [convK_bind] at h; obtain ⟨v, _, rfl⟩ := bind_val h; trivial
  | makeInterface t x =>
    simp only at h
    split at h <;> (try (cases h; done))
    injection h with h; subst h; trivial
  | makeFunc f p q =>
    cases f with
    | func f => injection h with h; subst h; trivial
    | _ => cases h
  | slice t x lo hi mx => simp only at h; rw [sliceK_bind] at h; obtain ⟨v, _, rfl⟩ := bind_val h; trivial
  | fieldAddr t x f => simp only at h; rw [fieldAddrK_bind] at h; obtain ⟨v, _, rfl⟩ := bind_val h; trivial
  | field t x f => simp only at h; rw [fieldK_bind] at h; obtain ⟨v, _, rfl⟩ := bind_val h; trivial
  | indexAddr t x i => simp only at h; rw [indexAddrK_bind] at h; obtain ⟨v, _, rfl⟩ := bind_val h; trivial
  | index t x i => simp only at h; rw [indexK_bind] at h; obtain ⟨v, _, rfl⟩ := bind_val h; trivial
  | range t x =>
    simp only at h
    split at h <;> (try (cases h; done))
    injection h with h; subst h; rfl
  | next it isS =>
    cases isS with
    | false => cases h
    | true =>
      simp only at h
      split at h <;> (try (cases h; done))
      rename_i K hK
      split at h <;> (try (cases h; done))
      rename_i s p _
      cases hb : Nat.blt p s.size <;> rw [hb] at h <;> (injection h with h; subst h)
      · trivial
      · exact .inr ⟨it, rfl, by rw [hK]; simp [blkOf]⟩
  | extract t i =>
    simp only at h
    obtain ⟨_, _, h⟩ := tupK_some h
    obtain ⟨_, h⟩ := some_cond h
    injection h with h; subst h; trivial
  | call c =>
    obtain ⟨callee, cargs, argTypes⟩ := c
    cases callee with
    | value fo =>
      simp only at h
      split at h <;> (try (cases h; done))
      rename_i g p q hg
      split at h
      · obtain ⟨_, h⟩ := some_cond h; injection h with h; subst h; trivial
      · obtain ⟨_, h⟩ := some_cond h
        injection h with h; subst h
        exact .inl ⟨_, fo, p, q, rfl, rfl, hg⟩
    | invoke r n =>
      simp only at h
      split at h <;> (try (cases h; done))
      split at h <;> (try (cases h; done))
      obtain ⟨_, h⟩ := some_cond h
      injection h with h; subst h
      exact .inr ⟨_, r, n, rfl, rfl⟩
    | builtin b =>
      simp only at h
      unfold builtinK at h
      split at h
      · split at h <;> (try (cases h; done))
        rw [lenK_bind] at h; obtain ⟨v, _, rfl⟩ := bind_val h; trivial
      · rw [maxK_bind] at h; obtain ⟨v, _, rfl⟩ := bind_val h; trivial
      · rw [maxK_bind] at h; obtain ⟨v, _, rfl⟩ := bind_val h; trivial
      · cases h
  | _ => cases h

theorem acc_new {E : Env} {new i : Nat} {o : Oper} {st : St} {b : Blk} {vf : Nat → AV} (h : opV E o st = some (.new b vf)) : new ∈ (accOf E new o st.tmps i).wr ∧ isNew o = true := by
  have hn : isNew o = true := opV_kind h
  refine ⟨?_, hn⟩
  obtain ⟨dst, op, type, pos, after, guard⟩ := o
  unfold isNew at hn
  unfold accOf
  cases op <;> simp only at hn ⊢ <;> first | exact List.mem_cons_self .. | cases hn

theorem acc_wr {E : Env} {new i : Nat} {o : Oper} {st : St} {K : Nat} {b : Blk} {v : AV} (h : opV E o st = some (.wr K b v)) : K ∈ (accOf E new o st.tmps i).wr := by
  rcases opV_kind h with ⟨t, a, x, h1, h2⟩ | ⟨a, h1, h2⟩
  · unfold accOf; rw [h1]; exact h2
  · unfold accOf; rw [h1]; exact h2

theorem acc_call {E : Env} {new i : Nat} {o : Oper} {st : St} {f : FuncId} {args : List AV} (h : opV E o st = some (.call f args)) (hP : E.isP f = false) : (accOf E new o st.tmps i).all = true := by
  rcases opV_kind h with ⟨c, g, p, q, h1, h2, h3⟩ | ⟨c, r, n, h1, h2⟩
  · unfold accOf; rw [h1]; simp only; rw [h2]; simp only; rw [h3]; simp only; rw [hP]; rfl
  · unfold accOf; rw [h1]; simp only; rw [h2]

end Go.Proofs.YtbikcndldcfffaaDoor.Sim
