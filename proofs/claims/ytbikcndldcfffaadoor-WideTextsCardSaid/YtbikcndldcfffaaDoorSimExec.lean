/- The machine runs a region of operations, code, a function as the abstract run says. Condition: none beyond what each theorem says. -/
import Derived.Test.YtbikcndldcfffaaDoorSimOps7
import Derived.LoopN
namespace Go.Proofs.YtbikcndldcfffaaDoor.Sim
open Go.RowKit

/-- What is told of calls is true. -/
def CpOk (P : Program) (cp : FuncId → List AV → Option AV) : Prop :=
  ∀ f args v, cp f args = some v → v.pure = true ∧ ∀ (m : BM) (vs : List Value) (w : World), VRs m args vs →
    Calls P f vs.toArray w fun e w' => ∃ v', e = .returned v' ∧ VR m v v' ∧ Below w.heap.size w w'

def Keep (lim : Nat) (H H' : List Blk) : Prop := H.length ≤ H'.length ∧ ∀ K, K < lim → blk H' K = blk H K

theorem Keep.refl (lim : Nat) (H : List Blk) : Keep lim H H := ⟨Nat.le_refl _, fun _ _ => rfl⟩
theorem Keep.trans {lim : Nat} {a b c : List Blk} (h : Keep lim a b) (h' : Keep lim b c) : Keep lim a c := ⟨Nat.le_trans h.1 h'.1, fun K hK => (h'.2 K hK).trans (h.2 K hK)⟩

/-- What a call that is run in place comes to: one value, one heap, whatever the world. -/
def CallsTo (P : Program) (lim : Nat) (f : FuncId) (args : List AV) (H : List Blk) (v : AV) (H' : List Blk) : Prop :=
  ∀ B w0 m w vs, VRs m args vs → Sim B w0 m H w → lim ≤ H.length →
    Calls P f vs.toArray w fun e w' => ∃ v' m', e = .returned v' ∧ m.le m' ∧ VR m' v v' ∧ Sim B w0 m' H' w' ∧ Keep lim H H'

def CiOk (P : Program) (ci : Nat → FuncId → List AV → List Blk → (AV → List Blk → Option AV) → Option AV) : Prop :=
  ∀ lim f args H k r, ci lim f args H k = some r → lim ≤ H.length → ∃ v H', k v H' = some r ∧ lim ≤ H'.length ∧ CallsTo P lim f args H v H'

structure Good (E : Env) : Prop where
  sound : Sound E
  cp : CpOk E.P E.cp
  ci : CiOk E.P E.ci
  mix : E.P.follows .mixedOrders = true
  lim : E.cut = [] ∨ E.lim = 0

/-- From one state of the run to a later one. -/
structure Later (E : Env) (m : BM) (st : St) (m' : BM) (st' : St) : Prop where
  lim : E.lim ≤ st'.heap.length
  keep : E.cut = [] → m.le m' ∧ Keep E.lim st.heap st'.heap

theorem Later.refl {E : Env} {m : BM} {st : St} (h : E.lim ≤ st.heap.length) : Later E m st m st := ⟨h, fun _ => ⟨m.le_refl, .refl _ _⟩⟩
theorem Later.trans {E : Env} {m m' m'' : BM} {st st' st'' : St} (h : Later E m st m' st') (h' : Later E m' st' m'' st'') : Later E m st m'' st'' :=
  ⟨h'.lim, fun e => ⟨BM.le_trans (h.keep e).1 (h'.keep e).1, (h.keep e).2.trans (h'.keep e).2⟩⟩
theorem Later.tmps {E : Env} {m m' : BM} {st st' : St} {T : List AV} (h : Later E m ⟨T, st.heap⟩ m' st') : Later E m st m' st' := ⟨h.lim, h.keep⟩
theorem Later.tmps' {E : Env} {m m' : BM} {st st' : St} {T : List AV} (h : Later E m st m' st') : Later E m st m' ⟨T, st'.heap⟩ := ⟨h.lim, h.keep⟩

theorem vrs_setN_same {m : BM} : ∀ {x : List AV} {v : List Value}, VRs m x v → ∀ i {y : AV}, VR m y (v.getD i undef) → VRs m (setN x i y) v
  | _, _, .nil, i, _, _ => .nil
  | _, _, .cons _ _ _ _ _ hs, 0, _, hy => .cons _ _ _ _ hy hs
  | _, _, .cons _ _ _ _ h hs, i + 1, _, hy => .cons _ _ _ _ h (vrs_setN_same hs i (by simpa using hy))

theorem vrs_lit {m : BM} {T : List AV} {a : Act} (h : VRs m T a.tmps.toList) {t : Nat} {b : Bool} (hb : nth T t = .bool b) : VRs m (setN T t (.bool b)) a.tmps.toList := by
  refine vrs_setN_same h t ?_
  have := vrs_nth h t
  rw [hb] at this
  exact this

theorem setN_same : ∀ (T : List AV) (i : Nat) (x : AV), nth T i = x → x ≠ .junk → setN T i x = T
  | [], _, _, _, _ => rfl
  | _ :: _, 0, _, h, _ => by simp only [nth] at h; simp [setN, h]
  | y :: T, i + 1, x, h, hj => by simp only [nth] at h; simp [setN, setN_same T i x h hj]

/-! ### the guard -/
def gA (all : Array Oper) (o : Oper) (T : List AV) : Option Bool :=
  match o.guard with
  | none => some true
  | some (j, want) =>
    match (all[j]?).bind (·.dst) with
    | none => some false
    | some d =>
      match nth T d with
      | .bool b => some (b == want)
      | .tup [] => some false
      | _ => none

theorem guardK_gA {R : Type} {all : Array Oper} {o : Oper} {T : List AV} {yes no : List AV → Option R} {r : R} (h : guardK all o T yes no = some r) :
    (gA all o T = some true ∧ yes T = some r) ∨ (gA all o T = some false ∧ no T = some r) := by
  unfold guardK at h
  unfold gA
  cases hg : o.guard with
  | none => rw [hg] at h; exact .inl ⟨rfl, h⟩
  | some jw =>
    obtain ⟨j, want⟩ := jw
    rw [hg] at h
    simp only at h ⊢
    cases hd : (all[j]?).bind (·.dst) with
    | none => rw [hd] at h; exact .inr ⟨rfl, h⟩
    | some d =>
      rw [hd] at h
      simp only at h ⊢
      split at h
      · rename_i b hb
        have hs := setN_same T d _ hb (by simp)
        simp only [hb]
        cases b <;> cases want <;> simp only [cond] at h <;> rw [hs] at h
        · exact .inl ⟨rfl, h⟩
        · exact .inr ⟨rfl, h⟩
        · exact .inr ⟨rfl, h⟩
        · exact .inl ⟨rfl, h⟩
      · rename_i hu
        simp only [hu]
        exact .inr ⟨trivial, h⟩
      · cases h

theorem wanted_of {m : BM} {all : Array Oper} {o : Oper} {T : List AV} {a : Act} (hT : VRs m T a.tmps.toList) {b : Bool} (h : gA all o T = some b) : Region.wanted o (yielded all a.tmps) = b := by
  unfold gA at h
  unfold Region.wanted
  cases hg : o.guard with
  | none => rw [hg] at h; injection h
  | some jw =>
    obtain ⟨j, want⟩ := jw
    rw [hg] at h
    simp only at h ⊢
    unfold yielded
    cases hd : (all[j]?).bind (·.dst) with
    | none =>
      rw [hd] at h
      simp only at h
      cases h
      simp
    | some d =>
      rw [hd] at h
      simp only at h
      have hn := vrs_nth hT d
      split at h
      · rename_i c hb
        injection h with h; subst h
        rw [hb] at hn
        have hv := vr_bool hn
        have hget : a.tmps[d]? = some (.bool c) := by
          have : a.tmps.toList.getD d undef = .bool c := hv
          cases hq : a.tmps[d]? with
          | none => simp [List.getD, hq, undef] at this
          | some u => simp [List.getD, hq] at this; rw [this]
        simp only [Option.bind_some, hget]
        cases c <;> cases want <;> rfl
      · rename_i hu
        injection h with h; subst h
        rw [hu] at hn
        obtain ⟨vs, hvs, hvs'⟩ := vr_tup hn
        cases hvs'
        simp only [Option.bind_some]
        cases hq : a.tmps[d]? with
        | none => simp
        | some u =>
          have : a.tmps.toList.getD d undef = .tuple #[] := hvs
          simp [List.getD, hq] at this
          rw [this]; simp
      · cases h

/-! ### a call -/
mutual
theorem cast_of {R : Type} : ∀ (s : Shape) (v : AV) (k : AV → Option R) (r : R), castK s v k = some r → ∃ v', k v' = some r ∧ v' = v
  | .any, v, k, r, h => ⟨v, h, rfl⟩
  | .int kd, v, k, r, h => by
    unfold castK AV.intK at h
    split at h
    · obtain ⟨h1, h⟩ := some_cond h
      rename_i k' n _
      have h1 : k' = kd := by simpa using h1
      subst h1; exact ⟨_, h, rfl⟩
    · cases h
  | .bool, v, k, r, h => by
    unfold castK at h
    obtain ⟨b, rfl, h⟩ := boolK_some h
    exact ⟨_, h, rfl⟩
  | .str, v, k, r, h => by
    unfold castK AV.strK at h
    split at h
    · exact ⟨_, h, rfl⟩
    · cases h
  | .arr, v, k, r, h => by
    unfold castK AV.aggK at h
    split at h
    · exact ⟨_, h, rfl⟩
    · cases h
  | .agg l, v, k, r, h => by
    unfold castK AV.aggK at h
    split at h
    · obtain ⟨cs, h1, h2⟩ := castL_of l _ _ r h
      subst h2; exact ⟨_, h1, rfl⟩
    · cases h
  | .tup l, v, k, r, h => by
    unfold castK AV.tupK at h
    split at h
    · obtain ⟨cs, h1, h2⟩ := castL_of l _ _ r h
      subst h2; exact ⟨_, h1, rfl⟩
    · cases h
theorem castL_of {R : Type} : ∀ (s : List Shape) (v : List AV) (k : List AV → Option R) (r : R), castL s v k = some r → ∃ v', k v' = some r ∧ v' = v
  | [], v, k, r, h => by
    unfold castL nilK at h
    split at h
    · exact ⟨_, h, rfl⟩
    · cases h
  | s :: ss, v, k, r, h => by
    unfold castL consK at h
    split at h
    · obtain ⟨x, h1, rfl⟩ := cast_of s _ _ r h
      obtain ⟨xs, h2, rfl⟩ := castL_of ss _ _ r h1
      exact ⟨_, h2, rfl⟩
    · cases h
end

theorem Sim.later {B : Nat} {w0 : World} {m : BM} {H : List Blk} {w w' : World} (h : Sim B w0 m H w) (hb : Below w.heap.size w w') : Sim B w0 m H w' := by
  refine ⟨h.inj, fun K r hK => ?_, h.below.trans (hb.mono (Nat.le_trans h.base h.below.size)), h.base⟩
  obtain ⟨a1, a2, a3, a4⟩ := h.ok K r hK
  exact ⟨a1, a2, Nat.lt_of_lt_of_le a3 hb.size, by rw [hb.block r a3]; exact a4⟩

/-- A call, told of or run in place. -/
theorem call_of {E : Env} (hG : Good E) {f : FuncId} {args : List AV} {H : List Blk} {k : AV → List Blk → Option AV} {r : AV} (h : callE E f args H k = some r) (hl : E.lim ≤ H.length) :
    ∃ v H', k v H' = some r ∧ E.lim ≤ H'.length ∧ CallsTo E.P E.lim f args H v H' := by
  unfold callE at h
  cases hP : E.isP f with
  | true =>
    rw [hP] at h
    obtain ⟨hp, h⟩ := some_cond h
    cases hc : E.cp f args with
    | none => rw [hc] at h; cases h
    | some v =>
      rw [hc] at h
      simp only [Option.bind_some] at h
      obtain ⟨v', h1, rfl⟩ := cast_of _ _ _ _ h
      obtain ⟨hv, hcall⟩ := hG.cp f args v' hc
      refine ⟨v', H, h1, hl, fun B w0 m w vs ha hs _ => (hcall m vs w ha).mono fun e w' ⟨u, he, hu, hb⟩ => ?_⟩
      exact ⟨u, m, he, m.le_refl, hu, hs.later hb, .refl _ _⟩
  | false =>
    rw [hP] at h
    exact hG.ci E.lim f args H k r h hl

theorem upon_done {P : Program} {o : Oper} {a : Act} {w : World} {K : Act → World → Prop} {Q : Exit → Act → World → Prop} {n : Next} {v : Value} (hd : Done n v) (h : K (a.put o.dst v) w) : o.upon P a K Q (.ok n w) := by
  rcases hd with rfl | ⟨rfl, rfl⟩ <;> exact h

/-- What is true of the machine where the abstract run goes from one state to another. -/
def Goes (E : Env) (st st' : St) (wp : (Act → World → Prop) → Act → World → Prop) : Prop :=
  ∀ B w0 m a w, Rel B w0 m st a w → E.lim ≤ st.heap.length → ∀ K : Act → World → Prop, (∀ m' a' w', Rel B w0 m' st' a' w' → Later E m st m' st' → K a' w') → wp K a w

/-- One operation. -/
theorem exec_of {E : Env} (hG : Good E) {o : Oper} {st : St} {k : St → Option AV} {r : AV} (h : execK E o st k = some r) (hl : E.lim ≤ st.heap.length) :
    ∃ st', k st' = some r ∧ E.lim ≤ st'.heap.length ∧ ∀ Q, Goes E st st' (fun K a w => o.wp E.P a w K Q) := by
  unfold execK at h
  rw [opK_bind] at h
  cases hres : opV E o st with
  | none => rw [hres] at h; cases h
  | some res =>
    rw [hres] at h
    simp only [Option.bind_some] at h
    cases res with
    | val v =>
      refine ⟨_, h, hl, fun Q B w0 m a w hr hl K hk => ?_⟩
      obtain ⟨n, v', h1, h2, h3⟩ := opV_sound hG.sound hr o hres
      show o.upon E.P a K Q _
      rw [h1]
      exact upon_done h2 (hk m _ _ ⟨vrs_putO hr.tmps _ h3, hr.sim, by rw [put_defers]; exact hr.defers⟩ (Later.refl hl).tmps')
    | new b vf =>
      refine ⟨_, h, by simp; omega, fun Q B w0 m a w hr hl K hk => ?_⟩
      obtain ⟨v', obj, h1, h2⟩ := opV_sound hG.sound hr o hres
      show o.upon E.P a K Q _
      rw [h1]
      have hnone : m st.heap.length = none := by
        cases hq : m st.heap.length with
        | none => rfl
        | some r' => have := (hr.sim.ok _ _ hq).1; omega
      obtain ⟨h3, h4⟩ := h2 (m.put st.heap.length w.heap.size) st.heap.length (BM.le_put hnone) (by simp [BM.put])
      refine upon_done (.inl rfl) (hk (m.put st.heap.length w.heap.size) _ _ ⟨vrs_putO (hr.tmps.mono (BM.le_put hnone)) _ h4, ?_, by rw [put_defers]; exact hr.defers⟩ ?_)
      · exact hr.sim.new st.heap.length b obj hnone (by simp) (fun K' hK' _ => blk_append_lt _ _ _ hK') (by simp) (blk_append_at _ _) h3
      · exact ⟨by simp; omega, fun _ => ⟨BM.le_put hnone, by simp, fun K hK => blk_append_lt _ _ _ (by omega)⟩⟩
    | wr K b v =>
      obtain ⟨hlim, h⟩ := some_cond h
      refine ⟨_, h, by rw [length_setB]; exact hl, fun Q B w0 m a w hr hl K' hk => ?_⟩
      obtain ⟨n, v', w', r', h1, h2, h3, h4, h5, h6, h7, h8, h9, h10⟩ := opV_sound hG.sound hr o hres
      show o.upon E.P a K' Q _
      rw [h1]
      refine upon_done h2 (hk m _ _ ⟨vrs_putO hr.tmps _ h3, hr.sim.wr K r' b h4 h5 h6 h7 h8 h9 h10, by rw [put_defers]; exact hr.defers⟩ ?_)
      have hle : E.lim ≤ K := Nat.le_of_ble_eq_true hlim
      exact ⟨by rw [length_setB]; exact hl, fun _ => ⟨m.le_refl, by rw [length_setB]; exact Nat.le_refl _, fun K' hK' => blk_setB_ne _ _ _ _ (by omega)⟩⟩
    | call f args =>
      obtain ⟨v, H', hk', hl', hcalls⟩ := call_of hG h hl
      refine ⟨_, hk', hl', fun Q B w0 m a w hr hl K hk => ?_⟩
      obtain ⟨vs, h1, h2⟩ := opV_sound hG.sound hr o hres
      show o.upon E.P a K Q _
      rw [h1]
      refine (hcalls B w0 m w vs h2 hr.sim hl).mono fun e w' ⟨v', m', he, hm, hv, hs, hkeep⟩ => ?_
      subst he
      exact hk m' _ _ ⟨vrs_putO (hr.tmps.mono hm) _ hv, hs, by rw [put_defers]; exact hr.defers⟩ ⟨hl', fun _ => ⟨hm, hkeep⟩⟩

theorem Goes.seq {E : Env} {st st' st'' : St} {wp wp' : (Act → World → Prop) → Act → World → Prop} (h : Goes E st st' wp) (h' : Goes E st' st'' wp') : Goes E st st'' (fun K => wp (fun a w => wp' K a w)) :=
  fun B w0 m a w hr hl K hk => h B w0 m a w hr hl _ fun m' a' w' hr' hla => h' B w0 m' a' w' hr' hla.lim K fun m'' a'' w'' hr'' hla' => hk m'' a'' w'' hr'' (hla.trans hla')

/-- A region's operations, in their order. -/
theorem ops_of {E : Env} (hG : Good E) (all : Array Oper) : ∀ (os : List Oper) (i : Nat) (st : St) (k : St → Option AV) (r : AV), (∀ j, os[j]? = all[i + j]?) → opsK E all os st k = some r → E.lim ≤ st.heap.length →
    ∃ st', k st' = some r ∧ E.lim ≤ st'.heap.length ∧ ∀ Q : Exit → Act → World → Prop, Goes E st st' (fun K a w => wpOps E.P all (Exit.then K Q) (List.range' i os.length) a w)
  | [], i, st, k, r, _, h, hl => ⟨st, h, hl, fun Q B w0 m a w hr hl K hk => hk m a w hr (.refl hl)⟩
  | o :: os, i, st, k, r, hall, h, hl => by
    have h0 : all[i]? = some o := by have := hall 0; simpa using this.symm
    have hrest : ∀ j, os[j]? = all[i + 1 + j]? := fun j => by have := hall (j + 1); simpa [Nat.add_assoc, Nat.add_comm 1] using this
    unfold opsK at h
    rcases guardK_gA h with ⟨hg, h⟩ | ⟨hg, h⟩
    · obtain ⟨st1, h1, hl1, h2⟩ := exec_of hG h hl
      obtain ⟨st2, h3, hl2, h4⟩ := ops_of hG all os (i + 1) st1 k r hrest h1 hl1
      refine ⟨st2, h3, hl2, fun Q B w0 m a w hr hl K hk => ?_⟩
      simp only [List.length_cons, List.range'_succ, wpOps, h0]
      rw [if_pos (wanted_of hr.tmps hg)]
      refine .inl (h2 (Exit.then K Q) B w0 m a w hr hl _ fun m' a' w' hr' hla => ?_)
      exact h4 Q B w0 m' a' w' hr' hla.lim K fun m'' a'' w'' hr'' hla' => hk m'' a'' w'' hr'' (hla.trans hla')
    · obtain ⟨st2, h3, hl2, h4⟩ := ops_of hG all os (i + 1) _ k r hrest h hl
      refine ⟨st2, h3, hl2, fun Q B w0 m a w hr hl K hk => ?_⟩
      simp only [List.length_cons, List.range'_succ, wpOps, h0]
      rw [if_neg (by rw [wanted_of hr.tmps hg]; exact Bool.false_ne_true)]
      exact h4 Q B w0 m _ w ⟨vrs_putO hr.tmps _ (vr_undef m), hr.sim, by rw [put_defers]; exact hr.defers⟩ hl K fun m'' a'' w'' hr'' hla' => hk m'' a'' w'' hr'' hla'.tmps

end Go.Proofs.YtbikcndldcfffaaDoor.Sim
