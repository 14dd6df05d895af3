/- A region that draws its order comes to what the order of its text comes to. Condition: none beyond what the theorem says. -/
import Derived.Test.YtbikcndldcfffaaDoorSimDraw4
namespace Go.Proofs.YtbikcndldcfffaaDoor.Sim
open Go.RowKit

mutual
theorem VR.back {m m' : BM} (hm : m.le m') : ∀ {x : AV} {v v' : Value}, VR m x v → VR m' x v' → VR m x v'
  | _, _, _, .junk _, h => by cases h; exact .junk _
  | _, _, _, .bool b, h => by cases h; exact .bool b
  | _, _, _, .int k n, h => by cases h; exact .int k n
  | _, _, _, .str s, h => by cases h; exact .str s
  | _, _, _, .ptr0, h => by cases h; exact .ptr0
  | _, _, _, .ptr K o r hr, h => by
    cases h
    rename_i r' hr'
    have := hm K r hr
    rw [this] at hr'; injection hr' with hr'; subst hr'
    exact .ptr K o r hr
  | _, _, _, .sl0 l c, h => by cases h; exact .sl0 l c
  | _, _, _, .sl K o r l c hr, h => by
    cases h
    rename_i r' hr'
    have := hm K r hr
    rw [this] at hr'; injection hr' with hr'; subst hr'
    exact .sl K o r l c hr
  | _, _, _, .fn f a b va vb ha hb, h => by
    cases h
    rename_i va' vb' ha' hb'
    exact .fn f a b va' vb' (VRs.back hm ha ha') (VRs.back hm hb hb')
  | _, _, _, .nilFn, h => by cases h; exact .nilFn
  | _, _, _, .iface t x v hv, h => by
    cases h
    rename_i v' hv'
    exact .iface t x v' (VR.back hm hv hv')
  | _, _, _, .nilI, h => by cases h; exact .nilI
  | _, _, _, .agg cs vs hv, h => by
    cases h
    rename_i vs' hv'
    exact .agg cs vs' (VRs.back hm hv hv')
  | _, _, _, .tup cs vs hv, h => by
    cases h
    rename_i vs' hv'
    exact .tup cs vs' (VRs.back hm hv hv')
theorem VRs.back {m m' : BM} (hm : m.le m') : ∀ {x : List AV} {v v' : List Value}, VRs m x v → VRs m' x v' → VRs m x v'
  | _, _, _, .nil, h => by cases h; exact .nil
  | _, _, _, .cons x v xs vs hx hs, h => by
    cases h
    rename_i u us hu hus
    exact .cons x u xs us (VR.back hm hx hu) (VRs.back hm hs hus)
end

theorem br_back {m m' : BM} (hm : m.le m') {b : Blk} {o o' : Option Obj} (h : BR m b o) (h' : BR m' b o') : BR m b o' := by
  cases b with
  | dead => trivial
  | cells t cs =>
    obtain ⟨vs, e, fr, h1, h2, h3⟩ := h
    obtain ⟨vs', e', fr', h1', h2', h3'⟩ := h'
    exact ⟨vs', e', fr', h1', VRs.back hm h2 h2', h3'⟩
  | iter s pos => exact h'

theorem step_any {E : Env} (hG : Good E) {ops : Array Oper} {base i : Nat} {o : Oper} {st : St} {d : Dsc} (ho : ops[i]? = some o) (hd : Does E ops (base + i) o st d) (_hlb : E.lim ≤ base) (_hll : E.lim ≤ st.heap.length)
    {B : Nat} {w0 : World} {m : BM} {a : Act} {w : World} (hr : Rel B w0 m st a w) (hn : isNew o = true → m (base + i) = none ∧ base + i < st.heap.length)
    {K : Act → World → Prop} {Q : Exit → Act → World → Prop}
    (hk : ∀ m' a' w', Rel B w0 m' (app o d st) a' w' → m.le m' → (∀ K', K' ≠ base + i → m K' = none → m' K' = none) → K a' w') : wpOp E.P ops Q i K a w := by
  unfold wpOp
  rw [ho]
  simp only
  cases d with
  | skip =>
    rw [if_neg (by rw [wanted_of hr.tmps hd]; exact Bool.false_ne_true)]
    exact hk m _ _ ⟨vrs_putO hr.tmps _ (vr_undef m), hr.sim, by rw [put_defers]; exact hr.defers⟩ m.le_refl (fun _ _ h => h)
  | eff v u =>
    obtain ⟨hg, he⟩ := hd
    rw [if_pos (wanted_of hr.tmps hg)]
    left
    show o.upon E.P a K Q _
    rcases he with ⟨h1, rfl⟩ | ⟨b, vf, h1, rfl, rfl⟩ | ⟨K', b, h1, hle, rfl⟩ | ⟨f, args, h1, rfl, hP, hp, hc⟩ | ⟨f, args, H', h1, rfl, hP, hp, hc⟩
    · obtain ⟨n, v', q1, q2, q3⟩ := opV_sound hG.sound hr o h1
      rw [q1]
      exact upon_done q2 (hk m _ _ ⟨vrs_putO hr.tmps _ q3, hr.sim, by rw [put_defers]; exact hr.defers⟩ m.le_refl (fun _ _ h => h))
    · obtain ⟨v', obj, q1, q2⟩ := opV_sound hG.sound hr o h1
      rw [q1]
      obtain ⟨hnone, hlt⟩ := hn (opV_kind h1)
      obtain ⟨h3, h4⟩ := q2 (m.put (base + i) w.heap.size) (base + i) (BM.le_put hnone) (by simp [BM.put])
      refine upon_done (.inl rfl) (hk (m.put (base + i) w.heap.size) _ _ ⟨vrs_putO (hr.tmps.mono (BM.le_put hnone)) _ h4, ?_, by rw [put_defers]; exact hr.defers⟩ (BM.le_put hnone) (fun K' hne h => by simp [BM.put, hne, h]))
      exact hr.sim.new (base + i) b obj hnone (by show base + i < (setB st.heap (base + i) b).length; rw [length_setB]; exact hlt) (fun K' _ hne => blk_setB_ne _ _ _ _ hne) (by show st.heap.length ≤ (setB st.heap (base + i) b).length; rw [length_setB]; exact Nat.le_refl _)
        (blk_setB_at _ _ _ hlt) h3
    · obtain ⟨n, v', w', r', q1, q2, q3, q4, q5, q6, q7, q8, q9, q10⟩ := opV_sound hG.sound hr o h1
      rw [q1]
      exact upon_done q2 (hk m _ _ ⟨vrs_putO hr.tmps _ q3, hr.sim.wr K' r' b q4 q5 q6 q7 q8 q9 q10, by rw [put_defers]; exact hr.defers⟩ m.le_refl (fun _ _ h => h))
    · obtain ⟨vs, q1, q2⟩ := opV_sound hG.sound hr o h1
      rw [q1]
      refine ((hG.cp f args v hc).2 m vs w q2).mono fun e w' ⟨u, he, hu, hb⟩ => ?_
      subst he
      exact hk m _ _ ⟨vrs_putO hr.tmps _ hu, hr.sim.later hb, by rw [put_defers]; exact hr.defers⟩ m.le_refl (fun _ _ h => h)
    · obtain ⟨vs, q1, q2⟩ := opV_sound hG.sound hr o h1
      rw [q1]
      refine (hc B w0 m w vs q2 hr.sim (Nat.le_refl _)).mono fun e w' ⟨v', m', he, hm, hv, hs, hkeep⟩ => ?_
      subst he
      refine hk m _ _ ⟨vrs_putO hr.tmps _ (VR.ofPure hv hp), hs.sub hm fun K' r' hK' => ?_, by rw [put_defers]; exact hr.defers⟩ m.le_refl (fun _ _ h => h)
      obtain ⟨a1, a2, a3, a4⟩ := hr.sim.ok K' r' hK'
      refine ⟨a1, ?_⟩
      have hbr := (hs.ok K' r' (hm K' r' hK')).2.2.2
      rw [hkeep.2 K' a1] at hbr
      exact br_back hm a4 hbr

/-! ### counting what is left -/
def unl (S : Nat → Bool) : Nat → Nat
  | 0 => 0
  | n + 1 => unl S n + cond (S n) 0 1
theorem unl_zero {S : Nat → Bool} : ∀ {n : Nat}, unl S n = 0 → ∀ j, j < n → S j = true
  | n + 1, h, j, hj => by
    simp only [unl] at h
    cases hs : S n with
    | false => rw [hs] at h; simp at h
    | true =>
      rw [hs] at h
      by_cases e : j = n
      · subst e; exact hs
      · exact unl_zero (by simpa using h) j (by omega)
theorem unl_eq {S S' : Nat → Bool} : ∀ {n : Nat}, (∀ j, j < n → S' j = S j) → unl S' n = unl S n
  | 0, _ => rfl
  | n + 1, h => by simp only [unl]; rw [unl_eq (fun j hj => h j (by omega)), h n (by omega)]
theorem unl_put {S S' : Nat → Bool} {i : Nat} (h0 : S i = false) (h1 : S' i = true) (hs : ∀ j, j ≠ i → S' j = S j) : ∀ {n : Nat}, i < n → unl S' n + 1 = unl S n
  | n + 1, h => by
    simp only [unl]
    by_cases e : i = n
    · subst e
      rw [h0, h1, unl_eq (S := S) (S' := S') (fun j hj => hs j (by omega))]
      rfl
    · have := unl_put h0 h1 hs (n := n) (by omega)
      rw [hs n (fun e' => e e'.symm)]
      omega

theorem mem_ready {ops : Array Oper} {listed : Array Bool} {i : Nat} (h : i ∈ Region.ready .any ops listed) :
    ∃ o, ops[i]? = some o ∧ listed.getD i true = false ∧ ∀ e ∈ o.after.toList, Region.binds .any e = true → listed.getD e.on false = true := by
  unfold Region.ready at h
  obtain ⟨h1, h2⟩ := List.mem_filter.1 h
  simp only [Bool.and_eq_true, Bool.not_eq_true'] at h2
  have hi : i < ops.size := by simpa using h1
  refine ⟨ops[i], by simp [hi], h2.1, fun e he hb => ?_⟩
  have := h2.2
  rw [Array.getElem?_eq_getElem hi] at this
  simp only [Option.map_some, Option.getD_some] at this
  have := Array.all_eq_true_iff_forall_mem.1 this e (by simpa using he)
  rw [hb] at this
  simpa using this

theorem ready_nil {ops : Array Oper} {listed : Array Bool} (he : edgesOk 0 ops.toList = true) (hsz : listed.size = ops.size) (h : Region.ready .any ops listed = []) : ∀ j, j < ops.size → listed.getD j false = true := by
  intro j
  induction j using Nat.strongRecOn with
  | _ j ih =>
    intro hj
    cases hl : listed.getD j false with
    | true => rfl
    | false =>
      have hmem : j ∈ Region.ready .any ops listed := by
        unfold Region.ready
        refine List.mem_filter.2 ⟨by simpa using hj, ?_⟩
        have hlj : listed.getD j true = false := by
          rw [Array.getD_eq_getD_getElem?, Array.getElem?_eq_getElem (by omega)] at hl ⊢
          exact hl
        rw [hlj, Array.getElem?_eq_getElem hj]
        simp only [Bool.not_false, Bool.true_and, Option.map_some, Option.getD_some]
        refine Array.all_eq_true_iff_forall_mem.2 fun e hm => ?_
        cases hb : Region.binds .any e with
        | false => rfl
        | true =>
          have := (edgesOk_of he j ops[j] (by simp [hj])).1 e (by simpa using hm) hb
          simp only [Nat.zero_add] at this
          rw [ih e.on this (by omega)]
          rfl
      rw [h] at hmem; cases hmem

theorem any_order {E : Env} (hG : Good E) {ops : Array Oper} {base : Nat} {L : List (Oper × Dsc)} {st1 : St} {as : List Acc} (h : Told E ops base L st1 as) (hlb : E.lim ≤ base) (hll : E.lim ≤ st1.heap.length)
    (hplace : ∀ i o, ops[i]? = some o → isNew o = true → base + i < st1.heap.length) {B : Nat} {w0 : World} {m0 : BM}
    {Q : Exit → Act → World → Prop} (hk : ∀ m' a' w', Rel B w0 m' (runAll L st1) a' w' → m0.le m' → Q .normal a' w') :
    ∀ (fuel : Nat) (listed : Array Bool) (a : Act) (w : World) (m : BM), listed.size = ops.size → Closed ops.toList (fun j => listed.getD j false) → unl (fun j => listed.getD j false) ops.size = fuel →
      Rel B w0 m (foldS (fun j => listed.getD j false) 0 L st1) a w → m0.le m → (∀ j, listed.getD j false = false → m (base + j) = none) → wpAny E.P .any ops Q fuel listed a w := by
  have hlen : L.length = ops.size := by rw [h.len]; simp
  have done : ∀ (listed : Array Bool) (a : Act) (w : World) (m : BM), (∀ j, j < ops.size → listed.getD j false = true) → Rel B w0 m (foldS (fun j => listed.getD j false) 0 L st1) a w → m0.le m → Q .normal a w := by
    intro listed a w m hall hr hm
    rw [foldS_all _ L 0 st1 (fun i _ hi => hall i (by omega))] at hr
    exact hk m a w hr hm
  intro fuel
  induction fuel with
  | zero =>
    intro listed a w m hsz hS hu hr hm hnew
    have hall := unl_zero hu
    refine ⟨?_, done listed a w m hall hr hm⟩
    cases hq : Region.ready .any ops listed with
    | nil => rfl
    | cons i l =>
      have hi : i ∈ Region.ready .any ops listed := by rw [hq]; exact List.mem_cons_self ..
      obtain ⟨o, ho, h1, _⟩ := mem_ready hi
      have hlt : i < ops.size := (Array.getElem?_eq_some_iff.1 ho).1
      have hall' := hall i hlt
      rw [Array.getD_eq_getD_getElem?, Array.getElem?_eq_getElem (by omega)] at h1 hall'
      simp only [Option.getD_some] at h1 hall'
      rw [h1] at hall'; cases hall'
  | succ fuel ih =>
    intro listed a w m hsz hS hu hr hm hnew
    refine ⟨fun hnil => done listed a w m (ready_nil h.edges hsz hnil) hr hm, fun i hi => ?_⟩
    obtain ⟨o, ho, h1, h2⟩ := mem_ready hi
    have hlt : i < ops.size := (Array.getElem?_eq_some_iff.1 ho).1
    have h0 : listed.getD i false = false := by
      rw [Array.getD_eq_getD_getElem?, Array.getElem?_eq_getElem (by omega)] at h1 ⊢
      exact h1
    obtain ⟨p, hp⟩ : ∃ p, L[i]? = some p := ⟨L[i]'(by omega), List.getElem?_eq_getElem (by omega)⟩
    obtain ⟨o', d⟩ := p
    have hoo : o' = o := by
      have := h.get hp
      simp only [Array.getElem?_toList, ho] at this
      injection this with this; exact this.symm
    subst hoo
    have hdoes := h.doesAt hS hp h0 h2
    have hother : ∀ j, j ≠ i → (listed.setIfInBounds i true).getD j false = listed.getD j false := fun j hj => by
      simp [Array.getD_eq_getD_getElem?, Array.getElem?_setIfInBounds_ne (Ne.symm hj)]
    have hset : (listed.setIfInBounds i true).getD i false = true := by
      simp [Array.getD_eq_getD_getElem?, hsz, hlt]
    refine step_any hG ho hdoes hlb (by rw [foldS_heap_len]; exact hll) hr (fun hnw => ⟨hnew i h0, by rw [foldS_heap_len]; exact hplace i o' ho hnw⟩) fun m' a' w' hr' hle hnone => ?_
    refine ih (listed.setIfInBounds i true) a' w' m' (by simpa using hsz) ⟨fun j oj hj hsj e he hb => ?_⟩ ?_ ?_ (BM.le_trans hm hle) (fun j hj => ?_)
    · by_cases e0 : j = i
      · subst e0
        have hoj : oj = o' := by simp only [Array.getElem?_toList, ho] at hj; injection hj with hj; exact hj.symm
        subst hoj
        by_cases e1 : e.on = j
        · rw [e1]; exact hset
        · rw [hother _ e1]; exact h2 e he hb
      · rw [hother j e0] at hsj
        have := hS.out j oj hj hsj e he hb
        by_cases e1 : e.on = i
        · rw [e1]; exact hset
        · rw [hother _ e1]; exact this
    · have := unl_put (S := fun j => listed.getD j false) (S' := fun j => (listed.setIfInBounds i true).getD j false) h0 hset hother hlt
      omega
    · rw [h.put (S := fun j => listed.getD j false) hS hp h0 hset hother]
      exact hr'
    · have hji : j ≠ i := fun e => by rw [e, hset] at hj; cases hj
      rw [hother j hji] at hj
      exact hnone (base + j) (by omega) (hnew j hj)

theorem someNew_of : ∀ {os : List Oper} {i : Nat} {o : Oper}, os[i]? = some o → isNew o = true → someNew os = true
  | [], _, _, h, _ => by simp at h
  | p :: os, 0, o, h, hn => by simp at h; subst h; simp [someNew, hn]
  | p :: os, i + 1, o, h, hn => by simp [someNew, someNew_of (os := os) (by simpa using h) hn]

/-- A region that draws its order. -/
theorem draw_of {E : Env} (hG : Good E) {ops : Array Oper} {st : St} {k : St → Option AV} {r : AV} (h : drawK E ops st k = some r) (hl : E.lim ≤ st.heap.length) :
    ∃ st', k st' = some r ∧ E.lim ≤ st'.heap.length ∧ ∀ id (Q : Exit → Act → World → Prop), Goes E st st' (fun K a w => (Code.region id ops true).wp E.P (Exit.then K Q) a w) := by
  unfold drawK at h
  obtain ⟨hst, h⟩ := some_cond h
  simp only [drawSt, Bool.and_eq_true] at hst
  generalize hH1 : st.heap ++ cond (someNew ops.toList) (List.replicate ops.size Blk.dead) [] = H1 at h
  have hlen1 : st.heap.length ≤ H1.length := by rw [← hH1]; simp
  obtain ⟨L, as', h1, h2, h3, h4⟩ := trace_of hG ops.toList 0 [] ⟨st.tmps, H1⟩ _ r h
  obtain ⟨hnc, h2⟩ := some_cond h2
  have htold : Told E ops st.heap.length L ⟨st.tmps, H1⟩ as' := ⟨h1, hst.1, hst.2, hnc, fun j o d hj => by
    have := h4 j o d hj
    simpa using this⟩
  have hll : (runAll L ⟨st.tmps, H1⟩).heap.length = H1.length := by
    rw [← foldS_all (fun _ => true) L 0 _ (fun _ _ _ => rfl), foldS_heap_len]
  have hplace : ∀ i o, ops[i]? = some o → isNew o = true → st.heap.length + i < H1.length := fun i o ho hn => by
    have hi : i < ops.size := (Array.getElem?_eq_some_iff.1 ho).1
    have hs : someNew ops.toList = true := someNew_of (i := i) (by simpa using ho) hn
    rw [← hH1, hs]
    simp
    omega
  refine ⟨_, h2, by rw [hll]; omega, fun id Q B w0 m a w hr _ K hk => ?_⟩
  have hsim1 : Sim B w0 m H1 w := ⟨hr.sim.inj, fun K' r' hK' => by
    obtain ⟨a1, a2, a3, a4⟩ := hr.sim.ok K' r' hK'
    refine ⟨by omega, a2, a3, ?_⟩
    rw [← hH1, blk_append_lt _ _ _ a1]
    exact a4, hr.sim.below, hr.sim.base⟩
  refine wp_region_any hG.mix ?_
  refine any_order (B := B) (w0 := w0) hG htold hl (Nat.le_trans hl hlen1) hplace (m0 := m) (fun m' a' w' hr' hm => ?_) ops.size (Array.replicate ops.size false) a _ m (by simp) ⟨fun j o _ hs => ?_⟩ ?_ ?_ m.le_refl (fun j _ => ?_)
  · refine hk m' a' w' hr' ⟨by rw [hll]; omega, fun _ => ⟨hm, by rw [hll]; exact hlen1, fun K' hK' => ?_⟩⟩
    have hnw : blk (foldS (fun _ => true) 0 L ⟨st.tmps, H1⟩).heap K' = blk (foldS (fun _ => false) 0 L ⟨st.tmps, H1⟩).heap K' := by
      refine foldS_blk _ _ K' L 0 _ _ rfl rfl fun j p hj hw => ?_
      exfalso
      obtain ⟨o, d⟩ := p
      obtain ⟨v, b, rfl⟩ := hw
      obtain ⟨hd, _⟩ := htold.does j o _ hj
      rcases hd.2 with ⟨_, e⟩ | ⟨b', vf, _, _, e⟩ | ⟨K2, b', _, hle, e⟩ | ⟨f, args, _, e, _⟩ | ⟨f, args, H', _, e, _⟩
      · cases e
      · injection e with e; injection e with e _; omega
      · injection e with e; injection e with e _; omega
      · cases e
      · cases e
    have hnone : ∀ (l : List (Oper × Dsc)) (j : Nat) (s : St), foldS (fun _ => false) j l s = s := by
      intro l
      induction l with
      | nil => intro j s; rfl
      | cons q l ih => intro j s; simp only [foldS, Bool.false_eq_true, if_false]; exact ih _ _
    rw [hnone, foldS_all (fun _ => true) L 0 _ (fun _ _ _ => rfl)] at hnw
    rw [hnw, ← hH1, blk_append_lt _ _ _ (by omega)]
  · simp only [Array.getD_eq_getD_getElem?] at hs
    by_cases hj : j < ops.size
    · simp [hj] at hs
    · simp [hj] at hs
  · have : ∀ n, unl (fun j => (Array.replicate ops.size false).getD j false) n = n := by
      intro n
      induction n with
      | zero => rfl
      | succ n ih =>
        simp only [unl]
        have : (Array.replicate ops.size false).getD n false = false := by
          rw [Array.getD_eq_getD_getElem?]
          by_cases hj : n < ops.size <;> simp [hj]
        rw [ih, this]; rfl
    exact this _
  · have hnone : ∀ (l : List (Oper × Dsc)) (j : Nat) (s : St), foldS (fun j => (Array.replicate ops.size false).getD j false) j l s = s := by
      intro l
      induction l with
      | nil => intro j s; rfl
      | cons q l ih =>
        intro j s
        have : (Array.replicate ops.size false).getD j false = false := by
          rw [Array.getD_eq_getD_getElem?]
          by_cases hj : j < ops.size <;> simp [hj]
        simp only [foldS, this, Bool.false_eq_true, if_false]
        exact ih _ _
    rw [hnone]
    exact ⟨hr.tmps, hsim1.drew, hr.defers⟩
  · cases hq : m (st.heap.length + j) with
    | none => rfl
    | some r' => have := (hr.sim.ok _ _ hq).1; omega

end Go.Proofs.YtbikcndldcfffaaDoor.Sim
