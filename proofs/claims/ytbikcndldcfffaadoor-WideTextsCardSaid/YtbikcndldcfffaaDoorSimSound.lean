/- The machine runs a function as the abstract run says. Condition: none beyond what each theorem says. -/
import Derived.Test.YtbikcndldcfffaaDoorSimDraw5
import Derived.LoopN
import Derived.Scope
namespace Go.Proofs.YtbikcndldcfffaaDoor.Sim
open Go.RowKit

def toExit : Exi → Exit
  | .normal => .normal
  | .exit id => .exit id
  | .goto l => .goto l
  | .ret => .ret

/-- What is true of the machine where the abstract run of code goes from one state to another and leaves by e. -/
def GoesX (E : Env) (st : St) (e : Exi) (st' : St) (wp : (Exit → Act → World → Prop) → Act → World → Prop) : Prop :=
  ∀ B w0 m a w, Rel B w0 m st a w → E.lim ≤ st.heap.length → ∀ Q : Exit → Act → World → Prop, (∀ m' a' w', Rel B w0 m' st' a' w' → Later E m st m' st' → Q (toExit e) a' w') → wp Q a w

theorem then_self (Q : Exit → Act → World → Prop) : Exit.then (Q .normal) Q = Q := by
  funext e a w; cases e <;> rfl

theorem cutSt_of {E : Env} (hG : Good E) {q : Nat} {c : Nat × Nat × Option Nat} (hc : findCut E.cut q = some c) {st : St} {k : St → Option AV} {r : AV} (h : cutSt c.1 c.2.1 c.2.2 st k = some r) :
    ∃ st', k st' = some r ∧ E.lim ≤ st'.heap.length ∧ ∀ B w0 m a w, Rel B w0 m st a w → ∃ m', Rel B w0 m' st' a w ∧ Later E m st m' st' := by
  have hne : E.cut ≠ [] := fun e => by rw [e] at hc; cases hc
  have hlim : E.lim = 0 := hG.lim.resolve_left hne
  unfold cutSt at h
  split at h
  · refine ⟨_, h, by omega, fun B w0 m a w hr => ⟨m, ⟨vrs_scrub hr.tmps _, hr.sim.scrub _, hr.defers⟩, by omega, fun e => absurd e hne⟩⟩
  · rename_i n hn
    obtain ⟨h1, h⟩ := some_cond h
    simp only [Bool.and_eq_true] at h1
    exact ⟨_, h, by omega, fun B w0 m a w hr => ⟨m.cut n, ⟨VRs.lo (vrs_scrub hr.tmps _) h1.1, (hr.sim.scrub _).take n h1.2, hr.defers⟩, by omega, fun e => absurd e hne⟩⟩

theorem goC_of {E : Env} (hG : Good E) {q : Nat} {p : List Bool} {ns : List Nat} {run : St → Option AV} {st : St} {r : AV} (h : goC E none q p ns run st = some r) (hl : E.lim ≤ st.heap.length) :
    ∃ st', run st' = some r ∧ E.lim ≤ st'.heap.length ∧ ∀ B w0 m a w, Rel B w0 m st a w → ∃ m', Rel B w0 m' st' a w ∧ Later E m st m' st' := by
  unfold goC at h
  split at h
  · exact ⟨st, h, hl, fun B w0 m a w hr => ⟨m, hr, .refl hl⟩⟩
  · rename_i c hc
    exact cutSt_of hG hc h

/-- A condition. -/
theorem condK_of {R : Type} {c : Operand} {T : List AV} {yes no : List AV → Option R} {r : R} (h : condK c T yes no = some r) :
    ∃ b, evA T c = .bool b ∧ ∃ T', (∀ {m : BM} {a : Act}, VRs m T a.tmps.toList → VRs m T' a.tmps.toList) ∧ (if b then yes T' else no T') = some r := by
  unfold condK at h
  split at h
  · rename_i t
    obtain ⟨b, hb, h⟩ := boolK_some h
    refine ⟨b, hb, setN T t (.bool b), fun hT => vrs_lit hT hb, ?_⟩
    cases b <;> exact h
  · obtain ⟨b, hb, h⟩ := boolK_some h
    refine ⟨b, hb, T, fun hT => hT, ?_⟩
    cases b <;> exact h

theorem ex_of {E : Env} (hG : Good E) : ∀ (c : Code) (q : Nat) (p : List Bool) (ns : List Nat) (k : Kont) (st : St) (r : AV), ex E none c q p ns k st = some r → E.lim ≤ st.heap.length →
    ∃ e st', k e st' = some r ∧ E.lim ≤ st'.heap.length ∧ GoesX E st e st' (fun Q a w => c.wp E.P Q a w)
  | .skip, q, p, ns, k, st, r, h, hl => ⟨.normal, st, h, hl, fun B w0 m a w hr hl Q hq => wp_skip (hq m a w hr (.refl hl))⟩
  | .label l, q, p, ns, k, st, r, h, hl => ⟨.normal, st, h, hl, fun B w0 m a w hr hl Q hq => wp_label (hq m a w hr (.refl hl))⟩
  | .exit id, q, p, ns, k, st, r, h, hl => ⟨.exit id, st, h, hl, fun B w0 m a w hr hl Q hq => wp_exit (hq m a w hr (.refl hl))⟩
  | .goto l, q, p, ns, k, st, r, h, hl => ⟨.goto l, st, h, hl, fun B w0 m a w hr hl Q hq => wp_goto (hq m a w hr (.refl hl))⟩
  | .ret, q, p, ns, k, st, r, h, hl => ⟨.ret, st, h, hl, fun B w0 m a w hr hl Q hq => wp_ret (hq m a w hr (.refl hl))⟩
  | .region id ops d, q, p, ns, k, st, r, h, hl => by
    unfold ex at h
    cases d with
    | true =>
      obtain ⟨st', h1, h2, h3⟩ := draw_of hG h hl
      refine ⟨.normal, st', h1, h2, fun B w0 m a w hr hl Q hq => ?_⟩
      have := h3 id Q B w0 m a w hr hl (Q .normal) hq
      simp only [then_self] at this
      exact this
    | false =>
      obtain ⟨st', h1, h2, h3⟩ := ops_of hG ops ops.toList 0 st _ r (fun j => by simp) h hl
      refine ⟨.normal, st', h1, h2, fun B w0 m a w hr hl Q hq => ?_⟩
      have := h3 Q B w0 m a w hr hl (Q .normal) hq
      simp only [then_self] at this
      refine wp_region ?_
      rw [List.range_eq_range']
      simpa using this
  | .seq x y, q, p, ns, k, st, r, h, hl => by
    unfold ex at h
    obtain ⟨st1, h1, hl1, g1⟩ := goC_of hG h hl
    obtain ⟨e2, st2, h2, hl2, g2⟩ := ex_of hG x _ _ _ _ _ _ h1 hl1
    cases e2 with
    | normal =>
      simp only [thenK] at h2
      obtain ⟨st3, h3, hl3, g3⟩ := goC_of hG h2 hl2
      obtain ⟨e4, st4, h4, hl4, g4⟩ := ex_of hG y _ _ _ _ _ _ h3 hl3
      refine ⟨e4, st4, h4, hl4, fun B w0 m a w hr hl Q hq => wp_seq ?_⟩
      obtain ⟨m1, r1, l1⟩ := g1 B w0 m a w hr
      refine g2 B w0 m1 a w r1 hl1 _ fun m2 a2 w2 r2 l2 => ?_
      obtain ⟨m3, r3, l3⟩ := g3 B w0 m2 a2 w2 r2
      exact g4 B w0 m3 a2 w2 r3 hl3 Q fun m4 a4 w4 r4 l4 => hq m4 a4 w4 r4 (((l1.trans l2).trans l3).trans l4)
    | exit id =>
      refine ⟨.exit id, st2, h2, hl2, fun B w0 m a w hr hl Q hq => wp_seq ?_⟩
      obtain ⟨m1, r1, l1⟩ := g1 B w0 m a w hr
      exact g2 B w0 m1 a w r1 hl1 _ fun m2 a2 w2 r2 l2 => hq m2 a2 w2 r2 (l1.trans l2)
    | goto l =>
      refine ⟨.goto l, st2, h2, hl2, fun B w0 m a w hr hl Q hq => wp_seq ?_⟩
      obtain ⟨m1, r1, l1⟩ := g1 B w0 m a w hr
      exact g2 B w0 m1 a w r1 hl1 _ fun m2 a2 w2 r2 l2 => hq m2 a2 w2 r2 (l1.trans l2)
    | ret =>
      refine ⟨.ret, st2, h2, hl2, fun B w0 m a w hr hl Q hq => wp_seq ?_⟩
      obtain ⟨m1, r1, l1⟩ := g1 B w0 m a w hr
      exact g2 B w0 m1 a w r1 hl1 _ fun m2 a2 w2 r2 l2 => hq m2 a2 w2 r2 (l1.trans l2)
  | .cond c x y, q, p, ns, k, st, r, h, hl => by
    unfold ex at h
    obtain ⟨b, hb, T, hT, h⟩ := condK_of h
    have hev : ∀ {B w0 m a w}, Rel B w0 m st a w → a.eval c = .bool b := fun hr => by
      have := hr.eval c
      rw [hb] at this
      exact vr_bool this
    cases b with
    | true =>
      rw [if_pos rfl] at h
      obtain ⟨st1, h1, hl1, g1⟩ := goC_of hG h hl
      obtain ⟨e2, st2, h2, hl2, g2⟩ := ex_of hG x _ _ _ _ _ _ h1 hl1
      refine ⟨e2, st2, h2, hl2, fun B w0 m a w hr hl Q hq => wp_cond_true (hev hr) ?_⟩
      obtain ⟨m1, r1, l1⟩ := g1 B w0 m a w ⟨hT hr.tmps, hr.sim, hr.defers⟩
      exact g2 B w0 m1 a w r1 hl1 Q fun m2 a2 w2 r2 l2 => hq m2 a2 w2 r2 (l1.tmps.trans l2)
    | false =>
      rw [if_neg Bool.false_ne_true] at h
      obtain ⟨st1, h1, hl1, g1⟩ := goC_of hG h hl
      obtain ⟨e2, st2, h2, hl2, g2⟩ := ex_of hG y _ _ _ _ _ _ h1 hl1
      refine ⟨e2, st2, h2, hl2, fun B w0 m a w hr hl Q hq => wp_cond_false (hev hr) ?_⟩
      obtain ⟨m1, r1, l1⟩ := g1 B w0 m a w ⟨hT hr.tmps, hr.sim, hr.defers⟩
      exact g2 B w0 m1 a w r1 hl1 Q fun m2 a2 w2 r2 l2 => hq m2 a2 w2 r2 (l1.tmps.trans l2)
  | .block id c, q, p, ns, k, st, r, h, hl => by
    unfold ex at h
    obtain ⟨st1, h1, hl1, g1⟩ := goC_of hG h hl
    obtain ⟨e2, st2, h2, hl2, g2⟩ := ex_of hG c _ _ _ _ _ _ h1 hl1
    have key : ∀ e, k e st2 = some r → (∀ Q a w, Q (toExit e) a w → Exit.inBlock id Q (toExit e2) a w) → ∃ e st', k e st' = some r ∧ E.lim ≤ st'.heap.length ∧ GoesX E st e st' (fun Q a w => (Code.block id c).wp E.P Q a w) := by
      intro e he hQ
      refine ⟨e, st2, he, hl2, fun B w0 m a w hr hl Q hq => wp_block ?_⟩
      obtain ⟨m1, r1, l1⟩ := g1 B w0 m a w hr
      exact g2 B w0 m1 a w r1 hl1 _ fun m2 a2 w2 r2 l2 => hQ Q a2 w2 (hq m2 a2 w2 r2 (l1.trans l2))
    cases e2 with
    | normal => exact key .normal h2 (fun Q a w h => h)
    | goto l => exact key (.goto l) h2 (fun Q a w h => h)
    | ret => exact key .ret h2 (fun Q a w h => h)
    | exit id' =>
      simp only [blockK] at h2
      by_cases hid : id' = id
      · have hb : Nat.beq id' id = true := by simpa using hid
        rw [hb] at h2
        exact key .normal h2 (fun Q a w h => by simp only [toExit, Exit.inBlock, hid, if_true]; exact h)
      · have hb : Nat.beq id' id = false := by
          cases hbb : Nat.beq id' id
          · rfl
          · exact absurd (Nat.eq_of_beq_eq_true hbb) hid
        rw [hb] at h2
        exact key (.exit id') h2 (fun Q a w h => by simp only [toExit, Exit.inBlock, hid, if_false]; exact h)
  | .scope c, q, p, ns, k, st, r, h, hl => by
    unfold ex at h
    obtain ⟨st1, h1, hl1, g1⟩ := goC_of hG h hl
    obtain ⟨e2, st2, h2, hl2, g2⟩ := ex_of hG c _ _ _ _ _ _ h1 hl1
    have key : ∀ e, k e st2 = some r → (∀ Q a w, Q (toExit e) a w → Exit.noGoto Q (toExit e2) a w) → ∃ e st', k e st' = some r ∧ E.lim ≤ st'.heap.length ∧ GoesX E st e st' (fun Q a w => (Code.scope c).wp E.P Q a w) := by
      intro e he hQ
      refine ⟨e, st2, he, hl2, fun B w0 m a w hr hl Q hq => wp_scope_straight ?_⟩
      obtain ⟨m1, r1, l1⟩ := g1 B w0 m a w hr
      exact g2 B w0 m1 a w r1 hl1 _ fun m2 a2 w2 r2 l2 => hQ Q a2 w2 (hq m2 a2 w2 r2 (l1.trans l2))
    cases e2 with
    | normal => exact key .normal h2 (fun Q a w h => h)
    | goto l => cases h2
    | ret => exact key .ret h2 (fun Q a w h => h)
    | exit id' => exact key (.exit id') h2 (fun Q a w h => h)
  | .loop c, q, p, ns, k, st, r, h, hl => by
    unfold ex at h
    have key : ∀ (n : Nat) (st : St), loopU (fun n k' => ex E none c (2 * q) (false :: p) (n :: ns) k') (fun n run => goC E none (2 * q) (false :: p) (n :: ns) run) k n st = some r → E.lim ≤ st.heap.length →
        ∃ e st', k e st' = some r ∧ E.lim ≤ st'.heap.length ∧ GoesX E st e st' (fun Q a w => Code.rounds E.P c Q n a w) := by
      intro n
      induction n with
      | zero => intro st h; cases h
      | succ n ih =>
        intro st h hl
        unfold loopU at h
        obtain ⟨e2, st2, h2, hl2, g2⟩ := ex_of hG c _ _ _ _ _ _ h hl
        cases e2 with
        | normal =>
          obtain ⟨st1, h1, hl1, g1⟩ := goC_of hG h2 hl2
          obtain ⟨e3, st3, h3, hl3, g3⟩ := ih st1 h1 hl1
          refine ⟨e3, st3, h3, hl3, fun B w0 m a w hr hl Q hq => ?_⟩
          show c.wp E.P (Exit.then (Code.rounds E.P c Q n) Q) a w
          refine g2 B w0 m a w hr hl _ fun m2 a2 w2 r2 l2 => ?_
          obtain ⟨m1, r1, l1⟩ := g1 B w0 m2 a2 w2 r2
          exact g3 B w0 m1 a2 w2 r1 hl1 Q fun m3 a3 w3 r3 l3 => hq m3 a3 w3 r3 ((l2.trans l1).trans l3)
        | exit id =>
          refine ⟨.exit id, st2, h2, hl2, fun B w0 m a w hr hl Q hq => ?_⟩
          show c.wp E.P (Exit.then (Code.rounds E.P c Q n) Q) a w
          exact g2 B w0 m a w hr hl _ fun m2 a2 w2 r2 l2 => hq m2 a2 w2 r2 l2
        | goto l =>
          refine ⟨.goto l, st2, h2, hl2, fun B w0 m a w hr hl Q hq => ?_⟩
          show c.wp E.P (Exit.then (Code.rounds E.P c Q n) Q) a w
          exact g2 B w0 m a w hr hl _ fun m2 a2 w2 r2 l2 => hq m2 a2 w2 r2 l2
        | ret =>
          refine ⟨.ret, st2, h2, hl2, fun B w0 m a w hr hl Q hq => ?_⟩
          show c.wp E.P (Exit.then (Code.rounds E.P c Q n) Q) a w
          exact g2 B w0 m a w hr hl _ fun m2 a2 w2 r2 l2 => hq m2 a2 w2 r2 l2
    obtain ⟨st1, h1, hl1, g1⟩ := goC_of hG h hl
    obtain ⟨e, st', h1, h2, h3⟩ := key E.lf st1 h1 hl1
    refine ⟨e, st', h1, h2, fun B w0 m a w hr hl Q hq => wp_loop_rounds E.lf ?_⟩
    obtain ⟨m1, r1, l1⟩ := g1 B w0 m a w hr
    exact h3 B w0 m1 a w r1 hl1 Q fun m2 a2 w2 r2 l2 => hq m2 a2 w2 r2 (l1.trans l2)
  | .rangeFunc .., _, _, _, _, _, _, h, _ => by unfold ex at h; cases h
  | .refuse .., _, _, _, _, _, _, h, _ => by unfold ex at h; cases h

/-! ### functions -/
theorem resK_of {P : Program} {T : List AV} {H : List Blk} {R : Type} : ∀ (rs : List ResultVar) (k : List AV → Option R) (r : R), resK P T H rs k = some r →
    ∃ avs, k avs = some r ∧ ∀ {B : Nat} {w0 : World} {m : BM} {a : Act} {w : World}, VRs m T a.tmps.toList → Sim B w0 m H w → ∃ vs, (rs.mapM (m := Sem) fun (x : ResultVar) => match x with
      | .tmp t => pure (a.tmps.getD t undef)
      | .cell c t => do loadVar t (← asAddr (a.tmps.getD c undef))).run P w = .ok vs w ∧ VRs m avs vs
  | [], k, r, h => ⟨[], h, fun _ _ => ⟨[], by simp, .nil⟩⟩
  | .tmp t :: rs, k, r, h => by
    unfold resK at h
    obtain ⟨avs, h1, h2⟩ := resK_of rs _ r h
    refine ⟨_, h1, fun {B w0 m a w} hT hs => ?_⟩
    obtain ⟨vs, h3, h4⟩ := h2 hT hs
    refine ⟨a.tmps.getD t undef :: vs, ?_, .cons _ _ _ _ ?_ h4⟩
    · rw [List.mapM_cons]
      simp only [Sem.run_bind, Sem.run_pure, Result.andThen_ok]
      rw [h3]; rfl
    · have := vrs_nth hT t
      simpa using this
  | .cell c t :: rs, k, r, h => by
    unfold resK at h
    rw [loadK_bind] at h
    cases hq : loadK P H t (nth T c) some with
    | none => rw [hq] at h; cases h
    | some v =>
      rw [hq] at h
      simp only [Option.bind_some] at h
      obtain ⟨avs, h1, h2⟩ := resK_of rs _ r h
      refine ⟨_, h1, fun {B w0 m a w} hT hs => ?_⟩
      obtain ⟨vs, h3, h4⟩ := h2 hT hs
      have ha := vrs_nth hT c
      obtain ⟨v', h5, h6⟩ := run_loadAt_of hs ha hq
      refine ⟨v' :: vs, ?_, .cons _ _ _ _ h6 h4⟩
      have hrun : (do loadVar t (← asAddr (a.tmps.getD c undef)) : Sem Value).run P w = .ok v' w := by
        have hg : a.tmps.getD c undef = a.tmps.toList.getD c undef := by simp
        rw [hg]
        generalize hn : nth T c = x at ha hq
        generalize a.tmps.toList.getD c undef = y at ha h5
        cases ha <;> simp only [loadK, AV.ptrK] at hq <;> (try (cases hq; done))
        simpa [Instr.loadAt, Instr.sureAddr, asAddr] using h5
      rw [List.mapM_cons]
      simp only [Sem.run_bind] at hrun ⊢
      rw [hrun]
      simp only [Result.andThen_ok, h3, Sem.run_pure]

theorem oneOf_of {m : BM} {avs : List AV} {vs : List Value} (h : VRs m avs vs) : VR m (oneOf avs) (if h : vs.toArray.size = 1 then vs.toArray[0] else .tuple vs.toArray) := by
  cases h with
  | nil => exact .tup [] [] .nil
  | cons x v xs us hx hs =>
    cases hs with
    | nil => exact hx
    | cons y u ys us' hy hs' =>
      rw [dif_neg (by simp)]
      exact .tup _ _ (.cons _ _ _ _ hx (.cons _ _ _ _ hy hs'))

theorem run_results {P : Program} {fn : Func} {T : List AV} {H : List Blk} {R : Type} {k : AV → Option R} {r : R} (h : (resK P T H fn.results.toList fun vs => k (oneOf vs)) = some r) :
    ∃ v, k v = some r ∧ ∀ {B : Nat} {w0 : World} {m : BM} {a : Act} {w : World}, VRs m T a.tmps.toList → Sim B w0 m H w → ∃ v', (results fn a.tmps).run P w = .ok v' w ∧ VR m v v' := by
  obtain ⟨avs, h1, h2⟩ := resK_of fn.results.toList _ r h
  refine ⟨_, h1, fun {B w0 m a w} hT hs => ?_⟩
  obtain ⟨vs, h3, h4⟩ := h2 hT hs
  refine ⟨_, ?_, oneOf_of h4⟩
  unfold results
  rw [Sem.run_bind, Array.mapM_eq_mapM_toList, Sem.run_map]
  exact congrArg (fun (r : Result (List Value)) => (r.andThen fun a w' => Result.ok a.toArray w').andThen fun a w' => Sem.run P (pure (if h : a.size = 1 then a[0] else Value.tuple a)) w') h3

theorem endK_of {P : Program} {fn : Func} {k : AV → List Blk → Option AV} {e : Exi} {st : St} {r : AV} (h : endK P fn k e st = some r) :
    (e = .normal ∨ e = .ret) ∧ ∃ v, k v st.heap = some r ∧ ∀ {B : Nat} {w0 : World} {m : BM} {a : Act} {w : World}, VRs m st.tmps a.tmps.toList → Sim B w0 m st.heap w → ∃ v', (results fn a.tmps).run P w = .ok v' w ∧ VR m v v' := by
  unfold endK at h
  cases e with
  | normal => exact ⟨.inl rfl, run_results (k := fun v => k v st.heap) h⟩
  | ret => exact ⟨.inr rfl, run_results (k := fun v => k v st.heap) h⟩
  | exit id => cases h
  | goto l => cases h

theorem vrs_undefs (m : BM) : ∀ n, VRs m (undefs n) (List.replicate n undef)
  | 0 => .nil
  | n + 1 => .cons _ _ _ _ (vr_undef m) (vrs_undefs m n)

theorem start_rel {B : Nat} {w0 : World} {m : BM} {H : List Blk} {w : World} {args : List AV} {vs : List Value} (fn : Func) (ha : VRs m args vs) (hs : Sim B w0 m H w) :
    Rel B w0 m (start fn args H) { tmps := vs.toArray ++ Array.replicate (fn.ntmps - vs.toArray.size) undef, defers := [] } w := by
  refine ⟨?_, hs, rfl⟩
  have hl := vrs_length ha
  have := vrs_append ha (vrs_undefs m (fn.ntmps - args.length))
  simpa [start, hl] using this

/-- What is asked of what is known beforehand. -/
structure CfgOk (C : Cfg) : Prop where
  ext : ∀ g args v, C.ext g args = some (true, v) → ∀ (m : BM) (vs : List Value) (w : World), VRs m args vs → ∃ v', (callFunc g vs.toArray).run C.P w = .ok (.value v') w ∧ VR m v v'
  isF : ∀ g, C.isF g = true → ∀ (args : Array Value) (w : World), (callFunc g args).run C.P w = .ok (.enter g args) w
  mix : C.P.follows .mixedOrders = true
  known : CpOk C.P C.known := by intro f args v h; cases h

theorem runIn_of {C : Cfg} (hC : CfgOk C) {cp : FuncId → List AV → Option AV} (hcp : CpOk C.P cp) (lf : Nat) : ∀ d, CiOk C.P (runIn C cp lf d)
  | 0 => fun lim f args H k r h => by cases h
  | d + 1 => fun lim f args H k r h hlim => by
    unfold runIn at h
    split at h
    · cases h
    rename_i fn hf
    split at h
    · cases h
    rename_i c hb
    have hG : Good { C with cp := cp, ci := runIn C cp lf d, lf := lf, lim := lim, cut := [] } := ⟨⟨hC.ext, hC.isF⟩, hcp, runIn_of hC hcp lf d, hC.mix, .inl rfl⟩
    obtain ⟨e, st', h1, h2, h3⟩ := ex_of hG c 1 [] [] _ _ r h hlim
    obtain ⟨he, v, hv, hres⟩ := endK_of h1
    refine ⟨v, st'.heap, hv, h2, fun B w0 m w vs ha hs hl => ?_⟩
    · refine calls_of_wp hf hb (h3 B w0 m _ w (start_rel fn ha hs) hl _ fun m' a' w' r' l' => ?_)
      obtain ⟨v', e1, e2⟩ := hres r'.tmps r'.sim
      have : bodyPost C.P fn (fun e w' => ∃ v' m', e = .returned v' ∧ m.le m' ∧ VR m' v v' ∧ Sim B w0 m' st'.heap w' ∧ Keep lim H st'.heap) .ret a' w' :=
        ⟨r'.defers, v', e1, v', m', rfl, (l'.keep rfl).1, e2, r'.sim, (l'.keep rfl).2⟩
      rcases he with rfl | rfl
      · exact this
      · exact this

end Go.Proofs.YtbikcndldcfffaaDoor.Sim
