/- A region whose operations are carried out in whatever order its edges allow comes to what the order of its text comes to. Condition: none beyond what each theorem says. -/
import Derived.Test.YtbikcndldcfffaaDoorSimExec
import Derived.Orders
namespace Go.Proofs.YtbikcndldcfffaaDoor.Sim
open Go.RowKit

/-! ### what an operation does to a state -/
inductive Dsc where
  | skip
  | eff (v : AV) (u : Option (Nat × Blk))

def updH : Option (Nat × Blk) → List Blk → List Blk
  | none, H => H
  | some (K, b), H => setB H K b

def app (o : Oper) : Dsc → St → St
  | .skip, st => ⟨putO st.tmps o.dst undefA, st.heap⟩
  | .eff v u, st => ⟨putO st.tmps o.dst v, updH u st.heap⟩

def Eff (E : Env) (new : Nat) (o : Oper) (st : St) (v : AV) (u : Option (Nat × Blk)) : Prop :=
  (opV E o st = some (.val v) ∧ u = none) ∨
  (∃ b vf, opV E o st = some (.new b vf) ∧ v = vf new ∧ u = some (new, b)) ∨
  (∃ K b, opV E o st = some (.wr K b v) ∧ E.lim ≤ K ∧ u = some (K, b)) ∨
  (∃ f args, opV E o st = some (.call f args) ∧ u = none ∧ E.isP f = true ∧ AV.pureL args = true ∧ E.cp f args = some v) ∨
  (∃ f args H', opV E o st = some (.call f args) ∧ u = none ∧ E.isP f = false ∧ v.pure = true ∧ CallsTo E.P st.heap.length f args st.heap v H')

def Does (E : Env) (all : Array Oper) (new : Nat) (o : Oper) (st : St) : Dsc → Prop
  | .skip => gA all o st.tmps = some false
  | .eff v u => gA all o st.tmps = some true ∧ Eff E new o st v u

theorem execD_of {E : Env} (hG : Good E) {new : Nat} {o : Oper} {st : St} {k : St → Option AV} {r : AV} (h : execD E new o st k = some r) : ∃ v u, Eff E new o st v u ∧ k (app o (.eff v u) st) = some r := by
  unfold execD at h
  rw [opK_bind] at h
  cases hres : opV E o st with
  | none => rw [hres] at h; cases h
  | some res =>
    rw [hres] at h
    simp only [Option.bind_some] at h
    cases res with
    | val v => exact ⟨v, none, .inl ⟨hres, rfl⟩, h⟩
    | new b vf => exact ⟨vf new, some (new, b), .inr (.inl ⟨b, vf, hres, rfl, rfl⟩), h⟩
    | wr K b v =>
      obtain ⟨hl, h⟩ := some_cond h
      exact ⟨v, some (K, b), .inr (.inr (.inl ⟨K, b, hres, Nat.le_of_ble_eq_true hl, rfl⟩)), h⟩
    | call f args =>
      simp only at h
      cases hP : E.isP f with
      | true =>
        rw [hP] at h
        obtain ⟨hp, h⟩ := some_cond h
        cases hc : E.cp f args with
        | none => rw [hc] at h; cases h
        | some v =>
          rw [hc] at h
          simp only [Option.bind_some] at h
          obtain ⟨v', h1, rfl⟩ := cast_of _ _ _ _ h
          exact ⟨v', none, .inr (.inr (.inr (.inl ⟨f, args, hres, rfl, hP, hp, hc⟩))), h1⟩
      | false =>
        rw [hP] at h
        obtain ⟨v, H', h1, h2, h3⟩ := hG.ci _ _ _ _ _ _ h (Nat.le_refl _)
        obtain ⟨hv, h1⟩ := some_cond h1
        exact ⟨v, none, .inr (.inr (.inr (.inr ⟨f, args, H', hres, rfl, hP, hv, h3⟩))), h1⟩

def runAll (L : List (Oper × Dsc)) (st : St) : St := L.foldl (fun st p => app p.1 p.2 st) st

def isEff : Dsc → Bool
  | .skip => false
  | .eff _ _ => true

/-- The order of the text: what each operation did. -/
theorem trace_of {E : Env} (hG : Good E) {all : Array Oper} {base : Nat} : ∀ (os : List Oper) (i : Nat) (as : List Acc) (st : St) (k : St → List Acc → Option AV) (r : AV), opsD E all base i os as st k = some r →
    ∃ (L : List (Oper × Dsc)) (as' : List Acc), L.map (·.1) = os ∧ k (runAll L st) as' = some r ∧ (∀ a ∈ as, a ∈ as') ∧
      ∀ j o d, L[j]? = some (o, d) → Does E all (base + (i + j)) o (runAll (L.take j) st) d ∧ (isEff d = true → accOf E (base + (i + j)) o (runAll (L.take j) st).tmps (i + j) ∈ as')
  | [], i, as, st, k, r, h => ⟨[], as, rfl, h, fun _ h => h, fun j o d hj => by simp at hj⟩
  | o :: os, i, as, st, k, r, h => by
    unfold opsD at h
    rcases guardK_gA h with ⟨hg, h⟩ | ⟨hg, h⟩
    · obtain ⟨v, u, he, h⟩ := execD_of hG h
      obtain ⟨L, as', h1, h2, h3, h4⟩ := trace_of hG os (i + 1) _ _ k r h
      refine ⟨(o, .eff v u) :: L, as', by simp [h1], h2, fun a ha => h3 a (List.mem_cons_of_mem _ ha), fun j o' d hj => ?_⟩
      cases j with
      | zero =>
        simp at hj
        obtain ⟨rfl, rfl⟩ := hj
        exact ⟨⟨hg, he⟩, fun _ => h3 _ (List.mem_cons_self ..)⟩
      | succ j =>
        have := h4 j o' d (by simpa using hj)
        rw [show i + 1 + j = i + (j + 1) by omega] at this
        exact this
    · obtain ⟨L, as', h1, h2, h3, h4⟩ := trace_of hG os (i + 1) _ _ k r h
      refine ⟨(o, .skip) :: L, as', by simp [h1], h2, h3, fun j o' d hj => ?_⟩
      cases j with
      | zero =>
        simp at hj
        obtain ⟨rfl, rfl⟩ := hj
        exact ⟨hg, fun he => by simp [isEff] at he⟩
      | succ j =>
        have := h4 j o' d (by simpa using hj)
        rw [show i + 1 + j = i + (j + 1) by omega] at this
        exact this

/-! ### some of the operations -/
def foldS (S : Nat → Bool) : Nat → List (Oper × Dsc) → St → St
  | _, [], st => st
  | j, p :: l, st => foldS S (j + 1) l (if S j then app p.1 p.2 st else st)

theorem foldS_all (S : Nat → Bool) : ∀ (l : List (Oper × Dsc)) (j : Nat) (st : St), (∀ i, j ≤ i → i < j + l.length → S i = true) → foldS S j l st = runAll l st
  | [], _, _, _ => rfl
  | p :: l, j, st, h => by
    have h0 := h j (Nat.le_refl _) (by simp)
    simp only [foldS, h0, if_true]
    rw [foldS_all S l (j + 1) _ (fun i h1 h2 => h i (by omega) (by simp; omega))]
    rfl

theorem foldS_lt : ∀ (l : List (Oper × Dsc)) (j n : Nat) (st : St), foldS (fun i => decide (i < j + n)) j l st = runAll (l.take n) st
  | [], _, _, _ => by simp [foldS, runAll]
  | p :: l, j, 0, st => by
    have : ∀ (l : List (Oper × Dsc)) (i : Nat) (st : St), j ≤ i → foldS (fun i => decide (i < j + 0)) i l st = st := by
      intro l
      induction l with
      | nil => intro i st _; rfl
      | cons q l ih =>
        intro i st hi
        have : decide (i < j + 0) = false := by simp; omega
        simp only [foldS, this]
        exact ih (i + 1) st (by omega)
    rw [this _ _ _ (Nat.le_refl _)]; rfl
  | p :: l, j, n + 1, st => by
    have h0 : decide (j < j + (n + 1)) = true := by simp
    simp only [foldS, h0, if_true, List.take_succ_cons]
    have := foldS_lt l (j + 1) n (app p.1 p.2 st)
    rw [show j + 1 + n = j + (n + 1) by omega] at this
    rw [this]; rfl

def writesT (p : Oper × Dsc) (s : Nat) : Prop := p.1.dst = some s
def writesB (d : Dsc) (K : Nat) : Prop := ∃ v b, d = .eff v (some (K, b))

theorem nth_setN_ne : ∀ (T : List AV) (i j : Nat) (x : AV), j ≠ i → nth (setN T i x) j = nth T j
  | [], _, _, _, _ => rfl
  | _ :: _, 0, 0, _, h => absurd rfl h
  | _ :: _, 0, _ + 1, _, _ => rfl
  | _ :: _, _ + 1, 0, _, _ => rfl
  | _ :: T, i + 1, j + 1, x, h => by simpa [setN, nth] using nth_setN_ne T i j x (fun e => h (by rw [e]))
theorem nth_setN_congr : ∀ (T T' : List AV) (i : Nat) (x : AV), T.length = T'.length → nth (setN T i x) i = nth (setN T' i x) i
  | [], [], _, _, _ => rfl
  | _ :: _, _ :: _, 0, _, _ => rfl
  | _ :: T, _ :: T', i + 1, x, h => by simpa [setN, nth] using nth_setN_congr T T' i x (by simpa using h)
  | [], _ :: _, _, _, h => by simp at h
  | _ :: _, [], _, _, h => by simp at h
theorem length_setN : ∀ (T : List AV) (i : Nat) (x : AV), (setN T i x).length = T.length
  | [], _, _ => rfl
  | _ :: _, 0, _ => rfl
  | _ :: T, i + 1, x => by simp [setN, length_setN T i x]

theorem app_tmps_len (o : Oper) (d : Dsc) (st : St) : (app o d st).tmps.length = st.tmps.length := by
  cases d <;> cases h : o.dst <;> simp [app, putO, h, length_setN]
theorem app_heap_len (o : Oper) (d : Dsc) (st : St) : (app o d st).heap.length = st.heap.length := by
  cases d with
  | skip => rfl
  | eff v u =>
    cases u with
    | none => rfl
    | some q => obtain ⟨K, b⟩ := q; simp [app, updH, length_setB]
theorem foldS_tmps_len (S : Nat → Bool) : ∀ (l : List (Oper × Dsc)) (j : Nat) (st : St), (foldS S j l st).tmps.length = st.tmps.length
  | [], _, _ => rfl
  | p :: l, j, st => by
    simp only [foldS]
    rw [foldS_tmps_len S l]
    split
    · exact app_tmps_len _ _ _
    · rfl
theorem foldS_heap_len (S : Nat → Bool) : ∀ (l : List (Oper × Dsc)) (j : Nat) (st : St), (foldS S j l st).heap.length = st.heap.length
  | [], _, _ => rfl
  | p :: l, j, st => by
    simp only [foldS]
    rw [foldS_heap_len S l]
    split
    · exact app_heap_len _ _ _
    · rfl

theorem app_tmp (o : Oper) (d : Dsc) (st : St) (s : Nat) (h : o.dst ≠ some s) : nth (app o d st).tmps s = nth st.tmps s := by
  cases d <;> cases hd : o.dst <;> simp only [app, putO, hd]
  · exact nth_setN_ne _ _ _ _ (fun e => h (by rw [hd, e]))
  · exact nth_setN_ne _ _ _ _ (fun e => h (by rw [hd, e]))
theorem app_tmp_congr (o : Oper) (d : Dsc) (st st' : St) (s : Nat) (hl : st.tmps.length = st'.tmps.length) (h : nth st.tmps s = nth st'.tmps s) : nth (app o d st).tmps s = nth (app o d st').tmps s := by
  by_cases hd : o.dst = some s
  · cases d <;> simp only [app, putO, hd] <;> exact nth_setN_congr _ _ _ _ hl
  · rw [app_tmp o d st s hd, app_tmp o d st' s hd, h]
theorem blk_setB_congr : ∀ (H H' : List Blk) (i : Nat) (x : Blk), H.length = H'.length → blk (setB H i x) i = blk (setB H' i x) i
  | [], [], _, _, _ => rfl
  | _ :: _, _ :: _, 0, _, _ => rfl
  | _ :: T, _ :: T', i + 1, x, h => by simpa [setB, blk] using blk_setB_congr T T' i x (by simpa using h)
  | [], _ :: _, _, _, h => by simp at h
  | _ :: _, [], _, _, h => by simp at h
theorem app_blk (o : Oper) (d : Dsc) (st : St) (K : Nat) (h : ¬ writesB d K) : blk (app o d st).heap K = blk st.heap K := by
  cases d with
  | skip => rfl
  | eff v u =>
    cases u with
    | none => rfl
    | some q =>
      obtain ⟨K', b⟩ := q
      exact blk_setB_ne _ _ _ _ (fun e => h ⟨v, b, by rw [e]⟩)
theorem app_blk_congr (o : Oper) (d : Dsc) (st st' : St) (K : Nat) (hl : st.heap.length = st'.heap.length) (h : blk st.heap K = blk st'.heap K) : blk (app o d st).heap K = blk (app o d st').heap K := by
  cases d with
  | skip => exact h
  | eff v u =>
    cases u with
    | none => exact h
    | some q =>
      obtain ⟨K', b⟩ := q
      by_cases e : K = K'
      · subst e; exact blk_setB_congr _ _ _ _ hl
      · show blk (setB st.heap K' b) K = blk (setB st'.heap K' b) K
        rw [blk_setB_ne _ _ _ _ e, blk_setB_ne _ _ _ _ e, h]

theorem foldS_tmp (S S' : Nat → Bool) (s : Nat) : ∀ (l : List (Oper × Dsc)) (j : Nat) (st st' : St), st.tmps.length = st'.tmps.length → nth st.tmps s = nth st'.tmps s →
    (∀ i p, l[i]? = some p → writesT p s → S (j + i) = S' (j + i)) → nth (foldS S j l st).tmps s = nth (foldS S' j l st').tmps s
  | [], _, _, _, _, h, _ => h
  | p :: l, j, st, st', hl, h, hw => by
    simp only [foldS]
    have hrest : ∀ i q, l[i]? = some q → writesT q s → S (j + 1 + i) = S' (j + 1 + i) := fun i q hi hq => by
      have := hw (i + 1) q (by simpa using hi) hq
      rwa [show j + 1 + i = j + (i + 1) by omega]
    by_cases hp : writesT p s
    · have h0 := hw 0 p rfl hp
      simp only [Nat.add_zero] at h0
      rw [h0]
      cases S' j
      · exact foldS_tmp S S' s l (j + 1) _ _ hl h hrest
      · exact foldS_tmp S S' s l (j + 1) _ _ (by rw [if_pos rfl, if_pos rfl, app_tmps_len, app_tmps_len]; exact hl) (by rw [if_pos rfl, if_pos rfl]; exact app_tmp_congr _ _ _ _ _ hl h) hrest
    · refine foldS_tmp S S' s l (j + 1) _ _ ?_ ?_ hrest
      · cases S j <;> cases S' j <;> simp only [if_true, Bool.false_eq_true, if_false, app_tmps_len] <;> exact hl
      · cases S j <;> cases S' j <;> simp only [if_true, Bool.false_eq_true, if_false, app_tmp _ _ _ _ hp] <;> exact h

theorem foldS_blk (S S' : Nat → Bool) (K : Nat) : ∀ (l : List (Oper × Dsc)) (j : Nat) (st st' : St), st.heap.length = st'.heap.length → blk st.heap K = blk st'.heap K →
    (∀ i p, l[i]? = some p → writesB p.2 K → S (j + i) = S' (j + i)) → blk (foldS S j l st).heap K = blk (foldS S' j l st').heap K
  | [], _, _, _, _, h, _ => h
  | p :: l, j, st, st', hl, h, hw => by
    simp only [foldS]
    have hrest : ∀ i q, l[i]? = some q → writesB q.2 K → S (j + 1 + i) = S' (j + 1 + i) := fun i q hi hq => by
      have := hw (i + 1) q (by simpa using hi) hq
      rwa [show j + 1 + i = j + (i + 1) by omega]
    by_cases hp : writesB p.2 K
    · have h0 := hw 0 p rfl hp
      simp only [Nat.add_zero] at h0
      rw [h0]
      cases S' j
      · exact foldS_blk S S' K l (j + 1) _ _ hl h hrest
      · exact foldS_blk S S' K l (j + 1) _ _ (by rw [if_pos rfl, if_pos rfl, app_heap_len, app_heap_len]; exact hl) (by rw [if_pos rfl, if_pos rfl]; exact app_blk_congr _ _ _ _ _ hl h) hrest
    · refine foldS_blk S S' K l (j + 1) _ _ ?_ ?_ hrest
      · cases S j <;> cases S' j <;> simp only [if_true, Bool.false_eq_true, if_false, app_heap_len] <;> exact hl
      · cases S j <;> cases S' j <;> simp only [if_true, Bool.false_eq_true, if_false, app_blk _ _ _ _ hp] <;> exact h

/-! ### one more -/
theorem setN_comm : ∀ (T : List AV) (i j : Nat) (x y : AV), i ≠ j → setN (setN T i x) j y = setN (setN T j y) i x
  | [], _, _, _, _, _ => rfl
  | _ :: _, 0, 0, _, _, h => absurd rfl h
  | _ :: _, 0, _ + 1, _, _, _ => rfl
  | _ :: _, _ + 1, 0, _, _, _ => rfl
  | z :: T, i + 1, j + 1, x, y, h => by simpa [setN] using setN_comm T i j x y (fun e => h (by rw [e]))
theorem setB_comm : ∀ (T : List Blk) (i j : Nat) (x y : Blk), i ≠ j → setB (setB T i x) j y = setB (setB T j y) i x
  | [], _, _, _, _, _ => rfl
  | _ :: _, 0, 0, _, _, h => absurd rfl h
  | _ :: _, 0, _ + 1, _, _, _ => rfl
  | _ :: _, _ + 1, 0, _, _, _ => rfl
  | z :: T, i + 1, j + 1, x, y, h => by simpa [setB] using setB_comm T i j x y (fun e => h (by rw [e]))

def Commutes (p q : Oper × Dsc) : Prop := (∀ s, p.1.dst = some s → q.1.dst ≠ some s) ∧ (∀ K, writesB p.2 K → ¬ writesB q.2 K)

theorem putO_comm (T : List AV) (x y : Option Tmp) (v u : AV) (h : ∀ s, x = some s → y ≠ some s) : putO (putO T x v) y u = putO (putO T y u) x v := by
  cases x with
  | none => rfl
  | some i =>
    cases y with
    | none => rfl
    | some j => exact setN_comm T i j v u (fun e => h i rfl (by rw [e]))

theorem app_comm {p q : Oper × Dsc} (h : Commutes p q) (st : St) : app q.1 q.2 (app p.1 p.2 st) = app p.1 p.2 (app q.1 q.2 st) := by
  obtain ⟨o, d⟩ := p
  obtain ⟨o', d'⟩ := q
  obtain ⟨h1, h2⟩ := h
  simp only at h1 h2 ⊢
  cases d <;> cases d' <;> simp only [app] <;> rw [putO_comm _ _ _ _ _ h1]
  rename_i v u v' u'
  congr 1
  cases u with
  | none => rfl
  | some q =>
    cases u' with
    | none => rfl
    | some q' =>
      obtain ⟨K, b⟩ := q
      obtain ⟨K', b'⟩ := q'
      exact setB_comm _ _ _ _ _ (fun e => h2 K ⟨v, b, rfl⟩ ⟨v', b', by rw [e]⟩)

theorem foldS_app (S : Nat → Bool) (p : Oper × Dsc) : ∀ (l : List (Oper × Dsc)) (j : Nat) (st : St), (∀ i q, l[i]? = some q → S (j + i) = true → Commutes p q) → foldS S j l (app p.1 p.2 st) = app p.1 p.2 (foldS S j l st)
  | [], _, _, _ => rfl
  | q :: l, j, st, h => by
    have hrest : ∀ i q', l[i]? = some q' → S (j + 1 + i) = true → Commutes p q' := fun i q' hi hs => h (i + 1) q' (by simpa using hi) (by rwa [show j + (i + 1) = j + 1 + i by omega])
    simp only [foldS]
    cases hj : S j with
    | false => exact foldS_app S p l (j + 1) st hrest
    | true =>
      simp only [if_true]
      rw [app_comm (h 0 q rfl (by simpa using hj)) st]
      exact foldS_app S p l (j + 1) _ hrest

theorem foldS_put (S S' : Nat → Bool) (n : Nat) (p : Oper × Dsc) : ∀ (l : List (Oper × Dsc)) (j : Nat) (st : St), l[n]? = some p → S (j + n) = false → S' (j + n) = true → (∀ i, i ≠ j + n → S' i = S i) →
    (∀ i q, l[i]? = some q → n < i → S (j + i) = true → Commutes p q) → foldS S' j l st = app p.1 p.2 (foldS S j l st)
  | [], _, _, h, _, _, _, _ => by simp at h
  | q :: l, j, st, h, h0, h1, hs, hc => by
    cases n with
    | zero =>
      simp at h
      subst h
      simp only [Nat.add_zero] at h0 h1 hs
      simp only [foldS, h0, h1, if_true, Bool.false_eq_true, if_false]
      have e : ∀ (l : List (Oper × Dsc)) (i : Nat) (st : St), j < i → foldS S' i l st = foldS S i l st := by
        intro l
        induction l with
        | nil => intro i st _; rfl
        | cons q l ih => intro i st hi; simp only [foldS, hs i (by omega)]; exact ih (i + 1) _ (by omega)
      rw [e _ _ _ (by omega)]
      exact foldS_app S q l (j + 1) st (fun i q' hi hs' => hc (i + 1) q' (by simpa using hi) (by omega) (by rwa [show j + (i + 1) = j + 1 + i by omega]))
    | succ n =>
      simp only [foldS]
      rw [hs j (by omega)]
      exact foldS_put S S' n p l (j + 1) _ (by simpa using h) (by rwa [show j + 1 + n = j + (n + 1) by omega]) (by rwa [show j + 1 + n = j + (n + 1) by omega]) (fun i hi => hs i (by omega))
        (fun i q' hi hlt hs' => hc (i + 1) q' (by simpa using hi) (by omega) (by rwa [show j + (i + 1) = j + 1 + i by omega]))

end Go.Proofs.YtbikcndldcfffaaDoor.Sim
