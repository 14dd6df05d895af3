/- Whatever order is drawn: the theorem. Condition: none beyond what it says. -/
import Derived.Test.YtbikcndldcfffaaDoorSimDraw3
namespace Go.Proofs.YtbikcndldcfffaaDoor.Sim
open Go.RowKit

theorem list_ext_blk : ∀ {H H' : List Blk}, H.length = H'.length → (∀ K, blk H K = blk H' K) → H = H'
  | [], [], _, _ => rfl
  | b :: H, b' :: H', hl, h => by
    have h0 : b = b' := h 0
    rw [h0, list_ext_blk (H := H) (H' := H') (by simpa using hl) (fun K => h (K + 1))]
  | [], _ :: _, h, _ => by simp at h
  | _ :: _, [], h, _ => by simp at h

theorem evA_local {all : Array Oper} {o : Oper} {T T' : List AV} (h : ∀ s ∈ Oper.looksAt all o, nth T s = nth T' s) : ∀ x ∈ o.op.operands, evA T x = evA T' x := by
  intro x hx
  cases x with
  | tmp t =>
    refine h t (List.mem_append_left _ (List.mem_filterMap.2 ⟨.tmp t, by simpa using hx, rfl⟩))
  | const v => rfl
  | global g => rfl
  | func f => rfl

theorem gA_local {all : Array Oper} {o : Oper} {T T' : List AV} (h : ∀ s ∈ Oper.looksAt all o, nth T s = nth T' s) : gA all o T = gA all o T' := by
  unfold gA
  cases hg : o.guard with
  | none => rfl
  | some jw =>
    obtain ⟨j, want⟩ := jw
    simp only
    cases hd : (all[j]?).bind (·.dst) with
    | none => rfl
    | some d =>
      simp only
      rw [h d (by unfold Oper.looksAt; rw [hg]; simp only; rw [hd]; exact List.mem_append_right _ (by simp))]

theorem does_local {E : Env} {all : Array Oper} {new i : Nat} {o : Oper} {st st' : St} {d : Dsc} (h : Does E all new o st d) (hT : ∀ s ∈ Oper.looksAt all o, nth st.tmps s = nth st'.tmps s)
    (hB : isEff d = true → ∀ K, K ∈ (accOf E new o st.tmps i).rd ∨ K ∈ (accOf E new o st.tmps i).wr → blk st.heap K = blk st'.heap K)
    (hA : isEff d = true → (accOf E new o st.tmps i).all = true → st.heap = st'.heap) : Does E all new o st' d := by
  cases d with
  | skip => exact (gA_local hT).symm.trans h
  | eff v u =>
    obtain ⟨hg, he⟩ := h
    have hv := opV_local E o st st' (evA_local hT) (fun K hK => hB rfl K (rdK_acc E new i o st.tmps K hK))
    refine ⟨(gA_local hT).symm.trans hg, ?_⟩
    rcases he with ⟨h1, h2⟩ | ⟨b, vf, h1, h2⟩ | ⟨K, b, h1, h2⟩ | ⟨f, args, h1, h2⟩ | ⟨f, args, H', h1, h2, h3, h4, h6⟩
    · exact .inl ⟨hv.symm.trans h1, h2⟩
    · exact .inr (.inl ⟨b, vf, hv.symm.trans h1, h2⟩)
    · exact .inr (.inr (.inl ⟨K, b, hv.symm.trans h1, h2⟩))
    · exact .inr (.inr (.inr (.inl ⟨f, args, hv.symm.trans h1, h2⟩)))
    · have := hA rfl (acc_call h1 h3)
      rw [this] at h6
      exact .inr (.inr (.inr (.inr ⟨f, args, H', hv.symm.trans h1, h2, h3, h4, h6⟩)))

theorem writes_acc {E : Env} {all : Array Oper} {new i : Nat} {o : Oper} {st : St} {d : Dsc} {K : Nat} (h : Does E all new o st d) (hw : writesB d K) : isEff d = true ∧ K ∈ (accOf E new o st.tmps i).wr := by
  obtain ⟨v, b, rfl⟩ := hw
  refine ⟨rfl, ?_⟩
  rcases h.2 with ⟨h1, h2⟩ | ⟨b', vf, h1, h2, h3⟩ | ⟨K', b', h1, h2, h3⟩ | ⟨f, args, h1, h2, _⟩ | ⟨f, args, H', h1, h2, _⟩
  · cases h2
  · injection h3 with h3; injection h3 with h3 h4; subst h3; exact (acc_new h1).1
  · injection h3 with h3; injection h3 with h3 h4; subst h3; exact acc_wr h1
  · cases h2
  · cases h2

theorem ordered_lt {ops : List Oper} (he : edgesOk 0 ops = true) : ∀ (j i : Nat), j < ops.length → ordered (befores [] ops) i j = true → i < j := by
  intro j
  induction j using Nat.strongRecOn with
  | _ j ih =>
    intro i hj ho
    have hoj := List.getElem?_eq_getElem hj
    unfold ordered at ho
    have hg := (befores_get ops []).2 (by simpa using he) j _ hoj
    simp only [List.length_nil, Nat.zero_add] at hg
    rw [hg] at ho
    obtain ⟨e, he1, he2, he3⟩ := maskOf_bit ho
    have hlt : e.on < j := by simpa using (edgesOk_of he j _ hoj).1 e he1 he2
    rcases he3 with he3 | he3
    · omega
    · have := ih e.on hlt i (by omega) he3; omega

/-- What is known of the order of the text. -/
structure Told (E : Env) (ops : Array Oper) (base : Nat) (L : List (Oper × Dsc)) (st1 : St) (as : List Acc) : Prop where
  text : L.map (·.1) = ops.toList
  edges : edgesOk 0 ops.toList = true
  apart : apartAll ops (befores [] ops.toList) 0 ops.toList = true
  clash : noClash (befores [] ops.toList) as = true
  does : ∀ (j : Nat) o d, L[j]? = some (o, d) → Does E ops (base + j) o (runAll (L.take j) st1) d ∧ (isEff d = true → accOf E (base + j) o (runAll (L.take j) st1).tmps j ∈ as)

structure Closed (ops : List Oper) (S : Nat → Bool) : Prop where
  out : ∀ j o, ops[j]? = some o → S j = true → ∀ e ∈ o.after.toList, Region.binds .any e = true → S e.on = true

section
variable {E : Env} {ops : Array Oper} {base : Nat} {L : List (Oper × Dsc)} {st1 : St} {as : List Acc}

theorem Told.get (h : Told E ops base L st1 as) {j : Nat} {p : Oper × Dsc} (hj : L[j]? = some p) : ops.toList[j]? = some p.1 := by
  rw [← h.text, List.getElem?_map, hj]; rfl
theorem Told.len (h : Told E ops base L st1 as) : L.length = ops.toList.length := by rw [← h.text]; simp

theorem acc_idx (E : Env) (new i : Nat) (o : Oper) (T : List AV) : (accOf E new o T i).idx = i := by
  obtain ⟨dst, op, type, pos, after, guard⟩ := o
  unfold accOf
  cases op <;> try rfl
  rename_i c
  obtain ⟨callee, args, ts⟩ := c
  cases callee with
  | value f => simp only; split <;> (try rfl); cases E.isP _ <;> rfl
  | invoke r n => rfl
  | builtin b => cases b <;> rfl

/-- Who writes what an operation looks at: those of the set, just as those ahead in the text. -/
theorem Told.same (h : Told E ops base L st1 as) {S : Nat → Bool} (hS : Closed ops.toList S) {i : Nat} {o : Oper} {d : Dsc} (hi : L[i]? = some (o, d)) (h0 : S i = false)
    (hr : ∀ e ∈ o.after.toList, Region.binds .any e = true → S e.on = true) {j : Nat} {p : Oper × Dsc} (hj : L[j]? = some p)
    (hm : j ≠ i → ordered (befores [] ops.toList) i j = true ∨ ordered (befores [] ops.toList) j i = true) : S j = decide (j < i) := by
  have hil : i < ops.toList.length := by rw [← h.len]; exact (List.getElem?_eq_some_iff.1 hi).1
  have hjl : j < ops.toList.length := by rw [← h.len]; exact (List.getElem?_eq_some_iff.1 hj).1
  by_cases e : j = i
  · subst e; simp [h0]
  · rcases hm e with ho | ho
    · have := ordered_lt h.edges j i hjl ho
      have hn : S j = false := by
        cases hs : S j with
        | false => rfl
        | true => rw [closed_of h.edges hS.out j i hjl hs ho] at h0; cases h0
      rw [hn]; simp; omega
    · have := ordered_lt h.edges i j hil ho
      rw [ahead_of h.edges hS.out (h.get hi) hr ho]; simp; omega

theorem Told.doesAt (h : Told E ops base L st1 as) {S : Nat → Bool} (hS : Closed ops.toList S) {i : Nat} {o : Oper} {d : Dsc} (hi : L[i]? = some (o, d)) (h0 : S i = false)
    (hr : ∀ e ∈ o.after.toList, Region.binds .any e = true → S e.on = true) : Does E ops (base + i) o (foldS S 0 L st1) d := by
  obtain ⟨hd, hacc⟩ := h.does i o d hi
  have hlt := foldS_lt L 0 i st1
  rw [← hlt] at hd hacc
  have clashed : ∀ K j p, isEff d = true → (K ∈ (accOf E (base + i) o (foldS (fun x => decide (x < 0 + i)) 0 L st1).tmps i).rd ∨ K ∈ (accOf E (base + i) o (foldS (fun x => decide (x < 0 + i)) 0 L st1).tmps i).wr ∨ (accOf E (base + i) o (foldS (fun x => decide (x < 0 + i)) 0 L st1).tmps i).all = true) →
      L[j]? = some p → writesB p.2 K → j ≠ i → ordered (befores [] ops.toList) i j = true ∨ ordered (befores [] ops.toList) j i = true := by
    intro K j p he hK hj hw hne
    obtain ⟨o', d'⟩ := p
    obtain ⟨hd', hacc'⟩ := h.does j o' d' hj
    obtain ⟨he', hw'⟩ := writes_acc (i := j) hd' hw
    have := noClash_of h.clash _ (hacc he) _ (hacc' he') (by rw [acc_idx, acc_idx]; exact fun e => hne e.symm)
    rw [acc_idx, acc_idx] at this
    rcases this with h1 | h1 | h1 | h1
    · exact .inl h1
    · exact .inr h1
    · rw [clash_symm hw' hK] at h1; cases h1
    · rw [clash_wr hw' hK] at h1; cases h1
  have hB : ∀ K, isEff d = true → (K ∈ (accOf E (base + i) o (foldS (fun x => decide (x < 0 + i)) 0 L st1).tmps i).rd ∨ K ∈ (accOf E (base + i) o (foldS (fun x => decide (x < 0 + i)) 0 L st1).tmps i).wr ∨ (accOf E (base + i) o (foldS (fun x => decide (x < 0 + i)) 0 L st1).tmps i).all = true) →
      blk (foldS (fun x => decide (x < 0 + i)) 0 L st1).heap K = blk (foldS S 0 L st1).heap K := by
    intro K he hK
    refine foldS_blk _ _ K L 0 st1 st1 rfl rfl fun j p hj hw => ?_
    have := h.same hS hi h0 hr hj (clashed K j p he hK hj hw)
    simp only [Nat.zero_add]
    exact this.symm
  refine does_local (i := i) hd (fun s hs => ?_) (fun he K hK => hB K he (hK.elim .inl fun h => .inr (.inl h))) (fun he hall => ?_)
  · refine foldS_tmp _ _ s L 0 st1 st1 rfl rfl fun j p hj hw => ?_
    have := h.same hS hi h0 hr hj (fun hne => by
      rcases Nat.lt_or_gt_of_ne hne with hlt' | hgt
      · rcases apartAll_of h.apart j i p.1 o hlt' (h.get hj) (h.get hi) with ho | ha
        · right; simpa using ho
        · exact absurd hs ((Oper.apart_spec ha).1 s hw)
      · rcases apartAll_of h.apart i j o p.1 hgt (h.get hi) (h.get hj) with ho | ha
        · left; simpa using ho
        · exact absurd hs ((Oper.apart_spec ha).2.2 s hw))
    simp only [Nat.zero_add]
    exact this.symm
  · have hl : (foldS (fun x => decide (x < 0 + i)) 0 L st1).heap.length = (foldS S 0 L st1).heap.length := by rw [foldS_heap_len, foldS_heap_len]
    exact list_ext_blk hl (fun K => hB K he (.inr (.inr hall)))

theorem Told.put (h : Told E ops base L st1 as) {S S' : Nat → Bool} (hS : Closed ops.toList S) {i : Nat} {o : Oper} {d : Dsc} (hi : L[i]? = some (o, d)) (h0 : S i = false) (h1 : S' i = true) (hs : ∀ j, j ≠ i → S' j = S j) :
    foldS S' 0 L st1 = app o d (foldS S 0 L st1) := by
  refine foldS_put S S' i (o, d) L 0 st1 hi (by simpa using h0) (by simpa using h1) (by simpa using hs) fun j q hj hlt hsj => ?_
  simp only [Nat.zero_add] at hsj
  have hjl : j < ops.toList.length := by rw [← h.len]; exact (List.getElem?_eq_some_iff.1 hj).1
  have hno : ordered (befores [] ops.toList) i j ≠ true := fun ho => by rw [closed_of h.edges hS.out j i hjl hsj ho] at h0; cases h0
  have hno' : ordered (befores [] ops.toList) j i ≠ true := fun ho => by
    have := ordered_lt h.edges i j (by omega) ho
    omega
  refine ⟨fun s hd => ?_, fun K hw hw' => ?_⟩
  · rcases apartAll_of h.apart i j o q.1 hlt (h.get hi) (h.get hj) with ho | ha
    · exact absurd (by simpa using ho) hno
    · exact (Oper.apart_spec ha).2.1 s hd
  · obtain ⟨o', d'⟩ := q
    obtain ⟨hd1, hacc1⟩ := h.does i o d hi
    obtain ⟨hd2, hacc2⟩ := h.does j o' d' hj
    obtain ⟨e1, w1⟩ := writes_acc (i := i) hd1 hw
    obtain ⟨e2, w2⟩ := writes_acc (i := j) hd2 hw'
    have := noClash_of h.clash _ (hacc1 e1) _ (hacc2 e2) (by rw [acc_idx, acc_idx]; omega)
    rw [acc_idx, acc_idx] at this
    rcases this with hq | hq | hq | hq
    · exact hno hq
    · exact hno' hq
    · rw [clash_wr w1 (.inr (.inl w2))] at hq; cases hq
    · rw [clash_wr w2 (.inr (.inl w1))] at hq; cases hq
end

end Go.Proofs.YtbikcndldcfffaaDoor.Sim
