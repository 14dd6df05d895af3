/- A region whose operations are carried out in whatever order its edges allow comes to what the order of its text comes to: the theorem. Condition: none beyond what each theorem says. -/
import Derived.Test.YtbikcndldcfffaaDoorSimDraw2
namespace Go.Proofs.YtbikcndldcfffaaDoor.Sim
open Go.RowKit

theorem memN_of {x : Nat} : ∀ {l : List Nat}, x ∈ l → memN x l = true
  | y :: l, h => by
    rcases List.mem_cons.1 h with e | e
    · subst e; simp [memN]
    · simp [memN, memN_of e]
theorem meets_of {x : Nat} : ∀ {l m : List Nat}, x ∈ l → x ∈ m → meets l m = true
  | y :: l, m, h, hm => by
    rcases List.mem_cons.1 h with e | e
    · subst e; simp [meets, memN_of hm]
    · simp [meets, meets_of e hm]
theorem notNil_of {x : Nat} {l : List Nat} (h : x ∈ l) : notNil l = true := by cases l <;> simp_all [notNil]

theorem clash_wr {a b : Acc} {K : Nat} (h1 : K ∈ a.wr) (h2 : K ∈ b.rd ∨ K ∈ b.wr ∨ b.all = true) : a.clash b = true := by
  unfold Acc.clash
  rcases h2 with h2 | h2 | h2
  · simp [meets_of h1 h2]
  · simp [meets_of h1 h2]
  · simp [h2, notNil_of h1]

/-- In no order, and met: then they do not clash. -/
theorem noClash_of {bf : List Nat} : ∀ {l : List Acc}, noClash bf l = true → ∀ a ∈ l, ∀ b ∈ l, a.idx ≠ b.idx → (ordered bf a.idx b.idx = true ∨ ordered bf b.idx a.idx = true ∨ (a.clash b = false ∨ b.clash a = false))
  | c :: l, h, a, ha, b, hb, hne => by
    simp only [noClash, Bool.and_eq_true] at h
    have key : ∀ {l : List Acc}, clashFree bf c l = true → ∀ x ∈ l, (ordered bf c.idx x.idx = true ∨ ordered bf x.idx c.idx = true ∨ c.clash x = false) := by
      intro l
      induction l with
      | nil => intro _ x hx; simp at hx
      | cons y l ih =>
        intro h x hx
        simp only [clashFree, Bool.and_eq_true, Bool.or_eq_true, Bool.not_eq_true'] at h
        rcases List.mem_cons.1 hx with e | e
        · subst e
          rcases h.1 with (h1 | h1) | h1
          · exact .inl h1
          · exact .inr (.inl h1)
          · exact .inr (.inr h1)
        · exact ih h.2 x e
    rcases List.mem_cons.1 ha with e | e <;> rcases List.mem_cons.1 hb with e' | e'
    · subst e e'; exact absurd rfl hne
    · subst e
      rcases key h.1 b e' with h1 | h1 | h1
      · exact .inl h1
      · exact .inr (.inl h1)
      · exact .inr (.inr (.inl h1))
    · subst e'
      rcases key h.1 a e with h1 | h1 | h1
      · exact .inr (.inl h1)
      · exact .inl h1
      · exact .inr (.inr (.inr h1))
    · exact noClash_of h.2 a e b e' hne

theorem clash_symm {a b : Acc} {K : Nat} (h1 : K ∈ a.wr) (h2 : K ∈ b.rd ∨ K ∈ b.wr ∨ b.all = true) : b.clash a = true := by
  unfold Acc.clash
  rcases h2 with h2 | h2 | h2
  · simp [meets_of h2 h1]
  · simp [meets_of h2 h1]
  · simp [h2, notNil_of h1]

/-! ### what comes ahead -/
theorem maskOf_bit {acc : List Nat} {i : Nat} : ∀ {es : List Edge}, (maskOf acc es).testBit i = true → ∃ e ∈ es, Region.binds .any e = true ∧ (e.on = i ∨ (acc.getD e.on 0).testBit i = true)
  | [], h => by simp [maskOf] at h
  | e :: es, h => by
    unfold maskOf at h
    cases hb : Region.binds .any e with
    | false =>
      rw [hb] at h
      obtain ⟨e', h1, h2⟩ := maskOf_bit h
      exact ⟨e', List.mem_cons_of_mem _ h1, h2⟩
    | true =>
      rw [hb] at h
      simp only [cond, Nat.testBit_or, Bool.or_eq_true] at h
      rcases h with (h | h) | h
      · refine ⟨e, List.mem_cons_self .., hb, .inl ?_⟩
        rw [Nat.testBit_two_pow] at h
        simpa using h
      · exact ⟨e, List.mem_cons_self .., hb, .inr h⟩
      · obtain ⟨e', h1, h2⟩ := maskOf_bit h
        exact ⟨e', List.mem_cons_of_mem _ h1, h2⟩

theorem maskOf_ext {acc acc' : List Nat} {n : Nat} : ∀ {es : List Edge}, (∀ e ∈ es, Region.binds .any e = true → e.on < n) → (∀ i, i < n → acc.getD i 0 = acc'.getD i 0) → maskOf acc es = maskOf acc' es
  | [], _, _ => rfl
  | e :: es, h, ha => by
    unfold maskOf
    have ih := maskOf_ext (es := es) (fun e' he' => h e' (List.mem_cons_of_mem _ he')) ha
    rw [ih]
    cases hb : Region.binds .any e with
    | false => rfl
    | true => rw [ha e.on (h e (List.mem_cons_self ..) hb)]

theorem edgesOk_of : ∀ {os : List Oper} {i : Nat}, edgesOk i os = true → ∀ j o, os[j]? = some o → (∀ e ∈ o.after.toList, Region.binds .any e = true → e.on < i + j) ∧ (∀ cs b, o.op ≠ .select cs b)
  | [], _, _, j, o, h => by simp at h
  | p :: os, i, h, j, o, hj => by
    simp only [edgesOk, Bool.and_eq_true] at h
    cases j with
    | zero =>
      simp at hj
      subst hj
      refine ⟨fun e he hb => ?_, fun cs b hs => ?_⟩
      · have := Array.all_eq_true_iff_forall_mem.1 h.1.1 e (by simpa using he)
        rw [hb] at this
        simpa using this
      · have := h.1.2
        rw [hs] at this
        cases this
    | succ j =>
      have := edgesOk_of h.2 j o (by simpa using hj)
      rwa [show i + 1 + j = i + (j + 1) by omega] at this

theorem befores_get : ∀ (os : List Oper) (acc : List Nat), (∀ j, j < acc.length → (befores acc os).getD j 0 = acc.getD j 0) ∧
    (edgesOk acc.length os = true → ∀ j o, os[j]? = some o → (befores acc os).getD (acc.length + j) 0 = maskOf (befores acc os) o.after.toList)
  | [], acc => ⟨fun _ _ => rfl, fun _ j o h => by simp at h⟩
  | p :: os, acc => by
    obtain ⟨h1, h2⟩ := befores_get os (acc ++ [maskOf acc p.after.toList])
    have hl : (acc ++ [maskOf acc p.after.toList]).length = acc.length + 1 := by simp
    have hpre : ∀ j, j < acc.length → (befores acc (p :: os)).getD j 0 = acc.getD j 0 := fun j hj => by
      show (befores (acc ++ [maskOf acc p.after.toList]) os).getD j 0 = _
      rw [h1 j (by omega)]
      simp [List.getD, List.getElem?_append_left hj]
    refine ⟨hpre, fun he j o hj => ?_⟩
    have he' := he
    simp only [edgesOk, Bool.and_eq_true] at he'
    cases j with
    | zero =>
      simp at hj
      subst hj
      show (befores (acc ++ [maskOf acc p.after.toList]) os).getD (acc.length + 0) 0 = maskOf (befores (acc ++ [maskOf acc p.after.toList]) os) p.after.toList
      rw [h1 (acc.length + 0) (by omega)]
      rw [show (acc ++ [maskOf acc p.after.toList]).getD (acc.length + 0) 0 = maskOf acc p.after.toList from by simp [List.getD]]
      refine maskOf_ext (n := acc.length) (fun e hm hb => ?_) (fun i hi => (hpre i hi).symm)
      have := (edgesOk_of he 0 p rfl).1 e hm hb
      simpa using this
    | succ j =>
      have := h2 (by rw [hl]; exact he'.2) j o (by simpa using hj)
      rw [hl, show acc.length + 1 + j = acc.length + (j + 1) by omega] at this
      exact this

/-- A set of operations with whatever an edge asks is a set with whatever comes ahead. -/
theorem closed_of {ops : List Oper} (he : edgesOk 0 ops = true) {S : Nat → Bool} (hS : ∀ j o, ops[j]? = some o → S j = true → ∀ e ∈ o.after.toList, Region.binds .any e = true → S e.on = true) :
    ∀ (j i : Nat), j < ops.length → S j = true → ordered (befores [] ops) i j = true → S i = true := by
  intro j
  induction j using Nat.strongRecOn with
  | _ j ih =>
    intro i hj hs ho
    have hoj := List.getElem?_eq_getElem hj
    unfold ordered at ho
    have hg := (befores_get ops []).2 (by simpa using he) j _ hoj
    simp only [List.length_nil, Nat.zero_add] at hg
    rw [hg] at ho
    obtain ⟨e, he1, he2, he3⟩ := maskOf_bit ho
    have hse := hS j _ hoj hs e he1 he2
    have hlt : e.on < j := by simpa using (edgesOk_of he j _ hoj).1 e he1 he2
    rcases he3 with he3 | he3
    · rw [← he3]; exact hse
    · exact ih e.on hlt i (by omega) hse he3

/-- What comes ahead of an operation whose edges are all met. -/
theorem ahead_of {ops : List Oper} (he : edgesOk 0 ops = true) {S : Nat → Bool} (hS : ∀ j o, ops[j]? = some o → S j = true → ∀ e ∈ o.after.toList, Region.binds .any e = true → S e.on = true)
    {j : Nat} {o : Oper} (hj : ops[j]? = some o) (hr : ∀ e ∈ o.after.toList, Region.binds .any e = true → S e.on = true) {i : Nat} (ho : ordered (befores [] ops) i j = true) : S i = true := by
  have hlt : j < ops.length := (List.getElem?_eq_some_iff.1 hj).1
  unfold ordered at ho
  have hg := (befores_get ops []).2 (by simpa using he) j o hj
  simp only [List.length_nil, Nat.zero_add] at hg
  rw [hg] at ho
  obtain ⟨e, he1, he2, he3⟩ := maskOf_bit ho
  have hse := hr e he1 he2
  have hlt' : e.on < j := by simpa using (edgesOk_of he j o hj).1 e he1 he2
  rcases he3 with he3 | he3
  · rw [← he3]; exact hse
  · exact closed_of he hS e.on i (by omega) hse he3

theorem apartFrom_of {all : Array Oper} {bf : List Nat} {i : Nat} {o : Oper} : ∀ {os : List Oper} {j : Nat}, apartFrom all bf i o j os = true → ∀ n o', os[n]? = some o' → ordered bf i (j + n) = true ∨ Oper.apart all o o' = true
  | [], _, _, n, o', h => by simp at h
  | p :: os, j, h, n, o', hn => by
    simp only [apartFrom, Bool.and_eq_true, Bool.or_eq_true] at h
    cases n with
    | zero => simp at hn; subst hn; exact h.1
    | succ n =>
      have := apartFrom_of h.2 n o' (by simpa using hn)
      rwa [show j + 1 + n = j + (n + 1) by omega] at this
theorem apartAll_of {all : Array Oper} {bf : List Nat} : ∀ {os : List Oper} {i : Nat}, apartAll all bf i os = true → ∀ n m o o', n < m → os[n]? = some o → os[m]? = some o' → ordered bf (i + n) (i + m) = true ∨ Oper.apart all o o' = true
  | [], _, _, n, m, o, o', _, h, _ => by simp at h
  | p :: os, i, h, n, m, o, o', hlt, hn, hm => by
    simp only [apartAll, Bool.and_eq_true] at h
    cases m with
    | zero => omega
    | succ m =>
      cases n with
      | zero =>
        simp at hn; subst hn
        have := apartFrom_of h.1 m o' (by simpa using hm)
        rwa [show i + 1 + m = i + (m + 1) by omega] at this
      | succ n =>
        have := apartAll_of h.2 n m o o' (by omega) (by simpa using hn) (by simpa using hm)
        rwa [show i + 1 + n = i + (n + 1) by omega, show i + 1 + m = i + (m + 1) by omega] at this

end Go.Proofs.YtbikcndldcfffaaDoor.Sim
