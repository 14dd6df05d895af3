/- An argument of a law, opened: its cells as values of the abstract run. Condition: none beyond what each theorem says. -/
import Derived.Test.YtbikcndldcfffaaDoorSimCfg
namespace Go.Proofs.YtbikcndldcfffaaDoor.Sim
open Go

inductive CK where
  | int (k : IntKind)
  | bool
  | str

def CK.ok : CK → AV → Prop
  | .int k, .int k' n => k' = k ∧ k.has n
  | .bool, .bool _ => True
  | .str, .str s => (s.size : Int) ≤ IntKind.i64.max
  | _, _ => False

def CKs : List CK → List AV → Prop
  | [], [] => True
  | k :: ks, a :: ys => k.ok a ∧ CKs ks ys
  | _, _ => False

def cellK (P : Program) (u : TypeId) : Option CK :=
  match P.underlying u with
  | some (.int k) => some (.int k)
  | some .bool => some .bool
  | some .string => some .str
  | _ => none

def cellKs (P : Program) : List TypeId → Option (List CK)
  | [] => some []
  | t :: ts => match cellK P t, cellKs P ts with
    | some k, some ks => some (k :: ks)
    | _, _ => none

def kindsOf (P : Program) (t : TypeId) : Option (Bool × List CK) :=
  match P.underlying t with
  | some (.struct _) | some (.array _ _) =>
    match P.cellTypes P.depth t with
    | some ts => cond (Nat.beq ts.length (P.cellsOf t)) ((cellKs P ts).map fun ks => (true, ks)) none
    | none => none
  | _ => (cellK P t).map fun k => (false, [k])

def wrapA : Bool → List AV → AV
  | true, ys => .agg ys
  | false, [a] => a
  | false, _ => .junk

theorem cell_of {P : Program} {w : World} {b : Nat} {u : TypeId} {v : Value} {k : CK} (hk : cellK P u = some k) (h : Cell.okWide P w .any b u v) : ∃ a, k.ok a ∧ VR noBM a v := by
  unfold cellK at hk
  split at hk
  · rename_i k' hu
    injection hk with hk
    subst hk
    have h2 : Cell.ok P w .any b u v := by
      unfold Cell.okWide at h; rw [hu] at h; split at h <;> simp_all
    unfold Cell.ok at h2
    rw [hu] at h2
    split at h2 <;> simp_all
    exact ⟨.int _ _, h2, by rw [h2.1]; exact VR.int _ _⟩
  · rename_i hu
    injection hk with hk
    subst hk
    have h2 : Cell.ok P w .any b u v := by
      unfold Cell.okWide at h; rw [hu] at h; split at h <;> simp_all
    unfold Cell.ok at h2
    rw [hu] at h2
    split at h2 <;> simp_all
    exact ⟨.bool _, trivial, VR.bool _⟩
  · rename_i hu
    injection hk with hk
    subst hk
    have h2 : Cell.ok P w .any b u v := by
      unfold Cell.okWide at h; rw [hu] at h; split at h <;> simp_all
    unfold Cell.ok at h2
    rw [hu] at h2
    split at h2 <;> simp_all
    exact ⟨.str _, h2, VR.str _⟩
  · cases hk

theorem cells_of {P : Program} {w : World} {b : Nat} : ∀ (ts : List TypeId) (vs : List Value) (ks : List CK), cellKs P ts = some ks → vs.length = ts.length →
    (∀ (i : Nat) (v : Value), vs[i]? = some v → ∃ u, ts[i]? = some u ∧ Cell.okWide P w .any b u v) → ∃ ys, CKs ks ys ∧ VRs noBM ys vs
  | [], [], ks, hk, _, _ => by
    injection hk with hk; subst hk
    exact ⟨[], trivial, .nil⟩
  | [], _ :: _, _, _, hl, _ => by simp at hl
  | _ :: _, [], _, _, hl, _ => by simp at hl
  | t :: ts, v :: vs, ks, hk, hl, h => by
    unfold cellKs at hk
    split at hk
    · rename_i k ks' h1 h2
      injection hk with hk; subst hk
      obtain ⟨u, hu, hc⟩ := h 0 v rfl
      simp at hu; subst hu
      obtain ⟨a, ha, hv⟩ := cell_of h1 hc
      obtain ⟨ys, has, hvs⟩ := cells_of ts vs ks' h2 (by simpa using hl) (fun i x hx => by
        obtain ⟨u, hu, hc⟩ := h (i + 1) x (by simpa using hx)
        exact ⟨u, by simpa using hu, hc⟩)
      exact ⟨a :: ys, ⟨ha, has⟩, .cons _ _ _ _ hv hvs⟩
    · cases hk

theorem open_val {P : Program} {w : World} {b : Nat} {t : TypeId} {v : Value} {g : Bool} {ks : List CK} (hk : kindsOf P t = some (g, ks)) (h : Value.okWide P w .any b t v) :
    ∃ ys, CKs ks ys ∧ VR noBM (wrapA g ys) v := by
  have agg : (∃ cs, v = .agg cs ∧ cs.size = P.cellsOf t ∧ Row.okWide P w .any b t cs) →
      (match P.cellTypes P.depth t with
        | some ts => cond (Nat.beq ts.length (P.cellsOf t)) ((cellKs P ts).map fun ks => (true, ks)) none
        | none => none) = some (g, ks) → ∃ ys, CKs ks ys ∧ VR noBM (wrapA g ys) v := by
    rintro ⟨cs, rfl, hs, ts, hts, _, hall⟩ hk
    rw [hts] at hk
    dsimp only at hk
    cases hb : Nat.beq ts.length (P.cellsOf t) with
    | false => rw [hb] at hk; cases hk
    | true =>
      rw [hb] at hk
      dsimp only [cond] at hk
      have hl : ts.length = P.cellsOf t := Nat.eq_of_beq_eq_true hb
      cases hc : cellKs P ts with
      | none => rw [hc] at hk; cases hk
      | some ks' =>
        rw [hc] at hk
        simp only [Option.map_some, Option.some.injEq, Prod.mk.injEq] at hk
        obtain ⟨rfl, rfl⟩ := hk
        obtain ⟨ys, h1, h2⟩ := cells_of ts cs.toList ks' hc (by simp [hs, hl]) (fun i v hv => by
          have hi : i < cs.size := by
            have := (List.getElem?_eq_some_iff.1 hv).1
            simpa using this
          obtain ⟨u, hu, hc⟩ := hall i v (by simpa using hv)
          rw [Nat.mod_eq_of_lt (by omega)] at hu
          exact ⟨u, hu, hc⟩)
        exact ⟨ys, h1, by simpa [wrapA] using VR.agg ys cs.toList h2⟩
  unfold kindsOf at hk
  unfold Value.okWide at h
  split at hk
  · rename_i fs hu
    rw [hu] at h
    exact agg h hk
  · rename_i n e hu
    rw [hu] at h
    exact agg h hk
  · rename_i n1 n2
    split at h
    · rename_i fs hu; exact absurd hu (n1 fs)
    · rename_i m e hu; exact absurd hu (n2 m e)
    · cases hc : cellK P t with
      | none => rw [hc] at hk; cases hk
      | some k =>
        rw [hc] at hk
        simp only [Option.map_some, Option.some.injEq, Prod.mk.injEq] at hk
        obtain ⟨rfl, rfl⟩ := hk
        obtain ⟨a, h1, h2⟩ := cell_of hc h
        exact ⟨[a], ⟨h1, trivial⟩, h2⟩

theorem cks_nil {ys : List AV} (h : CKs [] ys) : ys = [] := by
  cases ys
  · rfl
  · exact h.elim
theorem cks_int {k : IntKind} {ks : List CK} {ys : List AV} (h : CKs (.int k :: ks) ys) : ∃ n ys', ys = .int k n :: ys' ∧ k.has n ∧ CKs ks ys' := by
  cases ys with
  | nil => exact h.elim
  | cons a ys =>
    obtain ⟨h1, h2⟩ := h
    cases a <;> simp only [CK.ok] at h1
    obtain ⟨rfl, h1⟩ := h1
    exact ⟨_, _, rfl, h1, h2⟩
theorem cks_bool {ks : List CK} {ys : List AV} (h : CKs (.bool :: ks) ys) : ∃ b ys', ys = .bool b :: ys' ∧ CKs ks ys' := by
  cases ys with
  | nil => exact h.elim
  | cons a ys =>
    obtain ⟨h1, h2⟩ := h
    cases a <;> simp only [CK.ok] at h1
    exact ⟨_, _, rfl, h2⟩
theorem cks_str {ks : List CK} {ys : List AV} (h : CKs (.str :: ks) ys) : ∃ s ys', ys = .str s :: ys' ∧ (s.size : Int) ≤ IntKind.i64.max ∧ CKs ks ys' := by
  cases ys with
  | nil => exact h.elim
  | cons a ys =>
    obtain ⟨h1, h2⟩ := h
    cases a <;> simp only [CK.ok] at h1
    exact ⟨_, _, rfl, h1, h2⟩

end Go.Proofs.YtbikcndldcfffaaDoor.Sim
