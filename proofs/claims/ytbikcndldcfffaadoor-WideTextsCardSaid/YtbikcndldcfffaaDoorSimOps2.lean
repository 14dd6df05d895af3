/- Each operation of the machine does what the abstract run says of it: values. Condition: none beyond what each lemma says. -/
import Derived.Test.YtbikcndldcfffaaDoorSimOps
namespace Go.Proofs.YtbikcndldcfffaaDoor.Sim
open Go.RowKit
variable {P : Program} {m : BM}

/-! ### inversions -/
theorem vr_int {k : IntKind} {n : Int} {v : Value} (h : VR m (.int k n) v) : v = .int k n := by cases h; rfl
theorem vr_bool {b : Bool} {v : Value} (h : VR m (.bool b) v) : v = .bool b := by cases h; rfl
theorem vr_str {s : ByteArray} {v : Value} (h : VR m (.str s) v) : v = .string s := by cases h; rfl
theorem vr_agg {cs : List AV} {v : Value} (h : VR m (.agg cs) v) : ∃ vs, v = .agg vs.toArray ∧ VRs m cs vs := by cases h; exact ⟨_, rfl, by assumption⟩
theorem vr_tup {cs : List AV} {v : Value} (h : VR m (.tup cs) v) : ∃ vs, v = .tuple vs.toArray ∧ VRs m cs vs := by cases h; exact ⟨_, rfl, by assumption⟩
theorem vr_ptr {K o : Nat} {v : Value} (h : VR m (.ptr (some (K, o))) v) : ∃ r, v = .pointer (some ⟨r, o, none⟩) ∧ m K = some r := by cases h; exact ⟨_, rfl, by assumption⟩
theorem vr_sl {K o l c : Nat} {v : Value} (h : VR m (.slice (some (K, o)) l c) v) : ∃ r, v = .slice (some ⟨r, o, none⟩) l c ∧ m K = some r := by cases h; exact ⟨_, rfl, by assumption⟩
theorem vr_sl0 {l c : Nat} {v : Value} (h : VR m (.slice none l c) v) : v = .slice none l c := by cases h; rfl
theorem vr_fn {f : FuncId} {a b : List AV} {v : Value} (h : VR m (.fn f a b) v) : ∃ va vb, v = .func (.func f) va.toArray vb.toArray ∧ VRs m a va ∧ VRs m b vb := by cases h; exact ⟨_, _, rfl, by assumption, by assumption⟩
theorem vr_iface {t : TypeId} {x : AV} {v : Value} (h : VR m (.iface t x) v) : ∃ v', v = .iface t v' ∧ VR m x v' := by cases h; exact ⟨_, rfl, by assumption⟩
theorem vr_nilI {v : Value} (h : VR m .nilI v) : v = .nilIface := by cases h; rfl

/-! ### sizes, zeros -/
theorem zeroA_of {t : TypeId} {z : AV} (h : zeroA P t = some z) : ∃ i z', P.info? t = some i ∧ i.zero = some z' ∧ VR m z z' := by
  unfold zeroA at h
  cases hi : P.info? t with
  | none => simp [hi] at h
  | some i =>
    cases hz : i.zero with
    | none => simp [hi, hz] at h
    | some z' => simp [hi, hz] at h; subst h; exact ⟨i, z', rfl, hz, vr_ofValue m z'⟩

theorem run_zeroValue_of {t : TypeId} {z : AV} (h : zeroA P t = some z) (w : World) : ∃ z', (zeroValue t).run P w = .ok z' w ∧ VR m z z' := by
  obtain ⟨i, z', h1, h2, h3⟩ := zeroA_of (m := m) h
  exact ⟨z', by simp [zeroValue, typeInfo, h1, h2], h3⟩

theorem unfrozen0 (n : Nat) : Unfrozen n (0, 0) := fun o _ => by simp

theorem br_cells {t : TypeId} {cs : List AV} {vs : List Value} (h : VRs m cs vs) : BR m (.cells t cs) (some (.cells vs.toArray t (0, 0))) :=
  ⟨vs, [], (0, 0), by simp, h, unfrozen0 _⟩

theorem brings_new {s : Sem Next} {w : World} {t : TypeId} {cs : List AV} {vs : List Value} (hs : s.run P w = .ok (.value (.pointer (some ⟨w.heap.size, 0, none⟩))) { w with heap := w.heap.push (.cells vs.toArray t (0, 0)) }) (hc : VRs m cs vs) :
    Brings P m s w (.new (.cells t cs) fun K => .ptr (some (K, 0))) :=
  ⟨_, _, hs, fun _ K hle hK => ⟨br_cells (hc.mono hle), .ptr K 0 _ hK⟩⟩

theorem run_newVar (t : TypeId) (v : Value) (w : World) : (newVar t v).run P w = .ok ⟨w.heap.size, 0, none⟩ { w with heap := w.heap.push (.cells v.cells t (0, 0)) } := by
  simp [newVar, newRow, newObj, Sem.run]

theorem brings_box {w : World} {t : TypeId} {x : AV} {x' : Value} (hx : VR m x x') (hb : boxOk x = true) : Brings P m (do pure (.value (← Instr.box t x'))) w (.new (.cells t (cellsOf x)) fun K => .ptr (some (K, 0))) := by
  refine brings_new (vs := x'.cells.toList) ?_ (vrs_cellsOf' hb hx)
  simp [Instr.box, run_newVar]

theorem brings_alloc {w : World} {t : TypeId} {z : AV} (hz : zeroA P t = some z) (hb : boxOk z = true) : Brings P m (do pure (.value (← Instr.alloc t true (.tuple #[])))) w (.new (.cells t (cellsOf z)) fun K => .ptr (some (K, 0))) := by
  obtain ⟨z', h1, h2⟩ := run_zeroValue_of (m := m) hz w
  refine brings_new (vs := z'.cells.toList) ?_ (vrs_cellsOf' hb h2)
  simp [Instr.alloc, h1, run_newVar]

/-! ### parts -/
theorem part_of {t : TypeId} {cs : List AV} {vs : List Value} {off : Nat} {v : AV} (hc : VRs m cs vs) (h : partK P t cs off some = some v) (w : World) : ∃ v', (part t vs.toArray off).run P w = .ok v' w ∧ VR m v v' := by
  have hl := vrs_length hc
  unfold partK at h
  split at h
  · rename_i n ha hs
    obtain ⟨hf, hv⟩ := some_cond h
    injection hv with hv; subst hv
    refine ⟨.agg ((vs.drop off).take n).toArray, ?_, .agg _ _ (vrs_take (vrs_drop hc off) n)⟩
    simp [part, run_isAgg_true ha, run_sizeOf_of hs]
  · rename_i n ha hs
    obtain ⟨hf, hv⟩ := some_cond h
    injection hv with hv; subst hv
    have hf := fits_le hf
    obtain ⟨u, hu, hvu⟩ := vrs_get hc off (by omega)
    refine ⟨u, ?_, hvu⟩
    simp [part, run_isAgg_false ha, hu]
  · cases h

/-! ### composite values -/
theorem foldl_set (off : Nat) : ∀ (vs : List Value) (i : Nat) (l : List Value), off + i + vs.length ≤ l.length →
    ((vs.zipIdx i).foldl (fun (cs : Array Value) (x : Value × Nat) => cs.setIfInBounds (off + x.2) x.1) l.toArray) = (l.take (off + i) ++ vs ++ l.drop (off + i + vs.length)).toArray
  | [], i, l, h => by simp
  | v :: vs, i, l, h => by
    simp only [List.length_cons] at h
    simp only [List.zipIdx_cons, List.foldl_cons, List.setIfInBounds_toArray]
    rw [foldl_set off vs (i + 1) (l.set (off + i) v) (by simp; omega)]
    congr 1
    rw [List.take_set, List.drop_set]
    have h1 : (List.take (off + (i + 1)) l).set (off + i) v = List.take (off + i) l ++ [v] := by
      rw [List.set_eq_take_append_cons_drop, if_pos (by simp; omega)]
      simp [List.take_take, show min (off + i) (off + (i + 1)) = off + i by omega]
      omega
    rw [if_pos (by omega), h1]
    simp [Nat.add_assoc, Nat.add_comm 1]

inductive VRp (m : BM) : List (Nat × AV) → List (Nat × Value) → Prop
  | nil : VRp m [] []
  | cons (i : Nat) (x : AV) (v : Value) (xs : List (Nat × AV)) (vs : List (Nat × Value)) (h : VR m x v) (hs : VRp m xs vs) : VRp m ((i, x) :: xs) ((i, v) :: vs)

theorem vrs_parts {B : Nat} {w0 : World} {st : St} {a : Act} {w : World} (h : Rel B w0 m st a w) : ∀ ps : List (Nat × Operand), VRp m (mapEv st.tmps ps) (ps.map (fun p => (p.1, a.eval p.2)))
  | [] => .nil
  | (i, x) :: ps => .cons i _ _ _ _ (h.eval x) (vrs_parts h ps)

theorem fill_of {place : Nat → Option (Nat × Nat)} : ∀ {ps : List (Nat × AV)} {vs : List (Nat × Value)} {cs cs' : List AV} {l : List Value},
    VRp m ps vs → VRs m cs l → fillK P place cs ps some = some cs' →
    ∃ l', Instr.fill place l.toArray vs = some l'.toArray ∧ VRs m cs' l'
  | _, _, cs, cs', l, .nil, hc, h => by
    simp only [fillK] at h; injection h with h; subst h
    exact ⟨l, rfl, hc⟩
  | _, _, cs, cs', l, .cons i x v ps vs hxv hps, hc, h => by
    unfold fillK at h
    cases hp : place i with
    | none => simp [hp] at h
    | some q =>
      obtain ⟨off, size⟩ := q
      simp only [hp] at h
      obtain ⟨h1, h⟩ := some_cond h
      obtain ⟨h2, h⟩ := some_cond h
      obtain ⟨h3, h⟩ := some_cond h
      have hcx := vrs_cellsOf' h1 hxv
      have hlx := vrs_length hcx
      have hn : (cellsOf x).length = size := by simpa [lenIs] using h2
      have hf := fits_le h3
      have hlc := vrs_length hc
      have hsz : v.cells.size = size := by simp at hlx; omega
      obtain ⟨l', h4, h5⟩ := fill_of (l := l.take off ++ v.cells.toList ++ l.drop (off + size)) hps (by
        have := vrs_append (vrs_append (vrs_take hc off) hcx) (vrs_drop hc (off + size))
        unfold splice at h ⊢; rw [hn]; exact this) h
      refine ⟨l', ?_, h5⟩
      unfold Instr.fill
      simp only [hp, hsz]
      rw [if_neg (by simp; omega)]
      have := foldl_set off v.cells.toList 0 l (by simp; omega)
      simp only [Nat.add_zero] at this
      rw [← h4]
      congr 1
      rw [← Array.foldl_toList]
      simp only [Array.toList_zipIdx]
      rw [this]
      simp [hsz]

end Go.Proofs.YtbikcndldcfffaaDoor.Sim
