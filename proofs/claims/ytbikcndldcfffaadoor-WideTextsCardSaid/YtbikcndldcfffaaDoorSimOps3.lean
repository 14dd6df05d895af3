/- Each operation of the machine does what the abstract run says of it: composite values, arithmetic. Condition: none beyond what each lemma says. -/
import Derived.Test.YtbikcndldcfffaaDoorSimOps2
namespace Go.Proofs.YtbikcndldcfffaaDoor.Sim
open Go.RowKit
variable {P : Program} {m : BM}

theorem placeF_of {fields : Array Field} (w : World) (hall : (fields.toList.all fun f => (szOf P f.type).isSome) = true) :
    ∃ pl : Array (Nat × Nat), (fields.mapM (m := Sem) (fun (f : Field) => do pure (f.offset, ← sizeOf f.type))).run P w = .ok pl w ∧ ∀ i, pl[i]? = placeF P fields i := by
  have key : ∀ (l : List Field), (l.all fun f => (szOf P f.type).isSome) = true → ∃ pl : List (Nat × Nat), (l.mapM (m := Sem) (fun (f : Field) => do pure (f.offset, ← sizeOf f.type))).run P w = .ok pl w ∧
      ∀ i : Nat, pl[i]? = (l[i]?).bind fun f => (szOf P f.type).map fun n => (f.offset, n) := by
    intro l
    induction l with
    | nil => intro _; exact ⟨[], by simp, fun i => by simp⟩
    | cons f l ih =>
      intro h
      simp only [List.all_cons, Bool.and_eq_true] at h
      obtain ⟨n, hn⟩ := Option.isSome_iff_exists.1 h.1
      obtain ⟨pl, h1, h2⟩ := ih h.2
      refine ⟨(f.offset, n) :: pl, ?_, fun i => ?_⟩
      · simp only [List.mapM_cons, Sem.run_bind, run_sizeOf_of hn, Result.andThen_ok, Sem.run_pure, h1]
      · cases i with
        | zero => simp [hn]
        | succ i => simpa using h2 i
  obtain ⟨pl, h1, h2⟩ := key fields.toList hall
  refine ⟨pl.toArray, ?_, fun i => ?_⟩
  · rw [Array.mapM_eq_mapM_toList, Sem.run_map, h1]
    rfl
  · simp only [List.getElem?_toArray, h2]
    unfold placeF
    rw [Array.getElem?_toList]
    cases fields[i]? with
    | none => rfl
    | some f => simp; cases szOf P f.type <;> rfl

theorem fill_some {place : Nat → Option (Nat × Nat)} {cs : List AV} {ps : List (Nat × AV)} {v : AV} (h : (fillK P place cs ps fun cs => some (.agg cs)) = some v) :
    ∃ cs', fillK P place cs ps some = some cs' ∧ v = .agg cs' := by
  rw [fillK_bind] at h
  cases hq : fillK P place cs ps some with
  | none => simp [hq] at h
  | some cs' => simp [hq] at h; exact ⟨cs', rfl, h.symm⟩

theorem build_of {t : TypeId} {ps : List (Nat × AV)} {vs : List (Nat × Value)} {v : AV} (hp : VRp m ps vs) (h : buildK P t ps some = some v) (w : World) :
    ∃ v', (Instr.build t vs.toArray).run P w = .ok v' w ∧ VR m v v' := by
  unfold buildK at h
  split at h
  · rename_i fields z hu hz
    obtain ⟨hb, h⟩ := some_cond h
    obtain ⟨hall, h⟩ := some_cond h
    obtain ⟨cs, hcs, rfl⟩ := fill_some h
    obtain ⟨z', hz1, hz2⟩ := run_zeroValue_of (m := m) hz w
    obtain ⟨pl, hpl1, hpl2⟩ := placeF_of (P := P) (fields := fields) w hall
    have hplf : (fun (i : Nat) => pl[i]?) = placeF P fields := funext hpl2
    obtain ⟨l', h1, h2⟩ := fill_of (l := z'.cells.toList) hp (vrs_cellsOf' hb hz2) hcs
    refine ⟨.agg l'.toArray, ?_, .agg _ _ h2⟩
    simp only [Array.toArray_toList] at h1
    simp only [Instr.build, Sem.run_bind, hz1, run_underlying hu w, Result.andThen_ok]
    rw [hpl1]
    simp only [Result.andThen_ok, hplf, h1]
    rfl
  · rename_i n elem z hu hz
    split at h
    · rename_i sz hs
      obtain ⟨hb, h⟩ := some_cond h
      obtain ⟨cs, hcs, rfl⟩ := fill_some h
      obtain ⟨z', hz1, hz2⟩ := run_zeroValue_of (m := m) hz w
      obtain ⟨l', h1, h2⟩ := fill_of (l := z'.cells.toList) hp (vrs_cellsOf' hb hz2) hcs
      refine ⟨.agg l'.toArray, ?_, .agg _ _ h2⟩
      simp only [Array.toArray_toList] at h1
      simp only [Instr.build, Sem.run_bind, hz1, run_underlying hu w, Result.andThen_ok, run_sizeOf_of hs w, h1]
      rfl
    · cases h
  · cases h

theorem repCells_get (z : List Value) (hz : 1 ≤ z.length) (n : Nat) : ((Array.range (n * z.length)).map (fun i => z.toArray[i % z.toArray.size]!)) = ((List.replicate n z).flatten).toArray := by
  apply Array.ext'
  apply List.ext_getElem
  · simp
  · intro i h1 h2
    simp at h1
    have hlt : i % z.length < z.length := Nat.mod_lt _ (by omega)
    simp only [Array.toList_map, Array.toList_range, List.getElem_map, List.getElem_range, List.size_toArray]
    rw [getElem!_pos _ _ (by simpa using hlt)]
    simp only [List.getElem_toArray]
    have hfl : ∀ (n i : Nat) (h : i < ((List.replicate n z).flatten).length), ((List.replicate n z).flatten)[i] = z[i % z.length]'(Nat.mod_lt _ (by omega)) := by
      intro n
      induction n with
      | zero => intro i h; simp at h
      | succ n ih =>
        intro i h
        simp only [List.replicate_succ, List.flatten_cons] at h ⊢
        by_cases hi : i < z.length
        · rw [List.getElem_append_left hi]
          congr 1
          exact (Nat.mod_eq_of_lt hi).symm
        · rw [List.getElem_append_right (by omega), ih]
          congr 1
          exact (Nat.mod_eq_sub_mod (by omega)).symm
    exact (hfl n i h2).symm

theorem vrs_repCells {z : List AV} {z' : List Value} (h : VRs m z z') : ∀ n, VRs m (repCells n z) (List.replicate n z').flatten
  | 0 => .nil
  | n + 1 => by
    simp only [repCells, List.replicate_succ, List.flatten_cons]
    exact vrs_append h (vrs_repCells h n)

theorem brings_buildSlice {t : TypeId} {n : Nat} {ps : List (Nat × AV)} {vs : List (Nat × Value)} {res : Res} (hp : VRp m ps vs) (h : buildSliceK P t n ps some = some res) (w : World) :
    Brings P m (do pure (.value (← Instr.buildSlice t n vs.toArray))) w res := by
  unfold buildSliceK at h
  split at h
  · rename_i elem hu
    split at h
    · rename_i sz z hs hz
      obtain ⟨h1, h⟩ := some_cond h
      obtain ⟨h2, h⟩ := some_cond h
      obtain ⟨h3, h⟩ := some_cond h
      simp only [Bool.and_eq_true] at h3
      have hf : ∃ cs, fillK P (fun i => some (i * sz, sz)) (repCells n (cellsOf z)) ps some = some cs ∧ res = .new (.cells elem cs) (fun K => .slice (some (K, 0)) n n) := by
        rw [fillK_bind] at h
        cases hq : fillK P (fun i => some (i * sz, sz)) (repCells n (cellsOf z)) ps some with
        | none => simp [hq] at h
        | some cs' => simp [hq] at h; exact ⟨cs', rfl, h.symm⟩
      obtain ⟨cs, hcs, rfl⟩ := hf
      obtain ⟨z', hz1, hz2⟩ := run_zeroValue_of (m := m) hz w
      have hzc := vrs_cellsOf' h3.2 hz2
      have hzl : z'.cells.toList.length = sz := by rw [← vrs_length hzc]; simpa [lenIs] using h2
      have hsz : 1 ≤ sz := by simpa using h3.1
      obtain ⟨l', h4, h5⟩ := fill_of (l := (List.replicate n z'.cells.toList).flatten) hp (vrs_repCells hzc n) hcs
      have hrep := repCells_get z'.cells.toList (by omega) n
      rw [hzl] at hrep
      simp only [Array.toArray_toList] at hrep
      have hle : ¬ n * sz > 2 ^ 24 := by have := Nat.le_of_ble_eq_true h1; omega
      refine ⟨.slice (some ⟨w.heap.size, 0, none⟩) n n, .cells l'.toArray elem (0, 0), ?_, fun m' K hle hK => ⟨br_cells (h5.mono hle), .sl K 0 _ n n hK⟩⟩
      simp only [Instr.buildSlice, Sem.run_bind, run_underlying hu w, Result.andThen_ok, run_sizeOf_of hs w]
      rw [if_neg hle]
      by_cases h0 : n * sz = 0
      · have hn0 : n = 0 := by
          rcases Nat.mul_eq_zero.1 h0 with e | e
          · exact e
          · omega
        subst hn0
        simp only [List.replicate_zero, List.flatten_nil] at h4
        simp only [Nat.zero_mul, if_true, Sem.run_pure, Sem.run_bind, Result.andThen_ok]
        rw [show (Array.map (fun (i : Nat) => (#[] : Array Value)[i % (#[] : Array Value).size]!) (Array.range 0)) = #[] from by simp, h4]
        simp [newRow, newObj, Sem.run]
      · rw [if_neg h0]
        simp only [Sem.run_bind, hz1, Result.andThen_ok, Sem.run_pure]
        rw [hrep, h4]
        simp [newRow, newObj, Sem.run]
    · cases h
  · cases h
end Go.Proofs.YtbikcndldcfffaaDoor.Sim
