/- Each operation of the machine does what the abstract run says of it. Condition: none beyond what each lemma says. -/
import Derived.Test.YtbikcndldcfffaaDoorSimBind
import Derived.Deep.MidRow
namespace Go.Proofs.YtbikcndldcfffaaDoor.Sim
open Go.RowKit

/-- What an operation hands back: a value, or nothing. -/
def Done (n : Next) (v : Value) : Prop := n = .value v ∨ (n = .skip ∧ v = undef)

def Brings (P : Program) (m : BM) (s : Sem Next) (w : World) : Res → Prop
  | .val v => ∃ n v', s.run P w = .ok n w ∧ Done n v' ∧ VR m v v'
  | .new b vf => ∃ v' obj, s.run P w = .ok (.value v') { w with heap := w.heap.push obj } ∧
      ∀ m' K, m.le m' → m' K = some w.heap.size → BR m' b (some obj) ∧ VR m' (vf K) v'
  | .wr K b v => ∃ n v' w' r, s.run P w = .ok n w' ∧ Done n v' ∧ VR m v v' ∧ m K = some r ∧ w'.heap.size = w.heap.size ∧ w'.os = w.os ∧ w'.tape = w.tape ∧ w'.output = w.output ∧
      (∀ j, j ≠ r → w'.heap[j]? = w.heap[j]?) ∧ BR m b (w'.heap[r]?)
  | .call f args => ∃ vs : List Value, s.run P w = .ok (.enter f vs.toArray) w ∧ VRs m args vs

theorem brings_val {P : Program} {m : BM} {s : Sem Value} {w : World} {v : AV} {v' : Value} (h : s.run P w = .ok v' w) (hv : VR m v v') :
    Brings P m (do pure (.value (← s))) w (.val v) :=
  ⟨.value v', v', by simp [h], .inl rfl, hv⟩

/-- What is asked of the tables beside the program. -/
structure Sound (E : Env) : Prop where
  ext : ∀ g args v, E.ext g args = some (true, v) → ∀ (m : BM) (vs : List Value) (w : World), VRs m args vs → ∃ v', (callFunc g vs.toArray).run E.P w = .ok (.value v') w ∧ VR m v v'
  isF : ∀ g, E.isF g = true → ∀ (args : Array Value) (w : World), (callFunc g args).run E.P w = .ok (.enter g args) w

/-! ### tables -/
theorem szOf_info {P : Program} {t : TypeId} {n : Nat} (h : szOf P t = some n) : (P.info? t).map (·.size) = some n := h

theorem run_sizeOf_of {P : Program} {t : TypeId} {n : Nat} (h : szOf P t = some n) (w : World) : (sizeOf t).run P w = .ok n w := by
  unfold szOf at h
  cases hq : P.info? t with
  | none => simp [hq] at h
  | some i => simp [hq] at h; simp [sizeOf, typeInfo, hq, h]

theorem aggOf_true {P : Program} {t : TypeId} (h : aggOf P t = some true) : ∃ d, P.underlying t = some d ∧ d.isRow = true := by
  unfold aggOf at h
  split at h <;> first | exact ⟨_, by assumption, rfl⟩ | simp at h
theorem run_isAgg_true {P : Program} {t : TypeId} (h : aggOf P t = some true) (w : World) : (isAgg t).run P w = .ok true w := by
  obtain ⟨d, hd, hr⟩ := aggOf_true h
  unfold isAgg
  rw [Sem.run_bind, run_underlying hd w]
  cases d <;> simp_all [TypeDesc.isRow]
theorem run_isAgg_false {P : Program} {t : TypeId} (h : aggOf P t = some false) (w : World) : (isAgg t).run P w = .ok false w := by
  unfold aggOf at h
  unfold isAgg
  split at h <;> simp at h
  rename_i d h1 h2 h3
  rw [Sem.run_bind, run_underlying h3 w]
  cases d <;> simp_all

theorem fits_le {o n : Nat} {cs : List AV} (h : fits o n cs = true) : o + n ≤ cs.length := by
  unfold fits at h; exact Nat.le_of_ble_eq_true h

theorem some_cond {R : Type} {b : Bool} {x : Option R} {r : R} (h : cond b x none = some r) : b = true ∧ x = some r := by
  cases b <;> simp_all
theorem some_cond' {R : Type} {b : Bool} {x : Option R} {r : R} (h : cond b none x = some r) : b = false ∧ x = some r := by
  cases b <;> simp_all

/-! ### blocks' cells -/
theorem Sim.row {B : Nat} {w0 : World} {m : BM} {H : List Blk} {w : World} (h : Sim B w0 m H w) {K r : Nat} (hK : m K = some r) {t : TypeId} {cs : List AV} (hb : blk H K = .cells t cs) :
    ∃ vs e fr, w.heap[r]? = some (.cells (vs ++ e).toArray t fr) ∧ VRs m cs vs ∧ Unfrozen cs.length fr := by
  have := (h.ok K r hK).2.2.2
  rw [hb] at this
  exact this

theorem cell_row {w : World} {r : Nat} {l : List Value} {t : TypeId} {fr : Nat × Nat} (h : w.heap[r]? = some (.cells l.toArray t fr)) (o : Nat) : w.cell? ⟨r, o, none⟩ = l[o]? := by
  simp [World.cell?, h]

theorem range_row {w : World} {r : Nat} {vs e : List Value} {t : TypeId} {fr : Nat × Nat} (h : w.heap[r]? = some (.cells (vs ++ e).toArray t fr)) {o n : Nat} (hn : o + n ≤ vs.length) :
    w.rangeAt r o ((vs.drop o).take n) := by
  intro j v hv
  rw [cell_row h]
  have hj : j < n := by
    have := (List.getElem?_eq_some_iff.1 hv).1
    simp at this; omega
  rw [List.getElem?_take, if_pos hj, List.getElem?_drop] at hv
  rw [List.getElem?_append_left (by omega)]
  exact hv

theorem run_loadAt_of {B : Nat} {w0 : World} {P : Program} {m : BM} {H : List Blk} {w : World} (h : Sim B w0 m H w) {t : TypeId} {a v : AV} {a' : Value} (ha : VR m a a') (hl : loadK P H t a some = some v) :
    ∃ v', (Instr.loadAt t a').run P w = .ok v' w ∧ VR m v v' := by
  cases ha <;> simp only [loadK, AV.ptrK] at hl <;> (try (cases hl; done))
  rename_i K o r hK
  split at hl
  case h_2 => cases hl
  rename_i t' cs hb
  obtain ⟨vs, e, fr, hh, hvs, hfr⟩ := h.row hK hb
  have hlen := vrs_length hvs
  split at hl
  · rename_i n hag hsz
    obtain ⟨hf, hv⟩ := some_cond hl
    injection hv with hv; subst hv
    have hf := fits_le hf
    obtain ⟨d, hd, hr⟩ := aggOf_true hag
    refine ⟨.agg ((vs.drop o).take n).toArray, ?_, .agg _ _ (vrs_take (vrs_drop hvs o) n)⟩
    refine run_loadAt_mid w r o t ((vs.drop o).take n) d (range_row hh (by omega)) hd hr ?_
    rw [szOf_info hsz]; simp; omega
  · rename_i n hag hsz
    obtain ⟨hf, hv⟩ := some_cond hl
    injection hv with hv; subst hv
    have hf := fits_le hf
    obtain ⟨u, hu, hvu⟩ := vrs_get hvs o (by omega)
    refine ⟨u, ?_, hvu⟩
    have hc : w.cell? ⟨r, o, none⟩ = some u := by
      rw [cell_row hh, List.getElem?_append_left (by omega)]; exact hu
    simp [Instr.loadAt, Instr.sureAddr, loadVar, run_isAgg_false hag, hc]
  · cases hl

/-! ### a store -/
theorem oneCell_of {m : BM} {x : AV} {v : Value} (hx : cellOk x = true) (h : VR m x v) : v.oneCell' = true := by
  cases h <;> first | rfl | (simp [cellOk] at hx)
theorem oneCells_of {m : BM} : ∀ {x : List AV} {v : List Value}, VRs m x v → cellsOk x = true → ∀ u ∈ v, u.oneCell' = true
  | _, _, .nil, _, u, hu => by simp at hu
  | _, _, .cons x v xs vs h hs, hx, u, hu => by
    simp only [cellsOk, Bool.and_eq_true] at hx
    rcases List.mem_cons.1 hu with e | e
    · subst e; exact oneCell_of hx.1 h
    · exact oneCells_of hs hx.2 u e

theorem heap_setCell {w : World} {r o : Nat} {l : List Value} {t : TypeId} {fr : Nat × Nat} (h : w.heap[r]? = some (.cells l.toArray t fr)) (v : Value) :
    (w.setCell ⟨r, o, none⟩ v).heap[r]? = some (.cells (l.set o v).toArray t fr) := by
  simp [World.setCell, Array.getElem?_modify, h]

theorem heap_setCell_ne {w : World} {r o j : Nat} (v : Value) (h : j ≠ r) : (w.setCell ⟨r, o, none⟩ v).heap[j]? = w.heap[j]? := by
  simp only [World.setCell, Array.getElem?_modify]
  rw [if_neg (fun e => h e.symm)]

theorem setCells_heap : ∀ (vs : List Value) (o : Nat) (w : World) (r : Nat) (l : List Value) (t : TypeId) (fr : Nat × Nat), w.heap[r]? = some (.cells l.toArray t fr) → o + vs.length ≤ l.length →
    (w.setCells r o vs).heap[r]? = some (.cells (l.take o ++ vs ++ l.drop (o + vs.length)).toArray t fr)
  | [], o, w, r, l, t, fr, h, hl => by simp [World.setCells, h]
  | v :: vs, o, w, r, l, t, fr, h, hl => by
    simp only [List.length_cons] at hl
    rw [World.setCells, setCells_heap vs (o + 1) _ r (l.set o v) t fr (heap_setCell h v) (by simp; omega)]
    congr 2
    apply congrArg
    rw [List.take_set, List.drop_set]
    simp only [List.length_cons]
    have h1 : (List.take (o + 1) l).set o v = List.take o l ++ [v] := by
      rw [List.set_eq_take_append_cons_drop, if_pos (by simp; omega)]
      simp [List.take_take, show min o (o+1) = o by omega]
    rw [if_pos (by omega), h1]
    simp [Nat.add_assoc, Nat.add_comm 1]

theorem setCells_rest : ∀ (vs : List Value) (o : Nat) (w : World) (r : Nat),
    (w.setCells r o vs).heap.size = w.heap.size ∧ (w.setCells r o vs).os = w.os ∧ (w.setCells r o vs).tape = w.tape ∧ (w.setCells r o vs).output = w.output ∧ ∀ j, j ≠ r → (w.setCells r o vs).heap[j]? = w.heap[j]?
  | [], _, _, _ => ⟨rfl, rfl, rfl, rfl, fun _ _ => rfl⟩
  | v :: vs, o, w, r => by
    obtain ⟨a, b, c, d, e⟩ := setCells_rest vs (o + 1) (w.setCell ⟨r, o, none⟩ v) r
    rw [World.setCells]
    exact ⟨by rw [a]; simp [World.setCell], b, c, d, fun j hj => (e j hj).trans (heap_setCell_ne v hj)⟩

theorem storeVar_cells {P : Program} {w : World} {b o n : Nat} {ty : TypeId} {v : Value} (hi : szOf P ty = some n) (hn : v.cells.size = n) (ht : w.there b o v.cells.size) (h1 : v.cells.all (·.oneCell') = true) :
    (storeVar ty ⟨b, o, none⟩ v).run P w = .ok () (w.setCells b o v.cells.toList) := by
  have := run_storeCells_cells (P := P) b o v.cells.toList 0 w (fun j hj => by simpa using (ht j (by simpa using hj)).1) (fun j hj => by simpa using (ht j (by simpa using hj)).2)
    (fun u hu => (Array.all_eq_true_iff_forall_mem.1 h1) u (by simpa using hu))
  simp only [Nat.add_zero] at this
  simp [storeVar, run_sizeOf_of hi, hn, this]

theorem vrs_cellsOf {m : BM} {x : AV} {v : Value} (hx : cellsOk (cellsOf x) = true) (h : VR m x v) : VRs m (cellsOf x) v.cells.toList := by
  cases h
  case agg cs vs hs => simpa [cellsOf, Value.cells] using hs
  case tup => simp [cellsOf, cellsOk, cellOk] at hx
  case junk => simp [cellsOf, cellsOk, cellOk] at hx
  all_goals (simp only [cellsOf, Value.cells]; exact .cons _ _ _ _ (by constructor <;> assumption) .nil)

theorem vrs_cellsOf' {m : BM} {x : AV} {v : Value} (hx : boxOk x = true) (h : VR m x v) : VRs m (cellsOf x) v.cells.toList := by
  cases h
  case agg cs vs hs => simpa [cellsOf, Value.cells] using hs
  case tup => simp [boxOk] at hx
  case junk => simp [boxOk] at hx
  all_goals (simp only [cellsOf, Value.cells]; exact .cons _ _ _ _ (by constructor <;> assumption) .nil)

theorem frozen_row {w : World} {r : Nat} {l : List Value} {t : TypeId} {fr : Nat × Nat} (h : w.heap[r]? = some (.cells l.toArray t fr)) {n o : Nat} (hf : Unfrozen n fr) (ho : o < n) : w.frozen? ⟨r, o, none⟩ = false := by
  obtain ⟨lo, hi⟩ := fr
  simp only [World.frozen?, h]
  exact hf o ho

theorem brings_store {B : Nat} {w0 : World} {P : Program} {m : BM} {H : List Blk} {w : World} (h : Sim B w0 m H w) {t : TypeId} {a x : AV} {a' x' : Value} (ha : VR m a a') (hx : VR m x x') {res : Res} (hl : storeK P H t a x some = some res) :
    Brings P m (do Instr.storeAt t a' x'; pure .skip) w res := by
  cases ha <;> simp only [storeK, AV.ptrK] at hl <;> (try (cases hl; done))
  rename_i K o r hK
  split at hl
  case h_2 => cases hl
  rename_i t' cs hb
  obtain ⟨vs, e, fr, hh, hvs, hfr⟩ := h.row hK hb
  have hlen := vrs_length hvs
  split at hl
  case h_2 => cases hl
  rename_i n hsz
  obtain ⟨h1, hl⟩ := some_cond hl
  obtain ⟨h2, hl⟩ := some_cond hl
  obtain ⟨h3, hl⟩ := some_cond hl
  injection hl with hl; subst hl
  have hf := fits_le h3
  have hn : (cellsOf x).length = n := by simpa [lenIs] using h1
  have hcx := vrs_cellsOf h2 hx
  have hcl : x'.cells.size = n := by have := vrs_length hcx; simp at this; omega
  have hcl' : x'.cells.toList.length = n := by simpa using hcl
  have hth : w.there r o x'.cells.size := fun j hj => ⟨by
      rw [cell_row hh, List.getElem?_append_left (by omega), List.getElem?_eq_getElem (by omega)]; rfl,
    frozen_row hh hfr (by omega)⟩
  have hone : x'.cells.all (·.oneCell') = true := Array.all_eq_true_iff_forall_mem.2 (fun u hu => oneCells_of hcx h2 u (by simpa using hu))
  obtain ⟨r1, r2, r3, r4, r5⟩ := setCells_rest x'.cells.toList o w r
  refine ⟨.skip, undef, w.setCells r o x'.cells.toList, r, ?_, .inr ⟨rfl, rfl⟩, vr_undef m, hK, r1, r2, r3, r4, r5, ?_⟩
  · simp [Instr.storeAt, Instr.sureAddr, storeVar_cells hsz hcl hth hone]
  · refine ⟨vs.take o ++ x'.cells.toList ++ vs.drop (o + n), e, fr, ?_, ?_, ?_⟩
    · rw [setCells_heap _ _ _ _ _ _ _ hh (by simp; omega)]
      congr 2
      rw [List.take_append_of_le_length (by omega), List.drop_append_of_le_length (by omega), hcl']
      simp
    · unfold splice
      rw [hn]
      exact vrs_append (vrs_append (vrs_take hvs o) hcx) (vrs_drop hvs _)
    · have : (splice cs o (cellsOf x)).length = cs.length := by simp [splice, hn]; omega
      rw [this]; exact hfr

end Go.Proofs.YtbikcndldcfffaaDoor.Sim
