/- Each operation of the machine does what the abstract run says of it: all at once. Condition: none beyond what the theorem says. -/
import Derived.Test.YtbikcndldcfffaaDoorSimOps6
namespace Go.Proofs.YtbikcndldcfffaaDoor.Sim
open Go.RowKit

theorem bind_val {x : Option AV} {res : Res} (h : (x.bind fun v => some (Res.val v)) = some res) : ∃ v, x = some v ∧ res = .val v := by
  cases x with
  | none => cases h
  | some v => injection h with h; exact ⟨v, rfl, h.symm⟩

theorem brings_ex {P : Program} {m : BM} {s : Sem Value} {w : World} {v : AV} (h : ∃ v', s.run P w = .ok v' w ∧ VR m v v') :
    Brings P m (do pure (.value (← s))) w (.val v) := by
  obtain ⟨v', h1, h2⟩ := h
  exact brings_val h1 h2

theorem boolK_some {R : Type} {v : AV} {c : Bool → Option R} {r : R} (h : v.boolK c = some r) : ∃ b, v = .bool b ∧ c b = some r := by
  unfold AV.boolK at h; split at h
  · exact ⟨_, rfl, h⟩
  · cases h
theorem tupK_some {R : Type} {v : AV} {c : List AV → Option R} {r : R} (h : v.tupK c = some r) : ∃ b, v = .tup b ∧ c b = some r := by
  unfold AV.tupK at h; split at h
  · exact ⟨_, rfl, h⟩
  · cases h

theorem opV_sound {E : Env} (hS : Sound E) {B : Nat} {w0 : World} {m : BM} {st : St} {a : Act} {w : World} (hr : Rel B w0 m st a w) (o : Oper) {res : Res} (h : opV E o st = some res) :
    Brings E.P m (execOp a.eval o) w res := by
  obtain ⟨dst, op, type, pos, after, guard⟩ := o
  unfold opV opK at h
  cases op with
  | move x => injection h with h; subst h; exact ⟨.value (a.eval x), _, by simp [execOp], .inl rfl, hr.eval x⟩
  | assign x => injection h with h; subst h; exact ⟨.value (a.eval x), _, by simp [execOp], .inl rfl, hr.eval x⟩
  | pick c x y =>
    simp only at h
    obtain ⟨b, hb, h⟩ := boolK_some h
    have hc := hr.eval c
    rw [hb] at hc
    cases b
    · injection h with h; subst h
      exact ⟨.value (a.eval y), _, by simp [execOp, vr_bool hc, asBool], .inl rfl, hr.eval y⟩
    · injection h with h; subst h
      exact ⟨.value (a.eval x), _, by simp [execOp, vr_bool hc, asBool], .inl rfl, hr.eval x⟩
  | alloc t =>
    simp only at h
    split at h <;> (try (cases h; done))
    rename_i z hz
    obtain ⟨hb, h⟩ := some_cond h
    injection h with h; subst h
    exact brings_alloc hz hb
  | box t x =>
    simp only at h
    obtain ⟨hb, h⟩ := some_cond h
    injection h with h; subst h
    exact brings_box (hr.eval x) hb
  | build t ps =>
    simp only at h
    rw [buildK_bind] at h
    obtain ⟨v, hv, rfl⟩ := bind_val h
    refine brings_ex ?_
    obtain ⟨v', h1, h2⟩ := build_of (vrs_parts hr ps.toList) hv w
    refine ⟨v', ?_, h2⟩
    rw [← h1]
    congr 2
    apply Array.ext'
    simp
  | buildSlice t n ps =>
    simp only at h
    have := brings_buildSlice (P := E.P) (vrs_parts hr ps.toList) h w
    have hm : (ps.map fun (i, x) => (i, a.eval x)) = (ps.toList.map fun p => (p.1, a.eval p.2)).toArray := by apply Array.ext'; simp
    simp only [execOp, hm]
    exact this
  | load t x =>
    simp only at h
    rw [loadK_bind] at h
    obtain ⟨v, hv, rfl⟩ := bind_val h
    exact brings_ex (run_loadAt_of hr.sim (hr.eval x) hv)
  | store t x y => exact brings_store hr.sim (hr.eval x) (hr.eval y) h
  | nilCheck x =>
    have hx := hr.eval x
    simp only at h
    split at h
    · rename_i p hp
      injection h with h; subst h
      rw [hp] at hx
      obtain ⟨K, o⟩ := p
      obtain ⟨r, hr', hK⟩ := vr_ptr hx
      exact ⟨.value (a.eval x), _, by simp [execOp, hr'], .inl rfl, hx⟩
    · rename_i f p q hp
      injection h with h; subst h
      rw [hp] at hx
      obtain ⟨va, vb, hr', _⟩ := vr_fn hx
      exact ⟨.value (a.eval x), _, by simp [execOp, hr'], .inl rfl, hx⟩
    · cases h
  | binOp op t x y yt =>
    simp only at h
    rw [binK_bind] at h
    obtain ⟨v, hv, rfl⟩ := bind_val h
    exact brings_ex (bin_of (hr.eval x) (hr.eval y) hv w)
  | unOp op t x =>
    simp only at h
    rw [unK_bind] at h
    obtain ⟨v, hv, rfl⟩ := bind_val h
    exact brings_ex (un_of (hr.eval x) hv w)
  | convert s d x =>
    simp only at h
    rw [convK_bind] at h
    obtain ⟨v, hv, rfl⟩ := bind_val h
    exact brings_ex (conv_of hr.sim (hr.eval x) hv)
  | makeInterface t x =>
    simp only at h
    split at h <;> (try (cases h; done))
    rename_i d hd hu
    injection h with h; subst h
    refine brings_ex ⟨.iface t (a.eval x), ?_, .iface _ _ _ (hr.eval x)⟩
    simp only [Instr.makeInterface, Sem.run_bind, run_underlying hu w, Result.andThen_ok]
    cases d <;> first | exact absurd rfl (hd _) | rfl
  | makeFunc f p q =>
    cases f with
    | func f =>
      injection h with h; subst h
      have hf := VR.fn (m := m) f _ _ _ _ (hr.evalL p.toList) (hr.evalL q.toList)
      refine brings_ex ⟨_, ?_, hf⟩
      simp only [Instr.makeFunc, Sem.run_pure]
      congr 2 <;> (apply Array.ext'; simp)
    | _ => cases h
  | slice t x lo hi mx =>
    simp only at h
    rw [sliceK_bind] at h
    obtain ⟨v, hv, rfl⟩ := bind_val h
    exact brings_ex (sliceAt_of hr t x lo hi mx hv)
  | fieldAddr t x f =>
    simp only at h
    rw [fieldAddrK_bind] at h
    obtain ⟨v, hv, rfl⟩ := bind_val h
    exact brings_ex (fieldAt_of (hr.eval x) hv w)
  | field t x f =>
    simp only at h
    rw [fieldK_bind] at h
    obtain ⟨v, hv, rfl⟩ := bind_val h
    exact brings_ex (field_of (hr.eval x) hv w)
  | indexAddr t x i =>
    simp only at h
    rw [indexAddrK_bind] at h
    obtain ⟨v, hv, rfl⟩ := bind_val h
    exact brings_ex (indexAt_of (hr.eval x) (hr.eval i) hv w)
  | index t x i =>
    simp only at h
    rw [indexK_bind] at h
    obtain ⟨v, hv, rfl⟩ := bind_val h
    exact brings_ex (index_of (hr.eval x) (hr.eval i) hv w)
  | range t x =>
    have hx := hr.eval x
    simp only at h
    split at h <;> (try (cases h; done))
    rename_i s hu hs
    injection h with h; subst h
    rw [hs] at hx
    refine ⟨.pointer (some ⟨w.heap.size, 0, none⟩), .stringIter s 0, ?_, fun m' K hle hK => ⟨rfl, .ptr K 0 _ hK⟩⟩
    simp [execOp, vr_str hx, Instr.range, run_underlying hu, newObj, Sem.run]
  | next it isS =>
    cases isS with
    | false => cases h
    | true =>
      have hx := hr.eval it
      simp only at h
      split at h <;> (try (cases h; done))
      rename_i K hK
      rw [hK] at hx
      split at h <;> (try (cases h; done))
      rename_i s p hb
      obtain ⟨r, hr', hKr⟩ := vr_ptr hx
      have hbr := (hr.sim.ok K r hKr).2.2.2
      rw [hb] at hbr
      have hh : w.heap[r]? = some (.stringIter s p) := hbr
      cases hlt : Nat.blt p s.size with
      | true =>
        rw [hlt] at h
        injection h with h; subst h
        have hlt' : p < s.size := by simpa using hlt
        have hl : r < w.heap.size := (hr.sim.ok K r hKr).2.2.1
        refine ⟨.value (.tuple #[.bool true, goInt p, .int .i32 (Utf8.decode s p).1]), _, { w with heap := w.heap.setIfInBounds r (.stringIter s (p + (Utf8.decode s p).2)) }, r, ?_, .inl rfl, ?_, hKr, by simp, rfl, rfl, rfl, ?_, ?_⟩
        · simp only [execOp, hr', Instr.next, Sem.run_bind, getObj, setObj, Sem.run, hh, Result.andThen_ok, hlt', if_true]
          rfl
        · exact .tup _ [_, _, _] (.cons _ _ _ _ (.bool _) (.cons _ _ _ _ (.int _ _) (.cons _ _ _ _ (.int _ _) .nil)))
        · intro j hj
          simp [Ne.symm hj]
        · simp [BR, hl]
      | false =>
        rw [hlt] at h
        injection h with h; subst h
        have hlt' : ¬ p < s.size := fun h' => by
          have : Nat.blt p s.size = true := by simpa using h'
          rw [hlt] at this; cases this
        refine ⟨.value (.tuple #[.bool false]), _, ?_, .inl rfl, .tup _ [_] (.cons _ _ _ _ (.bool _) .nil)⟩
        simp only [execOp, hr', Instr.next, Sem.run_bind, getObj, Sem.run, hh, Result.andThen_ok, hlt', if_false]
        rfl
  | extract t i =>
    simp only at h
    obtain ⟨vs, hvs, h⟩ := tupK_some h
    obtain ⟨hf, h⟩ := some_cond h
    injection h with h; subst h
    have hx := hr.eval t
    rw [hvs] at hx
    obtain ⟨us, hus, hu⟩ := vr_tup hx
    obtain ⟨u, h1, h2⟩ := vrs_get hu i (fits_le hf)
    refine brings_ex ⟨u, ?_, h2⟩
    simp [hus, Instr.extract, h1]
  | call c =>
    obtain ⟨callee, args, argTypes⟩ := c
    have hargs := hr.evalL args.toList
    have hmap : args.map a.eval = (args.toList.map a.eval).toArray := by apply Array.ext'; simp
    cases callee with
    | value f =>
      have hf := hr.eval f
      simp only at h
      split at h <;> (try (cases h; done))
      rename_i g p q hg
      rw [hg] at hf
      obtain ⟨va, vb, hfv, ha, hb⟩ := vr_fn hf
      have hall := vrs_append (vrs_append ha hargs) hb
      have hexec : (execOp a.eval ⟨dst, .call ⟨.value f, args, argTypes⟩, type, pos, after, guard⟩).run E.P w = (callFunc g (va ++ args.toList.map a.eval ++ vb).toArray).run E.P w := by
        simp only [execOp, resolve, Sem.run_bind, hfv, Deferred.ofValue, Sem.run_pure, Result.andThen_ok, invoke, hmap]
        congr 2
        apply Array.ext'
        simp
      split at h
      · rename_i v hv
        obtain ⟨b, v⟩ := v
        obtain ⟨hb1, h⟩ := some_cond h
        injection h with h; subst h
        have hb2 : b = true := hb1
        subst hb2
        obtain ⟨v', h1, h2⟩ := hS.ext g _ v hv m _ w hall
        exact ⟨.value v', v', by rw [hexec, h1], .inl rfl, h2⟩
      · obtain ⟨hF, h⟩ := some_cond h
        injection h with h; subst h
        exact ⟨_, by rw [hexec]; exact hS.isF g hF _ w, hall⟩
    | invoke r name =>
      have hrr := hr.eval r
      simp only at h
      split at h <;> (try (cases h; done))
      rename_i t v hv
      rw [hv] at hrr
      obtain ⟨v', hrv, hv'⟩ := vr_iface hrr
      split at h <;> (try (cases h; done))
      rename_i f hf
      obtain ⟨hF, h⟩ := some_cond h
      injection h with h; subst h
      have hexec : (execOp a.eval ⟨dst, .call ⟨.invoke r name, args, argTypes⟩, type, pos, after, guard⟩).run E.P w = (callFunc f (v' :: args.toList.map a.eval).toArray).run E.P w := by
        have := invoke_of hf v' (args.map a.eval) w
        rw [show (v' :: args.toList.map a.eval).toArray = #[v'] ++ args.map a.eval from by (apply Array.ext'; simp), ← this]
        simp only [execOp, resolve, Sem.run_bind, hrv, Sem.run_pure, Result.andThen_ok, invoke]
        have e0 : (#[Value.iface t v'] ++ Array.map a.eval args)[0]? = some (Value.iface t v') := by
          rw [Array.getElem?_append_left (by simp)]; rfl
        have e1 : (#[Value.iface t v'] ++ Array.map a.eval args).extract 1 (#[Value.iface t v'] ++ Array.map a.eval args).size = Array.map a.eval args := by
          apply Array.ext'
          simp only [Array.toList_extract, Array.size_append, Array.toList_map]
          simp [List.take_of_length_le]
        rw [e0, e1]
      exact ⟨_, by rw [hexec]; exact hS.isF f hF _ w, .cons _ _ _ _ hv' hargs⟩
    | builtin b =>
      simp only at h
      unfold builtinK at h
      split at h
      · rename_i x hx
        split at h <;> (try (cases h; done))
        rename_i t ht
        rw [lenK_bind] at h
        obtain ⟨v, hv, rfl⟩ := bind_val h
        rw [hx] at hargs
        generalize hvl : args.toList.map a.eval = vl at hargs hmap
        cases hargs with
        | cons _ vx _ vs hxv hs =>
          cases hs
          obtain ⟨v', h1, h2⟩ := len_of hxv hv type argTypes ht w
          refine ⟨.value v', v', ?_, .inl rfl, h2⟩
          simp [execOp, resolve, invoke, builtin, hmap, h1]
      · rename_i x l hx
        rw [maxK_bind] at h
        obtain ⟨v, hv, rfl⟩ := bind_val h
        rw [hx] at hargs
        generalize hvl : args.toList.map a.eval = vl at hargs hmap
        cases hargs with
        | cons _ vx _ vs hxv hs =>
          obtain ⟨v', h1, h2⟩ := max_of (P := E.P) _ _ hxv hs hv w
          refine ⟨.value v', v', ?_, .inl rfl, h2⟩
          simp [execOp, resolve, invoke, builtin, hmap, Builtin.max_, h1]
      · rename_i x l hx
        rw [maxK_bind] at h
        obtain ⟨v, hv, rfl⟩ := bind_val h
        rw [hx] at hargs
        generalize hvl : args.toList.map a.eval = vl at hargs hmap
        cases hargs with
        | cons _ vx _ vs hxv hs =>
          obtain ⟨v', h1, h2⟩ := min_of (P := E.P) _ _ hxv hs hv w
          refine ⟨.value v', v', ?_, .inl rfl, h2⟩
          simp [execOp, resolve, invoke, builtin, hmap, Builtin.min_, h1]
      · cases h
  | _ => cases h

end Go.Proofs.YtbikcndldcfffaaDoor.Sim
