/- What a function of the program answers, as a plain function; and how its run is cut into pieces. Condition: none beyond what each theorem says. -/
import Derived.Test.YtbikcndldcfffaaDoorSimSound
namespace Go.Proofs.YtbikcndldcfffaaDoor.Sim
open Go.RowKit

def noBM : BM := fun _ => none

theorem sim_none (w : World) : Sim w.heap.size w noBM [] w :=
  ⟨fun K K' r h _ => by simp [noBM] at h, fun K r h => by simp [noBM] at h, Below.refl _ _, Nat.le_refl _⟩

theorem good_top {C : Cfg} (hC : CfgOk C) {cp : FuncId → List AV → Option AV} (hcp : CpOk C.P cp) (n : Nat) (f : FuncId) : Good (topEnv C cp n f) :=
  ⟨⟨hC.ext, hC.isF⟩, hcp, runIn_of hC hcp (n + 300) 6, hC.mix, .inr rfl⟩

theorem CP_of {C : Cfg} (hC : CfgOk C) : ∀ n, CpOk C.P (CP C n)
  | 0 => fun f args v h => by cases h
  | n + 1 => fun f args v h => by
    unfold CP at h
    split at h
    · rename_i v' hv
      injection h with h
      subst h
      exact hC.known f args _ hv
    split at h
    · cases h
    rename_i fn hf
    split at h
    · cases h
    rename_i c hb
    obtain ⟨hp, h⟩ := some_cond h
    obtain ⟨e, st', h1, h2, h3⟩ := ex_of (good_top hC (CP_of hC n) n f) c 1 [] [] _ _ v h (Nat.zero_le _)
    obtain ⟨he, u, hu, hres⟩ := endK_of h1
    obtain ⟨hup, hu⟩ := some_cond hu
    injection hu with hu
    subst hu
    refine ⟨hup, fun m vs w ha => ?_⟩
    refine calls_of_wp hf hb (h3 w.heap.size w noBM _ w (start_rel fn (VRs.ofPure ha hp) (sim_none w)) (Nat.zero_le _) _ fun m' a' w' r' l' => ?_)
    obtain ⟨v', e1, e2⟩ := hres r'.tmps r'.sim
    have : bodyPost C.P fn (fun e w' => ∃ v', e = .returned v' ∧ VR m u v' ∧ Below w.heap.size w w') .ret a' w' :=
      ⟨r'.defers, v', e1, v', rfl, VR.ofPure e2 hup, r'.sim.below⟩
    rcases he with rfl | rfl
    · exact this
    · exact this

/-- A law whose abstract run answers true. -/
theorem law_of {C : Cfg} (hC : CfgOk C) {n : Nat} {f : FuncId} {args : List AV} (h : CP C n f args = some (.bool true)) (vs : List Value) (w : World) (ha : VRs noBM args vs) :
    Calls C.P f vs.toArray w fun e w' => e = .returned (.bool true) ∧ Below w.heap.size w w' := by
  refine ((CP_of hC n f args _ h).2 noBM vs w ha).mono fun e w' ⟨v', he, hv, hb⟩ => ⟨?_, hb⟩
  rw [he, vr_bool hv]

/-! ### the run of a body, cut into pieces -/
def childC : Code → Bool → Code
  | .seq a _, false => a
  | .seq _ b, true => b
  | .cond _ a _, false => a
  | .cond _ _ b, true => b
  | .block _ c, false => c
  | .scope c, false => c
  | .loop c, false => c
  | _, _ => .skip

def codeR (B : Code) : List Bool → Code
  | [] => B
  | b :: p => childC (codeR B p) b

def qOf : List Bool → Nat
  | [] => 1
  | false :: p => 2 * qOf p
  | true :: p => 2 * qOf p + 1

def nsUp : Code → List Nat → List Nat
  | .loop _, _ :: ns => ns
  | _, ns => ns

/-- The rounds of a loop at a place. -/
def roundsAt (E : Env) (J : Option Jump) (c : Code) (q : Nat) (p : List Bool) (ns : List Nat) (k : Kont) : Nat → St → Option AV :=
  loopU (fun n k' => ex E J c (2 * q) (false :: p) (n :: ns) k') (fun n run => goC E J (2 * q) (false :: p) (n :: ns) run) k

def contC (E : Env) (J : Option Jump) : Code → Bool → Nat → List Bool → List Nat → Nat → Kont → Kont
  | .seq _ b, false, q, p, ns, _, k => thenK (goC E J (2 * q + 1) (true :: p) ns (ex E J b (2 * q + 1) (true :: p) ns k)) k
  | .block id _, false, _, _, _, _, k => blockK id k
  | .scope _, false, _, _, _, _, k => scopeK k
  | .loop c, false, q, p, ns, n, k => fun e st' =>
      match e with
      | .normal => goC E J (2 * q) (false :: p) (n :: ns) (roundsAt E J c q p ns k n) st'
      | e => k e st'
  | _, _, _, _, _, _, k => k

def contR (E : Env) (J : Option Jump) (B : Code) (k0 : Kont) : List Bool → List Nat → Kont
  | [], _ => k0
  | b :: p, ns => contC E J (codeR B p) b (qOf p) p (nsUp (codeR B p) ns) (ns.headD 0) (contR E J B k0 p (nsUp (codeR B p) ns))

/-- The run from a place of a body on; of a loop's body: from the head on. -/
def enter (E : Env) (J : Option Jump) (B : Code) (k0 : Kont) (p : List Bool) (ns : List Nat) (st : St) : Option AV :=
  match p, ns with
  | false :: p0, n :: ns0 =>
    match codeR B p0 with
    | .loop c => roundsAt E J c (qOf p0) p0 ns0 (contR E J B k0 p0 ns0) n st
    | _ => ex E J (codeR B p) (qOf p) p ns (contR E J B k0 p ns) st
  | p, ns => ex E J (codeR B p) (qOf p) p ns (contR E J B k0 p ns) st

def jT (E : Env) (B : Code) (k0 : Kont) : Jump := fun p ns st => enter E none B k0 p ns st

theorem goC_cut {E : Env} {j : Jump} {q : Nat} {p : List Bool} {ns : List Nat} {run run' : St → Option AV} (h : ∀ st, run' st = run st) (hj : ∀ st, j p ns st = run st) : goC E (some j) q p ns run' = goC E none q p ns run := by
  funext st
  unfold goC
  split
  · exact h st
  · congr 1
    funext st'
    exact hj st'

theorem enter_plain (E : Env) (J : Option Jump) (B : Code) (k0 : Kont) (b : Bool) (p : List Bool) (ns : List Nat) (h : ∀ c, codeR B p ≠ .loop c) (st : St) :
    enter E J B k0 (b :: p) ns st = ex E J (codeR B (b :: p)) (qOf (b :: p)) (b :: p) ns (contR E J B k0 (b :: p) ns) st := by
  unfold enter
  split
  · rename_i p0 n ns0 e1
    injection e1 with e1 e2
    subst e1 e2
    split
    · rename_i c hc; exact absurd hc (h c)
    · rfl
  · rfl

theorem ex_cut (E : Env) (B : Code) (k0 : Kont) : ∀ (c : Code) (p : List Bool) (ns : List Nat) (k : Kont), codeR B p = c → contR E none B k0 p ns = k →
    ∀ st, ex E (some (jT E B k0)) c (qOf p) p ns k st = ex E none c (qOf p) p ns k st
  | .skip, _, _, _, _, _, _ => rfl
  | .label _, _, _, _, _, _, _ => rfl
  | .exit _, _, _, _, _, _, _ => rfl
  | .goto _, _, _, _, _, _, _ => rfl
  | .ret, _, _, _, _, _, _ => rfl
  | .region _ _ _, _, _, _, _, _, _ => rfl
  | .rangeFunc .., _, _, _, _, _, _ => rfl
  | .refuse .., _, _, _, _, _, _ => rfl
  | .seq x y, p, ns, k, hc, hk, st => by
    have hns : nsUp (.seq x y) ns = ns := by cases ns <;> rfl
    have hno : ∀ c, codeR B p ≠ .loop c := fun c h => by rw [hc] at h; cases h
    have hgy : goC E (some (jT E B k0)) (2 * qOf p + 1) (true :: p) ns (ex E (some (jT E B k0)) y (2 * qOf p + 1) (true :: p) ns k) = goC E none (2 * qOf p + 1) (true :: p) ns (ex E none y (2 * qOf p + 1) (true :: p) ns k) := by
      refine goC_cut (ex_cut E B k0 y (true :: p) ns k (by simp [codeR, hc, childC]) (by simp only [contR, hc, hns, contC]; exact hk)) fun st => ?_
      rw [jT, enter_plain E none B k0 true p ns hno]
      simp only [codeR, hc, childC, qOf, contR, hns, contC, hk]
    unfold ex
    rw [hgy]
    refine congrFun (goC_cut (ex_cut E B k0 x (false :: p) ns _ (by simp [codeR, hc, childC]) (by simp only [contR, hc, hns, contC, hk])) fun st => ?_) st
    rw [jT, enter_plain E none B k0 false p ns hno]
    simp only [codeR, hc, childC, qOf, contR, hns, contC, hk]
  | .cond c x y, p, ns, k, hc, hk, st => by
    have hns : nsUp (.cond c x y) ns = ns := by cases ns <;> rfl
    have hno : ∀ c, codeR B p ≠ .loop c := fun c h => by rw [hc] at h; cases h
    have h1 : goC E (some (jT E B k0)) (2 * qOf p) (false :: p) ns (ex E (some (jT E B k0)) x (2 * qOf p) (false :: p) ns k) = goC E none (2 * qOf p) (false :: p) ns (ex E none x (2 * qOf p) (false :: p) ns k) :=
      goC_cut (ex_cut E B k0 x (false :: p) ns k (by simp [codeR, hc, childC]) (by simp only [contR, hc, hns, contC, hk])) (fun st => by
        rw [jT, enter_plain E none B k0 false p ns hno]
        simp only [codeR, hc, childC, qOf, contR, hns, contC, hk])
    have h2 : goC E (some (jT E B k0)) (2 * qOf p + 1) (true :: p) ns (ex E (some (jT E B k0)) y (2 * qOf p + 1) (true :: p) ns k) = goC E none (2 * qOf p + 1) (true :: p) ns (ex E none y (2 * qOf p + 1) (true :: p) ns k) :=
      goC_cut (ex_cut E B k0 y (true :: p) ns k (by simp [codeR, hc, childC]) (by simp only [contR, hc, hns, contC, hk])) (fun st => by
        rw [jT, enter_plain E none B k0 true p ns hno]
        simp only [codeR, hc, childC, qOf, contR, hns, contC, hk])
    unfold ex
    rw [h1, h2]
  | .block id c, p, ns, k, hc, hk, st => by
    have hns : nsUp (.block id c) ns = ns := by cases ns <;> rfl
    have hno : ∀ c, codeR B p ≠ .loop c := fun c h => by rw [hc] at h; cases h
    have h1 : goC E (some (jT E B k0)) (2 * qOf p) (false :: p) ns (ex E (some (jT E B k0)) c (2 * qOf p) (false :: p) ns (blockK id k)) = goC E none (2 * qOf p) (false :: p) ns (ex E none c (2 * qOf p) (false :: p) ns (blockK id k)) :=
      goC_cut (ex_cut E B k0 c (false :: p) ns _ (by simp [codeR, hc, childC]) (by simp only [contR, hc, hns, contC, hk])) (fun st => by
        rw [jT, enter_plain E none B k0 false p ns hno]
        simp only [codeR, hc, childC, qOf, contR, hns, contC, hk])
    unfold ex
    rw [h1]
  | .scope c, p, ns, k, hc, hk, st => by
    have hns : nsUp (.scope c) ns = ns := by cases ns <;> rfl
    have hno : ∀ c, codeR B p ≠ .loop c := fun c h => by rw [hc] at h; cases h
    have h1 : goC E (some (jT E B k0)) (2 * qOf p) (false :: p) ns (ex E (some (jT E B k0)) c (2 * qOf p) (false :: p) ns (scopeK k)) = goC E none (2 * qOf p) (false :: p) ns (ex E none c (2 * qOf p) (false :: p) ns (scopeK k)) :=
      goC_cut (ex_cut E B k0 c (false :: p) ns _ (by simp [codeR, hc, childC]) (by simp only [contR, hc, hns, contC, hk])) (fun st => by
        rw [jT, enter_plain E none B k0 false p ns hno]
        simp only [codeR, hc, childC, qOf, contR, hns, contC, hk])
    unfold ex
    rw [h1]
  | .loop c, p, ns, k, hc, hk, st => by
    unfold ex
    have hj : ∀ n st, jT E B k0 (false :: p) (n :: ns) st = roundsAt E none c (qOf p) p ns k n st := fun n st => by
      simp only [jT, enter, hc, hk]
    have key : ∀ n, loopU (fun n k' => ex E (some (jT E B k0)) c (2 * qOf p) (false :: p) (n :: ns) k') (fun n run => goC E (some (jT E B k0)) (2 * qOf p) (false :: p) (n :: ns) run) k n = roundsAt E none c (qOf p) p ns k n := by
      intro n
      induction n with
      | zero => rfl
      | succ n ih =>
        funext st
        unfold roundsAt
        unfold loopU
        rw [ih]
        have hg : goC E (some (jT E B k0)) (2 * qOf p) (false :: p) (n :: ns) (roundsAt E none c (qOf p) p ns k n) = goC E none (2 * qOf p) (false :: p) (n :: ns) (roundsAt E none c (qOf p) p ns k n) :=
          goC_cut (fun _ => rfl) (hj n)
        rw [hg]
        exact ex_cut E B k0 c (false :: p) (n :: ns) _ (by simp [codeR, hc, childC]) (by simp only [contR, hc, nsUp, contC, hk, List.headD, roundsAt]; rfl) st
    exact congrFun (goC_cut (fun st => congrFun (key E.lf) st) (hj E.lf)) st

theorem rounds_cut (E : Env) (B : Code) (k0 : Kont) (c : Code) (p : List Bool) (ns : List Nat) (hc : codeR B p = .loop c) : ∀ n, roundsAt E (some (jT E B k0)) c (qOf p) p ns (contR E none B k0 p ns) n = roundsAt E none c (qOf p) p ns (contR E none B k0 p ns) n := by
  intro n
  have hj : ∀ n st, jT E B k0 (false :: p) (n :: ns) st = roundsAt E none c (qOf p) p ns (contR E none B k0 p ns) n st := fun n st => by
    simp only [jT, enter, hc]
  induction n with
  | zero => rfl
  | succ n ih =>
    funext st
    have e1 : roundsAt E (some (jT E B k0)) c (qOf p) p ns (contR E none B k0 p ns) (n + 1) st = ex E (some (jT E B k0)) c (2 * qOf p) (false :: p) (n :: ns) (fun e st' =>
        match e with
        | .normal => goC E (some (jT E B k0)) (2 * qOf p) (false :: p) (n :: ns) (roundsAt E (some (jT E B k0)) c (qOf p) p ns (contR E none B k0 p ns) n) st'
        | e => contR E none B k0 p ns e st') st := rfl
    have e2 : roundsAt E none c (qOf p) p ns (contR E none B k0 p ns) (n + 1) st = ex E none c (2 * qOf p) (false :: p) (n :: ns) (fun e st' =>
        match e with
        | .normal => goC E none (2 * qOf p) (false :: p) (n :: ns) (roundsAt E none c (qOf p) p ns (contR E none B k0 p ns) n) st'
        | e => contR E none B k0 p ns e st') st := rfl
    rw [e1, e2, ih]
    have hg : goC E (some (jT E B k0)) (2 * qOf p) (false :: p) (n :: ns) (roundsAt E none c (qOf p) p ns (contR E none B k0 p ns) n) = goC E none (2 * qOf p) (false :: p) (n :: ns) (roundsAt E none c (qOf p) p ns (contR E none B k0 p ns) n) :=
      goC_cut (fun _ => rfl) (hj n)
    rw [hg]
    exact ex_cut E B k0 c (false :: p) (n :: ns) _ (by simp [codeR, hc, childC]) (by simp only [contR, hc, nsUp, contC, List.headD]) st

theorem contR_cut (E : Env) (B : Code) (k0 : Kont) : ∀ (p : List Bool) (ns : List Nat), contR E (some (jT E B k0)) B k0 p ns = contR E none B k0 p ns
  | [], _ => rfl
  | b :: p, ns => by
    have ih := contR_cut E B k0 p (nsUp (codeR B p) ns)
    simp only [contR, ih]
    cases hc : codeR B p with
    | seq x y =>
      cases b with
      | true => rfl
      | false =>
        simp only [contC]
        have hns : nsUp (.seq x y) ns = ns := by cases ns <;> rfl
        have hno : ∀ c, codeR B p ≠ .loop c := fun c h => by rw [hc] at h; cases h
        rw [hns]
        have := goC_cut (E := E) (j := jT E B k0) (q := 2 * qOf p + 1) (p := true :: p) (ns := ns) (ex_cut E B k0 y (true :: p) ns (contR E none B k0 p ns) (by simp [codeR, hc, childC]) (by simp only [contR, hc, hns, contC])) (fun st => by
          rw [jT, enter_plain E none B k0 true p ns hno]
          simp only [codeR, hc, childC, qOf, contR, hns, contC])
        simp only [qOf] at this
        rw [this]
    | block id c => cases b <;> rfl
    | scope c => cases b <;> rfl
    | cond c x y => cases b <;> rfl
    | loop c =>
      cases b with
      | true => rfl
      | false =>
        simp only [contC]
        funext e st'
        cases e with
        | normal =>
          have hj : ∀ n st, jT E B k0 (false :: p) (n :: nsUp (.loop c) ns) st = roundsAt E none c (qOf p) p (nsUp (.loop c) ns) (contR E none B k0 p (nsUp (.loop c) ns)) n st := fun n st => by
            simp only [jT, enter, hc]
          exact congrFun (goC_cut (fun st => congrFun (rounds_cut E B k0 c p (nsUp (.loop c) ns) hc (ns.headD 0)) st) (hj (ns.headD 0))) st'
        | exit id => rfl
        | goto l => rfl
        | ret => rfl
    | _ => cases b <;> rfl

/-- A place of a body: its run, cut at the next places. -/
theorem jT_eq (E : Env) (B : Code) (k0 : Kont) (p : List Bool) (ns : List Nat) (st : St) : jT E B k0 p ns st = enter E (some (jT E B k0)) B k0 p ns st := by
  show enter E none B k0 p ns st = _
  unfold enter
  split
  · rename_i p0 n ns0
    split
    · rename_i c hc
      rw [contR_cut, rounds_cut E B k0 c p0 ns0 hc n]
    · rw [contR_cut, ex_cut E B k0 _ (false :: p0) (n :: ns0) _ rfl rfl]
  · rw [contR_cut, ex_cut E B k0 _ _ _ _ rfl rfl]

theorem top_eq (E : Env) (B : Code) (k0 : Kont) (st : St) : ex E none B 1 [] [] k0 st = ex E (some (jT E B k0)) B 1 [] [] k0 st :=
  (ex_cut E B k0 B [] [] k0 rfl rfl st).symm

end Go.Proofs.YtbikcndldcfffaaDoor.Sim
