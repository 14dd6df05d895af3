/- The statement WideBackSaid: whatever the input, the law answers true and its input reads as it did. Conditions: none beyond what the statement says. -/
import Derived.Test.YtbikcndldcfffaaDoorRows
import Derived.Test.YtbikcndldcfffaaDoorLaw
import Derived.Test.YtbikcndldcfffaaDoorSimRow
import Derived.WalkKit
import Derived.ProofKit
import Derived.OpenShut
import Derived.ShutString
import Derived.ChangeOld
import Derived.Below
import Derived.SizedLaws
import Derived.Carry
import Derived.Test.YtbikcndldcfffaaDoorCards
import Derived.Test.YtbikcndldcfffaaDoorTie
import Derived.Test.YtbikcndldcfffaaDoorSimLaid
import Derived.Deep.DeepHandedRow
import Derived.Lib.LaidTab
namespace Go.Proofs.YtbikcndldcfffaaDoor.Sim.S
open Go
theorem row_WideBack {c0 : List AV} (k0 : CKs [(.int .u64), (.int .u64)] c0) {c1 : List AV} (k1 : CKs [(.int .u64)] c1) {c2 : List AV} (k2 : CKs [(.int .u64), (.int .u64)] c2) : ∃ m, CP C m F_law01_WideBack [wrapA true c0, wrapA false c1, wrapA true c2] = some (.bool true) := by
  obtain ⟨x0_0, c0, rfl, gx0_0, k0⟩ := cks_int k0
  obtain ⟨x0_1, c0, rfl, gx0_1, k0⟩ := cks_int k0
  obtain rfl := cks_nil k0
  obtain ⟨x1_0, c1, rfl, gx1_0, k1⟩ := cks_int k1
  obtain rfl := cks_nil k1
  obtain ⟨x2_0, c2, rfl, gx2_0, k2⟩ := cks_int k2
  obtain ⟨x2_1, c2, rfl, gx2_1, k2⟩ := cks_int k2
  obtain rfl := cks_nil k2
  first
    | exact ⟨_, law_WideBack 0 x0_0 x0_1 x1_0 x2_0 x2_1⟩
    | exact ⟨_, law_WideBack 0 x0_0 x0_1 x1_0 x2_0 x2_1 gx0_0 gx0_1 gx1_0 gx2_0 gx2_1⟩
end Go.Proofs.YtbikcndldcfffaaDoor.Sim.S
namespace Go.Proofs.YtbikcndldcfffaaDoor.wideBack
open Go.ChangeShapes Go.WideShapes Go.ChangeAt Go.RowKit
open Go.ChangeMaps (open_string shut_string)
open Go.Proofs.YtbikcndldcfffaaDoor.Sim
set_option linter.unusedVariables false
theorem own : ownKnob Tryd.prog.godebug = none := by kernel_rfl
theorem laidOut : laidOutB Tryd.prog = true := by kernel_rfl
theorem contract (H : Type) (enc : TypeId × Value → H) (W : World) (base : Nat) (args : Array Value) (ds gs : List (DataW H)) (before : List MemPlace)
    (hval0 : ∀ (j : Nat) t v, Tryd.f5.params[j]? = some t → args[j]? = some v → Value.okWide Tryd.prog W .any base t v)
    (hW : DataW.Whole enc Tryd.prog Tryd.f5.params.toList Rows.wideBackSpec.vars false W args.toList ds gs before)
    (hsz0 : (DataW.weightsEach Tryd.prog (Tryd.f5.params.toList ++ (OpenSpec.ofChange Rows.wideBackSpec).bare.plain.varTypes Tryd.prog) (ds ++ gs)).all (· ≤ reachBytes) = true) :
    Calls Tryd.prog 5 args W fun e W' => ∃ v, e = .returned v ∧ Rows.wideBackSpec.post enc Tryd.prog Tryd.f5 false true false false W args v W' := by
  have hval : ∀ (j : Nat) t v, Tryd.f5.params[j]? = some t → args[j]? = some v → Value.okWide Tryd.prog W .any base t v := hval0
  have hW' := hW
  obtain ⟨p, q, hA0, hV, rfl, hfz, hnd⟩ := hW
  have hA : DataW.TrodAll enc Tryd.prog W 0 (fun _ => true) true Tryd.f5.params.toList args.toList ds p := hA0
  rw [Tryd.params5] at hA hval
  obtain ⟨v0, vs0, d0, ds0, p0, q0, hargs, rfl, rfl, h0, r0⟩ := trodAll_cons hA
  obtain ⟨v1, vs1, d1, ds1, p1, q1, rfl, rfl, rfl, h1, r1⟩ := trodAll_cons r0
  obtain ⟨v2, vs2, d2, ds2, p2, q2, rfl, rfl, rfl, h2, r2⟩ := trodAll_cons r1
  obtain ⟨rfl, rfl, rfl⟩ := trodAll_nil r2
  obtain rfl : args = #[v0, v1, v2] := by cases args; simp_all
  obtain ⟨rfl, rfl⟩ := trodVars_none hV
  have lt0 : ∀ x ∈ p0, x.block < W.heap.size := by obtain ⟨m, hm⟩ := h0; exact DataW.trod_lt m _ _ _ hm
  obtain ⟨c0, k0, e0⟩ := open_val (P := Tryd.prog) (g := true) (ks := [(.int .u64), (.int .u64)]) (by kernel_rfl) (hval 0 24 v0 rfl rfl)
  have lt1 : ∀ x ∈ p1, x.block < W.heap.size := by obtain ⟨m, hm⟩ := h1; exact DataW.trod_lt m _ _ _ hm
  obtain ⟨c1, k1, e1⟩ := open_val (P := Tryd.prog) (g := false) (ks := [(.int .u64)]) (by kernel_rfl) (hval 1 22 v1 rfl rfl)
  have lt2 : ∀ x ∈ p2, x.block < W.heap.size := by obtain ⟨m, hm⟩ := h2; exact DataW.trod_lt m _ _ _ hm
  obtain ⟨c2, k2, e2⟩ := open_val (P := Tryd.prog) (g := true) (ks := [(.int .u64), (.int .u64)]) (by kernel_rfl) (hval 2 24 v2 rfl rfl)
  obtain ⟨m, hm⟩ := Sim.S.row_WideBack k0 k1 k2
  refine (law_of Sim.S.okC hm [v0, v1, v2] W (.cons _ _ _ _ e0 (.cons _ _ _ _ e1 (.cons _ _ _ _ e2 .nil)))).mono fun e W' ⟨he, bel⟩ => ?_
  subst he
  exact ⟨_, rfl, _, _, _, [], _, [], hW', trodAll_mk1 (shut_bool Tryd.underlying4 _), (trodAll_cons_mk (Below.trod laidOut (by kernel_rfl) (of_decide_eq_true (by kernel_rfl)) h0 bel lt0) (trodAll_cons_mk (Below.trod laidOut (by kernel_rfl) (of_decide_eq_true (by kernel_rfl)) h1 bel lt1) (trodAll_cons_mk (Below.trod laidOut (by kernel_rfl) (of_decide_eq_true (by kernel_rfl)) h2 bel lt2) trodAll_mk0))), rfl, bel.frame _, fun h => by cases h⟩
theorem laid_met (os : Os) : laidMet Tryd.prog Rows.wideBackRow.laid ((laidWorld Tryd.prog Rows.wideBackRow.laid os).forCall (fun _ _ => 0) ⟨#[], #[.agg #[.int .u64 0, .int .u64 0], .int .u64 0, .agg #[.int .u64 0, .int .u64 0]], []⟩).memory :=
  laidMet_of_run' 8 (by kernel_rfl) (by kernel_rfl)
theorem reads (os : Os) {H : Type} (enc : TypeId × Value → H) : ∃ places, DataW.whole enc Tryd.prog ((laidWorld Tryd.prog Rows.wideBackRow.laid os).forCall (fun _ _ => 0) ⟨#[], #[.agg #[.int .u64 0, .int .u64 0], .int .u64 0, .agg #[.int .u64 0, .int .u64 0]], []⟩).memory Tryd.f5.params.toList Rows.wideBackSpec.vars false (#[.agg #[.int .u64 0, .int .u64 0], .int .u64 0, .agg #[.int .u64 0, .int .u64 0]] : Array Value).toList 8 = some ([.agg [.lit (.int .u64 0), .lit (.int .u64 0)], .lit (.int .u64 0), .agg [.lit (.int .u64 0), .lit (.int .u64 0)]], [], places) :=
  ⟨[], by kernel_rfl⟩
set_option maxRecDepth 100000 in
theorem lifted (os : Os) (started : os.Started) (H : Type) (enc : TypeId × Value → H) (F : Stop.Interp) :
    ReturnsInHanded {} Tryd.checked os 5 .any ((OpenSpec.ofChange Rows.wideBackSpec).preRow enc Tryd.prog Tryd.f5 Rows.wideBackRow.domain false Rows.wideBackRow.laid) (((OpenSpec.ofChange Rows.wideBackSpec).at F).post enc Tryd.prog Tryd.f5 false true false false) := by
  obtain ⟨places, hx⟩ := reads os enc
  refine returnsInHanded_of_row (C := Tryd.checked) (s := OpenSpec.ofChange Rows.wideBackSpec) own started (by kernel_rfl) Tryd.func5
    (witness_row_at (enc := enc) (C := Tryd.checked) false (laidWorld Tryd.prog Rows.wideBackRow.laid os) #[.agg #[.int .u64 0, .int .u64 0], .int .u64 0, .agg #[.int .u64 0, .int .u64 0]] rfl (by kernel_rfl) (by kernel_rfl) (by kernel_rfl)
      (OpenSpec.preRow_of_cond 8 hx (by kernel_rfl) (fun k hk => by cases hk) (by kernel_rfl) (laid_met os))) ?_
  intro W base args ds gs before hval hW _ _ hsz _ _ _
  exact contract H enc W base args ds gs before hval hW hsz
theorem said : Rows.WideBackSaid :=
  OpenClaim.holds_of_cond 5 Tryd.f5 rfl rfl rfl rfl rfl rfl rfl ⟨rfl, rfl, rfl, rfl, rfl⟩ rfl rfl rfl rfl rfl (by kernel_rfl) Tryd.func5 (by kernel_rfl)
    (of_decide_eq_true (by kernel_rfl)) (by unfold Func.isWrapper; first | (rw [if_pos (by decide +kernel)]; kernel_rfl) | (rw [if_neg (by decide +kernel)]; exact ⟨rfl, rfl⟩))
    (fun os started H enc _ F => by rw [OpenClaim.pre_eq_preRow]; exact lifted os started H enc F)
theorem plain (f : FuncId) (fn : Func) (hf : Tryd.pinned.checked.prog.funcNamed "analemma/analemmalaw01.WideBack" = some f) (hfn : Tryd.pinned.checked.prog.funcs[f]? = some fn) :
    false = Tryd.pinned.checked.prog.looks [] ∧ ∀ (j : Nat) t, fn.params[j]? = some t → Tryd.pinned.checked.prog.wantsStandIn t = false := by
  obtain rfl : f = 5 := Option.some.inj ((show Tryd.prog.funcNamed "analemma/analemmalaw01.WideBack" = some 5 by kernel_rfl).symm.trans hf) |>.symm
  obtain rfl : fn = Tryd.f5 := (Option.some.inj (Tryd.func5.symm.trans hfn)).symm
  refine ⟨by kernel_rfl, fun j t ht => ?_⟩
  rw [Tryd.params5] at ht
  have hm : t ∈ [24, 22, 24] := by simpa using Array.mem_of_getElem? ht
  have hall : ([24, 22, 24].all fun u => !Tryd.prog.wantsStandIn u) = true := by kernel_rfl
  exact (show Tryd.prog.wantsStandIn t = false by simpa using List.all_eq_true.1 hall t hm)
theorem proved : Rows.WideBackCardSaid :=
  Claim7.holds_tied_plain_at .later [] _ _ _ _ said (fun _ h => by cases h) (by kernel_rfl) (fun _ h => by cases h) wideBack_row_tie rfl ⟨rfl, rfl⟩ (by kernel_rfl) rfl plain (by kernel_rfl)
#print axioms proved
end Go.Proofs.YtbikcndldcfffaaDoor.wideBack
