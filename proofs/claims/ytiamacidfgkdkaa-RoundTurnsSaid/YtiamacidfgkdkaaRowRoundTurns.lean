/- The statement RoundTurnsSaid: whatever the input, the law answers true and its input reads as it did. Conditions: none beyond what the statement says. -/
import Derived.Test.YtiamacidfgkdkaaRows
import Derived.Test.YtiamacidfgkdkaaLaw
import Derived.Test.YtiamacidfgkdkaaSimRow
import Derived.WalkKit
import Derived.ProofKit
import Derived.OpenShut
import Derived.ShutString
import Derived.ChangeOld
import Derived.Below
import Derived.SizedLaws
import Derived.Carry
namespace Go.Proofs.Ytiamacidfgkdkaa.Sim.S
open Go
theorem row_RoundTurns {c0 : List AV} (k0 : CKs [(.int .u64), (.int .u64)] c0) {c1 : List AV} (k1 : CKs [(.int .u64), (.int .u64)] c1) : ∃ m, CP C m F_law05_RoundTurns [wrapA true c0, wrapA true c1] = some (.bool true) := by
  obtain ⟨x0_0, c0, rfl, gx0_0, k0⟩ := cks_int k0
  obtain ⟨x0_1, c0, rfl, gx0_1, k0⟩ := cks_int k0
  obtain rfl := cks_nil k0
  obtain ⟨x1_0, c1, rfl, gx1_0, k1⟩ := cks_int k1
  obtain ⟨x1_1, c1, rfl, gx1_1, k1⟩ := cks_int k1
  obtain rfl := cks_nil k1
  first
    | exact ⟨_, law_RoundTurns 0 x0_0 x0_1 x1_0 x1_1⟩
    | exact ⟨_, law_RoundTurns 0 x0_0 x0_1 x1_0 x1_1 gx0_0 gx0_1 gx1_0 gx1_1⟩
end Go.Proofs.Ytiamacidfgkdkaa.Sim.S
namespace Go.Proofs.Ytiamacidfgkdkaa.roundTurns
open Go.ChangeShapes Go.WideShapes Go.ChangeAt Go.RowKit
open Go.ChangeMaps (open_string shut_string)
open Go.Proofs.Ytiamacidfgkdkaa.Sim
set_option linter.unusedVariables false
theorem own : ownKnob Try.prog.godebug = none := by kernel_rfl
theorem laidOut : laidOutB Try.prog = true := by kernel_rfl
set_option maxRecDepth 100000 in
theorem lifted (os : Os) (started : os.Started) (H : Type) (enc : TypeId × Value → H) :
    ReturnsInHanded {} Try.checked os 7 .any (Rows.roundTurnsSpec.pre6 enc Try.prog Try.f7 Rows.roundTurnsRow.domain false) (Rows.roundTurnsSpec.post enc Try.prog Try.f7 false true false false) := by
  refine returnsInHanded_of_change_sized (C := Try.checked) own started (by kernel_rfl) Try.func7
    (ChangeSpec.witness6 (enc := enc) (C := Try.checked) false ⟨#[], #[.agg #[.int .u64 0, .int .u64 0], .agg #[.int .u64 0, .int .u64 0]], []⟩ 8 (by kernel_rfl) (by kernel_rfl) (by kernel_rfl) (by kernel_rfl)) ?_
  intro W base args ds gs before hval0 hW hcnd hsz0 _
  have hval : ∀ (j : Nat) t v, Try.f7.params[j]? = some t → args[j]? = some v → Value.okWide Try.prog W .any base t v := hval0
  have hW' := hW
  obtain ⟨p, q, hA0, hV, rfl, hfz, hnd⟩ := hW
  have hA : DataW.TrodAll enc Try.prog W 0 (fun _ => true) true Try.f7.params.toList args.toList ds p := hA0
  rw [Try.params7] at hA hval
  obtain ⟨v0, vs0, d0, ds0, p0, q0, hargs, rfl, rfl, h0, r0⟩ := trodAll_cons hA
  obtain ⟨v1, vs1, d1, ds1, p1, q1, rfl, rfl, rfl, h1, r1⟩ := trodAll_cons r0
  obtain ⟨rfl, rfl, rfl⟩ := trodAll_nil r1
  obtain rfl : args = #[v0, v1] := by cases args; simp_all
  obtain ⟨rfl, rfl⟩ := trodVars_none hV
  have lt0 : ∀ x ∈ p0, x.block < W.heap.size := by obtain ⟨m, hm⟩ := h0; exact DataW.trod_lt m _ _ _ hm
  obtain ⟨c0, k0, e0⟩ := open_val (P := Try.prog) (g := true) (ks := [(.int .u64), (.int .u64)]) (by kernel_rfl) (hval 0 24 v0 rfl rfl)
  have lt1 : ∀ x ∈ p1, x.block < W.heap.size := by obtain ⟨m, hm⟩ := h1; exact DataW.trod_lt m _ _ _ hm
  obtain ⟨c1, k1, e1⟩ := open_val (P := Try.prog) (g := true) (ks := [(.int .u64), (.int .u64)]) (by kernel_rfl) (hval 1 24 v1 rfl rfl)
  obtain ⟨m, hm⟩ := Sim.S.row_RoundTurns k0 k1
  refine (law_of Sim.S.okC hm [v0, v1] W (.cons _ _ _ _ e0 (.cons _ _ _ _ e1 .nil))).mono fun e W' ⟨he, bel⟩ => ?_
  subst he
  exact ⟨_, rfl, _, _, _, [], _, [], hW', trodAll_mk1 (shut_bool Try.underlying4 _), (trodAll_cons_mk (Below.trod laidOut (by kernel_rfl) (of_decide_eq_true (by kernel_rfl)) h0 bel lt0) (trodAll_cons_mk (Below.trod laidOut (by kernel_rfl) (of_decide_eq_true (by kernel_rfl)) h1 bel lt1) trodAll_mk0)), rfl, bel.frame _, fun h => by cases h⟩
theorem over : Rows.roundTurnsRow.holds Try.pinned (OpenSpec.ofChange Rows.roundTurnsSpec) :=
  OpenClaim.holds_of_wide 7 Try.f7 rfl rfl rfl rfl rfl rfl rfl ⟨rfl, rfl, rfl, rfl, rfl⟩ rfl rfl rfl rfl rfl (by kernel_rfl) Try.func7 (by kernel_rfl)
    (of_decide_eq_true (by kernel_rfl)) (by unfold Func.isWrapper; first | (rw [if_pos (by decide +kernel)]; kernel_rfl) | (rw [if_neg (by decide +kernel)]; exact ⟨rfl, rfl⟩))
    (fun os started H enc _ => lifted os started H enc)
theorem proved : Rows.RoundTurnsSaid := over
#print axioms proved
end Go.Proofs.Ytiamacidfgkdkaa.roundTurns
namespace Go.Proofs.Ytiamacidfgkdkaa
theorem roundTurns_holds : Rows.RoundTurnsSaid := roundTurns.proved
end Go.Proofs.Ytiamacidfgkdkaa
