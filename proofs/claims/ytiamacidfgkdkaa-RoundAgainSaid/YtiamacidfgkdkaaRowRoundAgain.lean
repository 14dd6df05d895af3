/- The statement RoundAgainSaid: whatever the input, the law answers true and its input reads as it did. Conditions: none beyond what the statement says. -/
import Derived.Test.YtiamacidfgkdkaaRows
import Derived.Test.YtiamacidfgkdkaaLaw
import Derived.Test.YtiamacidfgkdkaaSimRow
import Derived.WalkKit
import Derived.ProofKit
import Derived.OpenShut
import Derived.ShutString
import Derived.ChangeOld
import Derived.Below
import Derived.SizedLaws
import Derived.Carry
namespace Go.Proofs.Ytiamacidfgkdkaa.Sim.S
open Go
theorem row_RoundAgain {c0 : List AV} (k0 : CKs [(.int .u64), (.int .u64)] c0) {c1 : List AV} (k1 : CKs [(.int .u64), (.int .u64)] c1) {c2 : List AV} (k2 : CKs [(.int .i64), (.int .i64)] c2) : ∃ m, CP C m F_law05_RoundAgain [wrapA true c0, wrapA true c1, wrapA true c2] = some (.bool true) := by
  obtain ⟨x0_0, c0, rfl, gx0_0, k0⟩ := cks_int k0
  obtain ⟨x0_1, c0, rfl, gx0_1, k0⟩ := cks_int k0
  obtain rfl := cks_nil k0
  obtain ⟨x1_0, c1, rfl, gx1_0, k1⟩ := cks_int k1
  obtain ⟨x1_1, c1, rfl, gx1_1, k1⟩ := cks_int k1
  obtain rfl := cks_nil k1
  obtain ⟨x2_0, c2, rfl, gx2_0, k2⟩ := cks_int k2
  obtain ⟨x2_1, c2, rfl, gx2_1, k2⟩ := cks_int k2
  obtain rfl := cks_nil k2
  first
    | exact ⟨_, law_RoundAgain 0 x0_0 x0_1 x1_0 x1_1 x2_0 x2_1⟩
    | exact ⟨_, law_RoundAgain 0 x0_0 x0_1 x1_0 x1_1 x2_0 x2_1 gx0_0 gx0_1 gx1_0 gx1_1 gx2_0 gx2_1⟩
end Go.Proofs.Ytiamacidfgkdkaa.Sim.S
namespace Go.Proofs.Ytiamacidfgkdkaa.roundAgain
open Go.ChangeShapes Go.WideShapes Go.ChangeAt Go.RowKit
open Go.ChangeMaps (open_string shut_string)
open Go.Proofs.Ytiamacidfgkdkaa.Sim
set_option linter.unusedVariables false
theorem own : ownKnob Try.prog.godebug = none := by kernel_rfl
theorem laidOut : laidOutB Try.prog = true := by kernel_rfl
set_option maxRecDepth 100000 in
theorem lifted (os : Os) (started : os.Started) (H : Type) (enc : TypeId × Value → H) :
    ReturnsInHanded {} Try.checked os 6 .any (Rows.roundAgainSpec.pre6 enc Try.prog Try.f6 Rows.roundAgainRow.domain false) (Rows.roundAgainSpec.post enc Try.prog Try.f6 false true false false) := by
  refine returnsInHanded_of_change_sized (C := Try.checked) own started (by kernel_rfl) Try.func6
    (ChangeSpec.witness6 (enc := enc) (C := Try.checked) false ⟨#[], #[.agg #[.int .u64 0, .int .u64 0], .agg #[.int .u64 0, .int .u64 0], .agg #[.int .i64 0, .int .i64 0]], []⟩ 8 (by kernel_rfl) (by kernel_rfl) (by kernel_rfl) (by kernel_rfl)) ?_
  intro W base args ds gs before hval0 hW hcnd hsz0 _
  have hval : ∀ (j : Nat) t v, Try.f6.params[j]? = some t → args[j]? = some v → Value.okWide Try.prog W .any base t v := hval0
  have hW' := hW
  obtain ⟨p, q, hA0, hV, rfl, hfz, hnd⟩ := hW
  have hA : DataW.TrodAll enc Try.prog W 0 (fun _ => true) true Try.f6.params.toList args.toList ds p := hA0
  rw [Try.params6] at hA hval
  obtain ⟨v0, vs0, d0, ds0, p0, q0, hargs, rfl, rfl, h0, r0⟩ := trodAll_cons hA
  obtain ⟨v1, vs1, d1, ds1, p1, q1, rfl, rfl, rfl, h1, r1⟩ := trodAll_cons r0
  obtain ⟨v2, vs2, d2, ds2, p2, q2, rfl, rfl, rfl, h2, r2⟩ := trodAll_cons r1
  obtain ⟨rfl, rfl, rfl⟩ := trodAll_nil r2
  obtain rfl : args = #[v0, v1, v2] := by cases args; simp_all
  obtain ⟨rfl, rfl⟩ := trodVars_none hV
  have lt0 : ∀ x ∈ p0, x.block < W.heap.size := by obtain ⟨m, hm⟩ := h0; exact DataW.trod_lt m _ _ _ hm
  obtain ⟨c0, k0, e0⟩ := open_val (P := Try.prog) (g := true) (ks := [(.int .u64), (.int .u64)]) (by kernel_rfl) (hval 0 24 v0 rfl rfl)
  have lt1 : ∀ x ∈ p1, x.block < W.heap.size := by obtain ⟨m, hm⟩ := h1; exact DataW.trod_lt m _ _ _ hm
  obtain ⟨c1, k1, e1⟩ := open_val (P := Try.prog) (g := true) (ks := [(.int .u64), (.int .u64)]) (by kernel_rfl) (hval 1 24 v1 rfl rfl)
  have lt2 : ∀ x ∈ p2, x.block < W.heap.size := by obtain ⟨m, hm⟩ := h2; exact DataW.trod_lt m _ _ _ hm
  obtain ⟨c2, k2, e2⟩ := open_val (P := Try.prog) (g := true) (ks := [(.int .i64), (.int .i64)]) (by kernel_rfl) (hval 2 45 v2 rfl rfl)
  obtain ⟨m, hm⟩ := Sim.S.row_RoundAgain k0 k1 k2
  refine (law_of Sim.S.okC hm [v0, v1, v2] W (.cons _ _ _ _ e0 (.cons _ _ _ _ e1 (.cons _ _ _ _ e2 .nil)))).mono fun e W' ⟨he, bel⟩ => ?_
  subst he
  exact ⟨_, rfl, _, _, _, [], _, [], hW', trodAll_mk1 (shut_bool Try.underlying4 _), (trodAll_cons_mk (Below.trod laidOut (by kernel_rfl) (of_decide_eq_true (by kernel_rfl)) h0 bel lt0) (trodAll_cons_mk (Below.trod laidOut (by kernel_rfl) (of_decide_eq_true (by kernel_rfl)) h1 bel lt1) (trodAll_cons_mk (Below.trod laidOut (by kernel_rfl) (of_decide_eq_true (by kernel_rfl)) h2 bel lt2) trodAll_mk0))), rfl, bel.frame _, fun h => by cases h⟩
theorem over : Rows.roundAgainRow.holds Try.pinned (OpenSpec.ofChange Rows.roundAgainSpec) :=
  OpenClaim.holds_of_wide 6 Try.f6 rfl rfl rfl rfl rfl rfl rfl ⟨rfl, rfl, rfl, rfl, rfl⟩ rfl rfl rfl rfl rfl (by kernel_rfl) Try.func6 (by kernel_rfl)
    (of_decide_eq_true (by kernel_rfl)) (by unfold Func.isWrapper; first | (rw [if_pos (by decide +kernel)]; kernel_rfl) | (rw [if_neg (by decide +kernel)]; exact ⟨rfl, rfl⟩))
    (fun os started H enc _ => lifted os started H enc)
theorem proved : Rows.RoundAgainSaid := over
#print axioms proved
end Go.Proofs.Ytiamacidfgkdkaa.roundAgain
namespace Go.Proofs.Ytiamacidfgkdkaa
theorem roundAgain_holds : Rows.RoundAgainSaid := roundAgain.proved
end Go.Proofs.Ytiamacidfgkdkaa
