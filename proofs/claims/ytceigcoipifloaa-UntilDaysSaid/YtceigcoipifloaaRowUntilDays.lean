/- The statement UntilDaysSaid: whatever the input, the law answers true and its input reads as it did. Conditions: none beyond what the statement says. -/
import Derived.Test.YtceigcoipifloaaRows
import Derived.Test.YtceigcoipifloaaLaw
import Derived.Test.YtceigcoipifloaaSimRow
import Derived.WalkKit
import Derived.ProofKit
import Derived.OpenShut
import Derived.ShutString
import Derived.ChangeOld
import Derived.Below
import Derived.SizedLaws
import Derived.Carry
namespace Go.Proofs.Ytceigcoipifloaa.Sim.S
open Go
theorem row_UntilDays {c0 : List AV} (k0 : CKs [(.int .i64), (.int .i64), (.int .i64)] c0) {c1 : List AV} (k1 : CKs [(.int .i64)] c1) : ∃ m, CP C m F_law12_UntilDays [wrapA true c0, wrapA false c1] = some (.bool true) := by
  obtain ⟨x0_0, c0, rfl, gx0_0, k0⟩ := cks_int k0
  obtain ⟨x0_1, c0, rfl, gx0_1, k0⟩ := cks_int k0
  obtain ⟨x0_2, c0, rfl, gx0_2, k0⟩ := cks_int k0
  obtain rfl := cks_nil k0
  obtain ⟨x1_0, c1, rfl, gx1_0, k1⟩ := cks_int k1
  obtain rfl := cks_nil k1
  first
    | exact ⟨_, law_UntilDays 0 x0_0 x0_1 x0_2 x1_0⟩
    | exact ⟨_, law_UntilDays 0 x0_0 x0_1 x0_2 x1_0 gx0_0 gx0_1 gx0_2 gx1_0⟩
end Go.Proofs.Ytceigcoipifloaa.Sim.S
namespace Go.Proofs.Ytceigcoipifloaa.untilDays
open Go.ChangeShapes Go.WideShapes Go.ChangeAt Go.RowKit
open Go.ChangeMaps (open_string shut_string)
open Go.Proofs.Ytceigcoipifloaa.Sim
set_option linter.unusedVariables false
theorem own : ownKnob Try.prog.godebug = none := by kernel_rfl
theorem laidOut : laidOutB Try.prog = true := by kernel_rfl
set_option maxRecDepth 100000 in
theorem lifted (os : Os) (started : os.Started) (H : Type) (enc : TypeId × Value → H) :
    ReturnsInHanded {} Try.checked os 6 .any (Rows.untilDaysSpec.pre6 enc Try.prog Try.f6 Rows.untilDaysRow.domain false) (Rows.untilDaysSpec.post enc Try.prog Try.f6 false true false false) := by
  refine returnsInHanded_of_change_sized (C := Try.checked) own started (by kernel_rfl) Try.func6
    (ChangeSpec.witness6 (enc := enc) (C := Try.checked) false ⟨#[], #[.agg #[.int .i64 0, .int .i64 0, .int .i64 0], .int .i64 0], []⟩ 8 (by kernel_rfl) (by kernel_rfl) (by kernel_rfl) (by kernel_rfl)) ?_
  intro W base args ds gs before hval0 hW hcnd hsz0 _
  have hval : ∀ (j : Nat) t v, Try.f6.params[j]? = some t → args[j]? = some v → Value.okWide Try.prog W .any base t v := hval0
  have hW' := hW
  obtain ⟨p, q, hA0, hV, rfl, hfz, hnd⟩ := hW
  have hA : DataW.TrodAll enc Try.prog W 0 (fun _ => true) true Try.f6.params.toList args.toList ds p := hA0
  rw [Try.params6] at hA hval
  obtain ⟨v0, vs0, d0, ds0, p0, q0, hargs, rfl, rfl, h0, r0⟩ := trodAll_cons hA
  obtain ⟨v1, vs1, d1, ds1, p1, q1, rfl, rfl, rfl, h1, r1⟩ := trodAll_cons r0
  obtain ⟨rfl, rfl, rfl⟩ := trodAll_nil r1
  obtain rfl : args = #[v0, v1] := by cases args; simp_all
  obtain ⟨rfl, rfl⟩ := trodVars_none hV
  have lt0 : ∀ x ∈ p0, x.block < W.heap.size := by obtain ⟨m, hm⟩ := h0; exact DataW.trod_lt m _ _ _ hm
  obtain ⟨c0, k0, e0⟩ := open_val (P := Try.prog) (g := true) (ks := [(.int .i64), (.int .i64), (.int .i64)]) (by kernel_rfl) (hval 0 23 v0 rfl rfl)
  have lt1 : ∀ x ∈ p1, x.block < W.heap.size := by obtain ⟨m, hm⟩ := h1; exact DataW.trod_lt m _ _ _ hm
  obtain ⟨c1, k1, e1⟩ := open_val (P := Try.prog) (g := false) (ks := [(.int .i64)]) (by kernel_rfl) (hval 1 3 v1 rfl rfl)
  obtain ⟨m, hm⟩ := Sim.S.row_UntilDays k0 k1
  refine (law_of Sim.S.okC hm [v0, v1] W (.cons _ _ _ _ e0 (.cons _ _ _ _ e1 .nil))).mono fun e W' ⟨he, bel⟩ => ?_
  subst he
  exact ⟨_, rfl, _, _, _, [], _, [], hW', trodAll_mk1 (shut_bool Try.underlying4 _), (trodAll_cons_mk (Below.trod laidOut (by kernel_rfl) (of_decide_eq_true (by kernel_rfl)) h0 bel lt0) (trodAll_cons_mk (Below.trod laidOut (by kernel_rfl) (of_decide_eq_true (by kernel_rfl)) h1 bel lt1) trodAll_mk0)), rfl, bel.frame _, fun h => by cases h⟩
theorem over : Rows.untilDaysRow.holds Try.pinned (OpenSpec.ofChange Rows.untilDaysSpec) :=
  OpenClaim.holds_of_wide 6 Try.f6 rfl rfl rfl rfl rfl rfl rfl ⟨rfl, rfl, rfl, rfl, rfl⟩ rfl rfl rfl rfl rfl (by kernel_rfl) Try.func6 (by kernel_rfl)
    (of_decide_eq_true (by kernel_rfl)) (by unfold Func.isWrapper; first | (rw [if_pos (by decide +kernel)]; kernel_rfl) | (rw [if_neg (by decide +kernel)]; exact ⟨rfl, rfl⟩))
    (fun os started H enc _ => lifted os started H enc)
theorem proved : Rows.UntilDaysSaid := over
#print axioms proved
end Go.Proofs.Ytceigcoipifloaa.untilDays
namespace Go.Proofs.Ytceigcoipifloaa
theorem untilDays_holds : Rows.UntilDaysSaid := untilDays.proved
end Go.Proofs.Ytceigcoipifloaa
