/- The laws of numbers of 128 bits answer true. Condition: none beyond what each theorem says. -/
import Derived.Test.YtbikcndldcfffaaDoorSpecParse
set_option linter.unusedSimpArgs false
set_option linter.unusedVariables false
open Go Go.Proofs
namespace Go.Proofs.YtbikcndldcfffaaDoor.Sim.S
open Go

set_option maxRecDepth 100000 in
theorem sp_awake : CP C 12 F_law01_awake [] = some (.bool true) := by kernel_rfl

theorem ne_of_all {l : List UInt8} (h : l.all isDig = true) : negT l = false := by
  refine decide_eq_false fun e => ?_
  cases l with
  | nil => cases e
  | cons b l =>
    simp only [List.getElem?_cons_zero, Option.some.injEq] at e
    subst e
    simp only [List.all_cons, Bool.and_eq_true] at h
    exact absurd h.1 (by decide)
theorem prs_txt (A : Nat) (hA : A < 340282366920938463463374607431768211456) : prs (txt A) = .tup [wv A, .int .i64 0] := by
  unfold txt
  by_cases h : 170141183460469231731687303715884105728 ≤ A
  · rw [if_pos h]
    have hv := dec_val 39 (340282366920938463463374607431768211456 - A) (by rw [p39]; omega)
    have hd := dec_dig 39 (340282366920938463463374607431768211456 - A)
    have hl := dec_len 39 (340282366920938463463374607431768211456 - A)
    have hn := dec_ne 38 (340282366920938463463374607431768211456 - A)
    have h0 := dec_head 39 (340282366920938463463374607431768211456 - A) (by omega) (by rw [p39]; omega)
    generalize dec 39 (340282366920938463463374607431768211456 - A) = d at *
    have hr : restT (45 :: d) = d := rfl
    have hbad : badT (45 :: d) = false := by
      unfold badT
      rw [hr, decide_eq_false hn, hd, decide_eq_false h0]; rfl
    unfold prs
    rw [if_neg (by simp only [List.length_cons]; omega), hbad, if_neg Bool.false_ne_true, hr, hv, show negT (45 :: d) = true from rfl, res_neg _ (by omega), show (340282366920938463463374607431768211456 - (340282366920938463463374607431768211456 - A)) % 340282366920938463463374607431768211456 = A by omega]
  · rw [if_neg h]
    have hv := dec_val 39 A (by rw [p39]; omega)
    have hd := dec_dig 39 A
    have hl := dec_len 39 A
    have hn := dec_ne 38 A
    have h0 : (dec 39 A)[0]? = some 48 → dec 39 A = [48] := fun e => by
      rcases Nat.eq_zero_or_pos A with hz | hz
      · subst hz; exact dec_zero 38
      · exact absurd e (dec_head 39 A hz (by rw [p39]; omega))
    generalize dec 39 A = d at *
    have hg := ne_of_all hd
    have hr : restT d = d := by unfold restT; rw [hg]; rfl
    have hbad : badT d = false := by
      unfold badT
      rw [hr, decide_eq_false hn, hd]
      by_cases e : d[0]? = some 48
      · rw [decide_eq_true e, decide_eq_false (show ¬ d ≠ [48] from fun hh => hh (h0 e))]; rfl
      · rw [decide_eq_false e]; rfl
    unfold prs
    rw [if_neg (by omega), hbad, if_neg Bool.false_ne_true, hr, hv, hg, res_pos _ (by omega)]
theorem prs_cases (w : List UInt8) : (∃ e : Int, (e = 1 ∨ e = 2 ∨ e = 8) ∧ prs w = errA e) ∨ (∃ B : Nat, B < 340282366920938463463374607431768211456 ∧ prs w = .tup [wv B, .int .i64 0] ∧ txt B = w) := by
  unfold prs
  by_cases hl : 64 < w.length
  · rw [if_pos hl]; exact .inl ⟨1, .inl rfl, rfl⟩
  rw [if_neg hl]
  cases hb : badT w with
  | true => rw [if_pos rfl]; exact .inl ⟨2, .inr (.inl rfl), rfl⟩
  | false =>
    rw [if_neg Bool.false_ne_true]
    unfold badT at hb
    simp only [Bool.or_eq_false_iff, Bool.and_eq_false_iff, decide_eq_false_iff_not, Bool.not_eq_false'] at hb
    obtain ⟨hne, hd, h48⟩ := hb
    have hM := most_le (negT w)
    by_cases hV : most (negT w) < vl (restT w)
    · rw [res_bad _ _ hV]; exact .inl ⟨8, .inr (.inr rfl), rfl⟩
    · right
      have h39 : ∀ (_ : (restT w)[0]? ≠ some 48), (restT w).length ≤ 39 := fun h => by
        rcases Nat.lt_or_ge 39 (restT w).length with hh | hh
        · have := vl_big (restT w) hd h 39 hh
          rw [p39] at this
          omega
        · exact hh
      cases hn : negT w with
      | true =>
        rw [hn] at hV hM
        have hVm : vl (restT w) ≤ 170141183460469231731687303715884105728 := Nat.not_lt.1 hV
        have hw : w = 45 :: restT w := by
          unfold restT
          rw [hn, if_pos rfl]
          cases w with
          | nil => cases hn
          | cons c w =>
            have := of_decide_eq_true hn
            simp only [List.getElem?_cons_zero, Option.some.injEq] at this
            subst this
            rfl
        have h0 : (restT w)[0]? ≠ some 48 := by
          rcases h48 with h | h
          · exact h
          · exfalso
            apply h
            intro e
            rw [e] at hn
            cases hn
        have hp := vl_pos (restT w) hd hne h0
        have hbk := dec_back 39 (restT w) hd hne (fun e => absurd e h0) (h39 h0)
        refine ⟨340282366920938463463374607431768211456 - vl (restT w), by omega, ?_, ?_⟩
        · rw [res_neg _ hVm, Nat.mod_eq_of_lt (by omega)]
        · unfold txt
          rw [if_pos (by omega), show 340282366920938463463374607431768211456 - (340282366920938463463374607431768211456 - vl (restT w)) = vl (restT w) by omega, hbk]
          exact hw.symm
      | false =>
        rw [hn] at hV hM
        have hVm : vl (restT w) ≤ 170141183460469231731687303715884105727 := Nat.not_lt.1 hV
        have hr : restT w = w := by unfold restT; rw [hn]; rfl
        rw [hr] at hne hd h48 hV hVm h39 ⊢
        have h1 : w[0]? = some 48 → w = [48] := fun e => by
          rcases h48 with h | h
          · exact absurd e h
          · exact Decidable.not_not.1 h
        have hbk := dec_back 39 w hd hne (fun e => by rw [h1 e]; rfl) (by
          by_cases e : w[0]? = some 48
          · rw [h1 e]; decide
          · exact h39 e)
        refine ⟨vl w, by omega, res_pos _ hVm, ?_⟩
        unfold txt
        rw [if_neg (by omega), hbk]
theorem law_WideTexts (n : Nat) (h l : Int) (s : ByteArray) (a1 : IntKind.u64.has h) (a2 : IntKind.u64.has l) (a3 : (s.size : Int) ≤ IntKind.i64.max) :
    CP C 13 F_law01_WideTexts [.agg [.int .u64 h, .int .u64 l], .str s] = some (.bool true) := by
  have h1 : 0 ≤ h ∧ h ≤ 18446744073709551615 := a1
  have h2 : 0 ≤ l ∧ l ≤ 18446744073709551615 := a2
  obtain ⟨A, hA, e1, e2⟩ : ∃ A : Nat, A < 340282366920938463463374607431768211456 ∧ h = ((A / 18446744073709551616 : Nat) : Int) ∧ l = ((A % 18446744073709551616 : Nat) : Int) :=
    ⟨(h * 18446744073709551616 + l).toNat, by omega, by omega, by omega⟩
  subst e1 e2
  obtain ⟨w, rfl⟩ : ∃ w, s = BA w := ⟨_, BA_data s⟩
  have f1 := sp_wide_Text 7 A hA
  have f2 := sp_wide_Parse 8 (txt A)
  have f3 := sp_wide_Parse 8 w
  have f4 := sp_ref01_Parse 8 w
  have f5 := sp_ref01_Text 8 A hA
  rw [prs_txt A hA] at f2
  have f6 := sp_awake
  rw [eq_law01_WideTexts]
  unfold R_law01_WideTexts
  unfold wv at f1 f2 f5
  rw [f1]
  simp only [k_bind, k_str]
  rw [f2, f3, f4, f5]
  simp only [k_bind, k_str, k_tup, k_cons, k_agg, k_int, k_nil]
  rcases prs_cases w with ⟨e, he, hp⟩ | ⟨B, hB, hp, ht⟩
  · rw [hp]
    unfold errA
    simp only [k_bind, k_str, k_tup, k_cons, k_agg, k_int, k_nil]
    rw [beqBA, decide_eq_true rfl, cT, f6]
    simp only [k_bind, k_bool, beq_self_eq_true, Bool.and_self, cT]
    rcases he with rfl | rfl | rfl <;> rfl
  · have f7 := sp_wide_Text 7 B hB
    rw [ht] at f7
    rw [hp]
    unfold wv at f7 ⊢
    simp only [k_bind, k_str, k_tup, k_cons, k_agg, k_int, k_nil]
    rw [f7, f6, beqBA, decide_eq_true rfl, cT]
    simp only [k_bind, k_str, k_bool, beq_self_eq_true, Bool.and_self, cT]
    rfl
end Go.Proofs.YtbikcndldcfffaaDoor.Sim.S
