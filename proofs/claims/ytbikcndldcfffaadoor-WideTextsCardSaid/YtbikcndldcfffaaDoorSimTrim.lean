/- What strings.Trim answers at the ten digits, off the kit's own contract. Condition: none beyond what each theorem says. -/
import Derived.Test.YtbikcndldcfffaaDoorSimCfg
import Derived.Shelf.Strings.SlTrimAscii
namespace Go.Proofs.YtbikcndldcfffaaDoor.Sim
open Go Go.Shelf Go.RowKit

def digs : ByteArray := ByteArray.mk #[48, 49, 50, 51, 52, 53, 54, 55, 56, 57]
def trimB (s c : ByteArray) : ByteArray := ⟨(Lib.trimS s.data.toList c.data.toList).toArray⟩
/-- strings.Trim at a cutset of ASCII signs. -/
def trimK (l : List AV) : Option AV :=
  match l with
  | [.str s, .str c] => cond (decide (s.size ≤ 9223372036854775807) && (decide (c.size < 4294967281) && c.data.toList.all fun b => decide (b.toNat < 128))) (some (.str (trimB s c))) none
  | _ => none

theorem trim_ok {P : Program} {ρ : Ren} (L : Go.Proofs.Lays.n160 P ρ) (h116 : (P.info? (ρ.t 116)).map (fun i => (i.zero, i.size)) = some (some (.agg (Array.replicate 256 (.bool false))), 256))
    (args : List AV) (v : AV) (h : trimK args = some v) : v.pure = true ∧ ∀ (m : BM) (vs : List Value) (w : World), VRs m args vs →
      Calls P (ρ.f 160) vs.toArray w fun e w' => ∃ v', e = .returned v' ∧ VR m v v' ∧ Below w.heap.size w w' := by
  unfold trimK at h
  split at h
  · rename_i s c
    obtain ⟨h1, h⟩ := some_cond h
    simp only [Bool.and_eq_true, decide_eq_true_eq] at h1
    obtain ⟨a1, a2, a3⟩ := h1
    injection h with h
    subst h
    refine ⟨rfl, fun m vs w hv => ?_⟩
    cases hv with
    | cons _ v1 _ _ b1 hv =>
    cases hv with
    | cons _ v2 _ _ b2 hv =>
    cases hv
    rw [vr_str b1, vr_str b2]
    refine (Go.Proofs.Any.strings_Trim_laid L h116 s c w a1 a2 (Go.Proofs.ascii_of_all a3)).mono ?_
    rintro e w' ⟨rfl, hB⟩
    exact ⟨_, rfl, .str _, hB⟩
  · cases h
theorem known_of {f a : Nat} {x y : Option AV} {v : AV} (h : cond (Nat.beq f a) x y = some v) : (a = f ∧ x = some v) ∨ y = some v := by
  cases e : Nat.beq f a with
  | true => rw [e] at h; exact .inl ⟨(Nat.eq_of_beq_eq_true e).symm, h⟩
  | false => rw [e] at h; exact .inr h
end Go.Proofs.YtbikcndldcfffaaDoor.Sim
