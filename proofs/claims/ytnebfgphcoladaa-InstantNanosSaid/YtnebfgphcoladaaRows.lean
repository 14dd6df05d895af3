/-
  No cell of these rows narrows 'for every input' (looked for: loops, veiled, ifaces, maps, wideKeys, modest, calm, conditions, laid).
  DERIVED. THE GIVEN ROWS OF THIS SEAT. 5 by the template 'for every input the law returns true; each argument reads behind the call as it read before'; 0 by the template 'total and deterministic' (their statements: YtnebfgphcoladaaTotals.lean).
  GIVEN WITH THE SEED: the statements are not yours to turn. If you find one false, say at which input.
  Laid BY PROGRAM, IN A SANDBOX (cutbox-rows.mjs): the forced cells as the released guide's own fill.sh prints them over the translation a8868f65839f88eb… (all of the seat's roots in one cut). By AI agents, Wed Nov 11 2026. No macro, syntax, notation, axiom, sorry.
-/
import Derived.Test.YtnebfgphcoladaaChecked
import GoSem.Claim
import GoSem.ClaimJoined
import GoSem.ClaimMapViews
import Derived.JoinedTies
import Derived.KernelRfl
namespace Go.Proofs.Ytnebfgphcoladaa
/- THE CELL 'sum', in the pinned program and in every row, IS THE sha256 OF THE DUMP (.gsa) THAT YtnebfgphcoladaaProg.lean LOADS. Nothing in Lean hashes anything: it is a label: what it is worth is what the hold of that sum in a sandbox is worth. -/
noncomputable def Try.pinned : Pinned := { name := "ytnebfgphcoladaa", sum := "a8868f65839f88eb1ce673eaa25888f15c7f55e1e5a57e7dd3f0be00bdca14a6", checked := Try.checked }
namespace Rows
def none {H : Type} : Left H := { results := [], args := [] }

/-- 'analemmalaw03.InstantMakes': WHATEVER THE INPUT: true; the input reads as it did. -/
def instantMakesSpec : ChangeSpec := { name := "instantMakes", fn := fun _ => fun
  | [d1, d2] => { results := [.lit (.bool true)], args := [d1, d2] }
  | _ => none }
def instantMakesRow : OpenClaim := { program := "ytnebfgphcoladaa", sum := "a8868f65839f88eb1ce673eaa25888f15c7f55e1e5a57e7dd3f0be00bdca14a6", func := "analemma/analemmalaw03.InstantMakes", spec := "instantMakes", apart := false }
def InstantMakesSaid : Prop := instantMakesRow.holds Try.pinned (OpenSpec.ofChange instantMakesSpec)

/-- ITS FALSE NEIGHBOUR: 'it returns false'. Refute it at one input. -/
def instantMakesWrong : ChangeSpec := { name := "instantMakes", fn := fun _ => fun
  | [d1, d2] => { results := [.lit (.bool false)], args := [d1, d2] }
  | _ => none }
def InstantMakesWrongFalsely : Prop := instantMakesRow.holds Try.pinned (OpenSpec.ofChange instantMakesWrong)

/-- 'analemmalaw03.InstantSums': WHATEVER THE INPUT: true; the input reads as it did. -/
def instantSumsSpec : ChangeSpec := { name := "instantSums", fn := fun _ => fun
  | [d1, d2] => { results := [.lit (.bool true)], args := [d1, d2] }
  | _ => none }
def instantSumsRow : OpenClaim := { program := "ytnebfgphcoladaa", sum := "a8868f65839f88eb1ce673eaa25888f15c7f55e1e5a57e7dd3f0be00bdca14a6", func := "analemma/analemmalaw03.InstantSums", spec := "instantSums", apart := false }
def InstantSumsSaid : Prop := instantSumsRow.holds Try.pinned (OpenSpec.ofChange instantSumsSpec)

/-- ITS FALSE NEIGHBOUR: 'it returns false'. Refute it at one input. -/
def instantSumsWrong : ChangeSpec := { name := "instantSums", fn := fun _ => fun
  | [d1, d2] => { results := [.lit (.bool false)], args := [d1, d2] }
  | _ => none }
def InstantSumsWrongFalsely : Prop := instantSumsRow.holds Try.pinned (OpenSpec.ofChange instantSumsWrong)

/-- 'analemmalaw03.InstantBetween': WHATEVER THE INPUT: true; the input reads as it did. -/
def instantBetweenSpec : ChangeSpec := { name := "instantBetween", fn := fun _ => fun
  | [d1, d2] => { results := [.lit (.bool true)], args := [d1, d2] }
  | _ => none }
def instantBetweenRow : OpenClaim := { program := "ytnebfgphcoladaa", sum := "a8868f65839f88eb1ce673eaa25888f15c7f55e1e5a57e7dd3f0be00bdca14a6", func := "analemma/analemmalaw03.InstantBetween", spec := "instantBetween", apart := false }
def InstantBetweenSaid : Prop := instantBetweenRow.holds Try.pinned (OpenSpec.ofChange instantBetweenSpec)

/-- ITS FALSE NEIGHBOUR: 'it returns false'. Refute it at one input. -/
def instantBetweenWrong : ChangeSpec := { name := "instantBetween", fn := fun _ => fun
  | [d1, d2] => { results := [.lit (.bool false)], args := [d1, d2] }
  | _ => none }
def InstantBetweenWrongFalsely : Prop := instantBetweenRow.holds Try.pinned (OpenSpec.ofChange instantBetweenWrong)

/-- 'analemmalaw03.InstantOrder': WHATEVER THE INPUT: true; the input reads as it did. -/
def instantOrderSpec : ChangeSpec := { name := "instantOrder", fn := fun _ => fun
  | [d1, d2] => { results := [.lit (.bool true)], args := [d1, d2] }
  | _ => none }
def instantOrderRow : OpenClaim := { program := "ytnebfgphcoladaa", sum := "a8868f65839f88eb1ce673eaa25888f15c7f55e1e5a57e7dd3f0be00bdca14a6", func := "analemma/analemmalaw03.InstantOrder", spec := "instantOrder", apart := false }
def InstantOrderSaid : Prop := instantOrderRow.holds Try.pinned (OpenSpec.ofChange instantOrderSpec)

/-- ITS FALSE NEIGHBOUR: 'it returns false'. Refute it at one input. -/
def instantOrderWrong : ChangeSpec := { name := "instantOrder", fn := fun _ => fun
  | [d1, d2] => { results := [.lit (.bool false)], args := [d1, d2] }
  | _ => none }
def InstantOrderWrongFalsely : Prop := instantOrderRow.holds Try.pinned (OpenSpec.ofChange instantOrderWrong)

/-- 'analemmalaw03.InstantNanos': WHATEVER THE INPUT: true; the input reads as it did. -/
def instantNanosSpec : ChangeSpec := { name := "instantNanos", fn := fun _ => fun
  | [d1, d2] => { results := [.lit (.bool true)], args := [d1, d2] }
  | _ => none }
def instantNanosRow : OpenClaim := { program := "ytnebfgphcoladaa", sum := "a8868f65839f88eb1ce673eaa25888f15c7f55e1e5a57e7dd3f0be00bdca14a6", func := "analemma/analemmalaw03.InstantNanos", spec := "instantNanos", inPlace := ["math/bits.Add64", "math/bits.Sub64"], unfollowed := true, recurses := true, named := ["math/bits.divideError", "math/bits.overflowError"], apart := false }
def InstantNanosSaid : Prop := instantNanosRow.holds Try.pinned (OpenSpec.ofChange instantNanosSpec)

/-- ITS FALSE NEIGHBOUR: 'it returns false'. Refute it at one input. -/
def instantNanosWrong : ChangeSpec := { name := "instantNanos", fn := fun _ => fun
  | [d1, d2] => { results := [.lit (.bool false)], args := [d1, d2] }
  | _ => none }
def InstantNanosWrongFalsely : Prop := instantNanosRow.holds Try.pinned (OpenSpec.ofChange instantNanosWrong)

/- THE SECOND FORM. 'bulk': how many values and letters a reading holds, each counted each time it is reached (what is shared counts as often as it is met; a slice's spare places count too). A statement '..UptoSaid' is the law's where the arguments, and the package variables that the reading takes, are together of bulk at most 1048576: NARROWER than '..Said'. Prove '..Said' where nothing that the law and all that it calls make is longer than what came in: it says more and counts as full. Else prove '..UptoSaid'. A law counts once. -/
mutual
def uptoBulk {H : Type} : DataW H → Nat
  | .lit (.string bytes) => bytes.length + 1
  | .lit _ => 1
  | .nil => 1
  | .ptr d => uptoBulk d + 1
  | .slice elems spare => uptoBulkAll elems + uptoBulkAll spare + 1
  | .agg parts => uptoBulkAll parts + 1
  | .iface _ d => uptoBulk d + 1
  | .map entries => uptoBulkEntries entries + 1
  | .held _ => 1
def uptoBulkAll {H : Type} : List (DataW H) → Nat
  | [] => 0
  | d :: r => uptoBulk d + uptoBulkAll r
def uptoBulkEntries {H : Type} : List (Lit × DataW H) → Nat
  | [] => 0
  | x :: r => uptoBulkEntry x + uptoBulkEntries r
def uptoBulkEntry {H : Type} : Lit × DataW H → Nat
  | (.string bytes, d) => bytes.length + uptoBulk d + 1
  | (_, d) => uptoBulk d + 1
 end
def uptoSmall : (H : Type) → List (DataW H) → Bool := fun _ ds => decide (uptoBulkAll ds ≤ 1048576)
def OpenSpec.upto (s : _root_.Go.ChangeSpec) : _root_.Go.OpenSpec := { _root_.Go.OpenSpec.ofChange s with cond := some uptoSmall }

/-- 'analemmalaw03.InstantMakes', WHERE WHAT IT READS IS OF BULK AT MOST 1048576: true; the input reads as it did. -/
def instantMakesUptoRow : OpenClaim := { program := "ytnebfgphcoladaa", sum := "a8868f65839f88eb1ce673eaa25888f15c7f55e1e5a57e7dd3f0be00bdca14a6", func := "analemma/analemmalaw03.InstantMakes", spec := "instantMakes", apart := false, narrowed := true }
def InstantMakesUptoSaid : Prop := instantMakesUptoRow.holds Try.pinned (OpenSpec.upto instantMakesSpec)

/-- 'analemmalaw03.InstantSums', WHERE WHAT IT READS IS OF BULK AT MOST 1048576: true; the input reads as it did. -/
def instantSumsUptoRow : OpenClaim := { program := "ytnebfgphcoladaa", sum := "a8868f65839f88eb1ce673eaa25888f15c7f55e1e5a57e7dd3f0be00bdca14a6", func := "analemma/analemmalaw03.InstantSums", spec := "instantSums", apart := false, narrowed := true }
def InstantSumsUptoSaid : Prop := instantSumsUptoRow.holds Try.pinned (OpenSpec.upto instantSumsSpec)

/-- 'analemmalaw03.InstantBetween', WHERE WHAT IT READS IS OF BULK AT MOST 1048576: true; the input reads as it did. -/
def instantBetweenUptoRow : OpenClaim := { program := "ytnebfgphcoladaa", sum := "a8868f65839f88eb1ce673eaa25888f15c7f55e1e5a57e7dd3f0be00bdca14a6", func := "analemma/analemmalaw03.InstantBetween", spec := "instantBetween", apart := false, narrowed := true }
def InstantBetweenUptoSaid : Prop := instantBetweenUptoRow.holds Try.pinned (OpenSpec.upto instantBetweenSpec)

/-- 'analemmalaw03.InstantOrder', WHERE WHAT IT READS IS OF BULK AT MOST 1048576: true; the input reads as it did. -/
def instantOrderUptoRow : OpenClaim := { program := "ytnebfgphcoladaa", sum := "a8868f65839f88eb1ce673eaa25888f15c7f55e1e5a57e7dd3f0be00bdca14a6", func := "analemma/analemmalaw03.InstantOrder", spec := "instantOrder", apart := false, narrowed := true }
def InstantOrderUptoSaid : Prop := instantOrderUptoRow.holds Try.pinned (OpenSpec.upto instantOrderSpec)

/-- 'analemmalaw03.InstantNanos', WHERE WHAT IT READS IS OF BULK AT MOST 1048576: true; the input reads as it did. -/
def instantNanosUptoRow : OpenClaim := { program := "ytnebfgphcoladaa", sum := "a8868f65839f88eb1ce673eaa25888f15c7f55e1e5a57e7dd3f0be00bdca14a6", func := "analemma/analemmalaw03.InstantNanos", spec := "instantNanos", inPlace := ["math/bits.Add64", "math/bits.Sub64"], unfollowed := true, recurses := true, named := ["math/bits.divideError", "math/bits.overflowError"], apart := false, narrowed := true }
def InstantNanosUptoSaid : Prop := instantNanosUptoRow.holds Try.pinned (OpenSpec.upto instantNanosSpec)

end Rows
end Go.Proofs.Ytnebfgphcoladaa
