/-
  No cell of these rows narrows 'for every input' (looked for: loops, veiled, ifaces, maps, wideKeys, modest, calm, conditions, laid).
  DERIVED. THE GIVEN ROWS OF THIS SEAT. 5 by the template 'for every input the law returns true; each argument reads behind the call as it read before'; 0 by the template 'total and deterministic' (their statements: YtiamacidfgkdkaaTotals.lean).
  GIVEN WITH THE SEED: the statements are not yours to turn. If you find one false, say at which input.
  Laid BY PROGRAM, IN A SANDBOX (cutbox-rows.mjs): the forced cells as the released guide's own fill.sh prints them over the translation 5dce923c5a3cdd48… (all of the seat's roots in one cut). By AI agents, Wed Nov 11 2026. No macro, syntax, notation, axiom, sorry.
-/
import Derived.Test.YtiamacidfgkdkaaChecked
import GoSem.Claim
import GoSem.ClaimJoined
import GoSem.ClaimMapViews
import Derived.JoinedTies
import Derived.KernelRfl
namespace Go.Proofs.Ytiamacidfgkdkaa
/- THE CELL 'sum', in the pinned program and in every row, IS THE sha256 OF THE DUMP (.gsa) THAT YtiamacidfgkdkaaProg.lean LOADS. Nothing in Lean hashes anything: it is a label: what it is worth is what the hold of that sum in a sandbox is worth. -/
noncomputable def Try.pinned : Pinned := { name := "ytiamacidfgkdkaa", sum := "5dce923c5a3cdd485eee209eed77528164d45f4f467121511b149007526efd55", checked := Try.checked }
namespace Rows
def none {H : Type} : Left H := { results := [], args := [] }

/-- 'analemmalaw05.RoundWides': WHATEVER THE INPUT: true; the input reads as it did. -/
def roundWidesSpec : ChangeSpec := { name := "roundWides", fn := fun _ => fun
  | [d1, d2, d3] => { results := [.lit (.bool true)], args := [d1, d2, d3] }
  | _ => none }
def roundWidesRow : OpenClaim := { program := "ytiamacidfgkdkaa", sum := "5dce923c5a3cdd485eee209eed77528164d45f4f467121511b149007526efd55", func := "analemma/analemmalaw05.RoundWides", spec := "roundWides", inPlace := ["math/bits.Sub64", "math/bits.Add64"], unfollowed := true, recurses := true, named := ["math/bits.divideError", "math/bits.overflowError"], apart := false }
def RoundWidesSaid : Prop := roundWidesRow.holds Try.pinned (OpenSpec.ofChange roundWidesSpec)

/-- ITS FALSE NEIGHBOUR: 'it returns false'. Refute it at one input. -/
def roundWidesWrong : ChangeSpec := { name := "roundWides", fn := fun _ => fun
  | [d1, d2, d3] => { results := [.lit (.bool false)], args := [d1, d2, d3] }
  | _ => none }
def RoundWidesWrongFalsely : Prop := roundWidesRow.holds Try.pinned (OpenSpec.ofChange roundWidesWrong)

/-- 'analemmalaw05.RoundInstants': WHATEVER THE INPUT: true; the input reads as it did. -/
def roundInstantsSpec : ChangeSpec := { name := "roundInstants", fn := fun _ => fun
  | [d1, d2, d3] => { results := [.lit (.bool true)], args := [d1, d2, d3] }
  | _ => none }
def roundInstantsRow : OpenClaim := { program := "ytiamacidfgkdkaa", sum := "5dce923c5a3cdd485eee209eed77528164d45f4f467121511b149007526efd55", func := "analemma/analemmalaw05.RoundInstants", spec := "roundInstants", inPlace := ["math/bits.Add64", "math/bits.Sub64"], unfollowed := true, recurses := true, named := ["math/bits.divideError", "math/bits.overflowError"], apart := false }
def RoundInstantsSaid : Prop := roundInstantsRow.holds Try.pinned (OpenSpec.ofChange roundInstantsSpec)

/-- ITS FALSE NEIGHBOUR: 'it returns false'. Refute it at one input. -/
def roundInstantsWrong : ChangeSpec := { name := "roundInstants", fn := fun _ => fun
  | [d1, d2, d3] => { results := [.lit (.bool false)], args := [d1, d2, d3] }
  | _ => none }
def RoundInstantsWrongFalsely : Prop := roundInstantsRow.holds Try.pinned (OpenSpec.ofChange roundInstantsWrong)

/-- 'analemmalaw05.RoundDurs': WHATEVER THE INPUT: true; the input reads as it did. -/
def roundDursSpec : ChangeSpec := { name := "roundDurs", fn := fun _ => fun
  | [d1, d2, d3] => { results := [.lit (.bool true)], args := [d1, d2, d3] }
  | _ => none }
def roundDursRow : OpenClaim := { program := "ytiamacidfgkdkaa", sum := "5dce923c5a3cdd485eee209eed77528164d45f4f467121511b149007526efd55", func := "analemma/analemmalaw05.RoundDurs", spec := "roundDurs", inPlace := ["math/bits.Add64", "math/bits.Sub64"], unfollowed := true, recurses := true, named := ["math/bits.divideError", "math/bits.overflowError"], apart := false }
def RoundDursSaid : Prop := roundDursRow.holds Try.pinned (OpenSpec.ofChange roundDursSpec)

/-- ITS FALSE NEIGHBOUR: 'it returns false'. Refute it at one input. -/
def roundDursWrong : ChangeSpec := { name := "roundDurs", fn := fun _ => fun
  | [d1, d2, d3] => { results := [.lit (.bool false)], args := [d1, d2, d3] }
  | _ => none }
def RoundDursWrongFalsely : Prop := roundDursRow.holds Try.pinned (OpenSpec.ofChange roundDursWrong)

/-- 'analemmalaw05.RoundAgain': WHATEVER THE INPUT: true; the input reads as it did. -/
def roundAgainSpec : ChangeSpec := { name := "roundAgain", fn := fun _ => fun
  | [d1, d2, d3] => { results := [.lit (.bool true)], args := [d1, d2, d3] }
  | _ => none }
def roundAgainRow : OpenClaim := { program := "ytiamacidfgkdkaa", sum := "5dce923c5a3cdd485eee209eed77528164d45f4f467121511b149007526efd55", func := "analemma/analemmalaw05.RoundAgain", spec := "roundAgain", inPlace := ["math/bits.Sub64", "math/bits.Add64"], unfollowed := true, recurses := true, named := ["math/bits.divideError", "math/bits.overflowError"], apart := false }
def RoundAgainSaid : Prop := roundAgainRow.holds Try.pinned (OpenSpec.ofChange roundAgainSpec)

/-- ITS FALSE NEIGHBOUR: 'it returns false'. Refute it at one input. -/
def roundAgainWrong : ChangeSpec := { name := "roundAgain", fn := fun _ => fun
  | [d1, d2, d3] => { results := [.lit (.bool false)], args := [d1, d2, d3] }
  | _ => none }
def RoundAgainWrongFalsely : Prop := roundAgainRow.holds Try.pinned (OpenSpec.ofChange roundAgainWrong)

/-- 'analemmalaw05.RoundTurns': WHATEVER THE INPUT: true; the input reads as it did. -/
def roundTurnsSpec : ChangeSpec := { name := "roundTurns", fn := fun _ => fun
  | [d1, d2] => { results := [.lit (.bool true)], args := [d1, d2] }
  | _ => none }
def roundTurnsRow : OpenClaim := { program := "ytiamacidfgkdkaa", sum := "5dce923c5a3cdd485eee209eed77528164d45f4f467121511b149007526efd55", func := "analemma/analemmalaw05.RoundTurns", spec := "roundTurns", inPlace := ["math/bits.Sub64", "math/bits.Add64"], unfollowed := true, recurses := true, named := ["math/bits.divideError", "math/bits.overflowError"], apart := false }
def RoundTurnsSaid : Prop := roundTurnsRow.holds Try.pinned (OpenSpec.ofChange roundTurnsSpec)

/-- ITS FALSE NEIGHBOUR: 'it returns false'. Refute it at one input. -/
def roundTurnsWrong : ChangeSpec := { name := "roundTurns", fn := fun _ => fun
  | [d1, d2] => { results := [.lit (.bool false)], args := [d1, d2] }
  | _ => none }
def RoundTurnsWrongFalsely : Prop := roundTurnsRow.holds Try.pinned (OpenSpec.ofChange roundTurnsWrong)

/- THE SECOND FORM. 'bulk': how many values and letters a reading holds, each counted each time it is reached (what is shared counts as often as it is met; a slice's spare places count too). A statement '..UptoSaid' is the law's where the arguments, and the package variables that the reading takes, are together of bulk at most 1048576: NARROWER than '..Said'. Prove '..Said' where nothing that the law and all that it calls make is longer than what came in: it says more and counts as full. Else prove '..UptoSaid'. A law counts once. -/
mutual
def uptoBulk {H : Type} : DataW H → Nat
  | .lit (.string bytes) => bytes.length + 1
  | .lit _ => 1
  | .nil => 1
  | .ptr d => uptoBulk d + 1
  | .slice elems spare => uptoBulkAll elems + uptoBulkAll spare + 1
  | .agg parts => uptoBulkAll parts + 1
  | .iface _ d => uptoBulk d + 1
  | .map entries => uptoBulkEntries entries + 1
  | .held _ => 1
def uptoBulkAll {H : Type} : List (DataW H) → Nat
  | [] => 0
  | d :: r => uptoBulk d + uptoBulkAll r
def uptoBulkEntries {H : Type} : List (Lit × DataW H) → Nat
  | [] => 0
  | x :: r => uptoBulkEntry x + uptoBulkEntries r
def uptoBulkEntry {H : Type} : Lit × DataW H → Nat
  | (.string bytes, d) => bytes.length + uptoBulk d + 1
  | (_, d) => uptoBulk d + 1
 end
def uptoSmall : (H : Type) → List (DataW H) → Bool := fun _ ds => decide (uptoBulkAll ds ≤ 1048576)
def OpenSpec.upto (s : _root_.Go.ChangeSpec) : _root_.Go.OpenSpec := { _root_.Go.OpenSpec.ofChange s with cond := some uptoSmall }

/-- 'analemmalaw05.RoundWides', WHERE WHAT IT READS IS OF BULK AT MOST 1048576: true; the input reads as it did. -/
def roundWidesUptoRow : OpenClaim := { program := "ytiamacidfgkdkaa", sum := "5dce923c5a3cdd485eee209eed77528164d45f4f467121511b149007526efd55", func := "analemma/analemmalaw05.RoundWides", spec := "roundWides", inPlace := ["math/bits.Sub64", "math/bits.Add64"], unfollowed := true, recurses := true, named := ["math/bits.divideError", "math/bits.overflowError"], apart := false, narrowed := true }
def RoundWidesUptoSaid : Prop := roundWidesUptoRow.holds Try.pinned (OpenSpec.upto roundWidesSpec)

/-- 'analemmalaw05.RoundInstants', WHERE WHAT IT READS IS OF BULK AT MOST 1048576: true; the input reads as it did. -/
def roundInstantsUptoRow : OpenClaim := { program := "ytiamacidfgkdkaa", sum := "5dce923c5a3cdd485eee209eed77528164d45f4f467121511b149007526efd55", func := "analemma/analemmalaw05.RoundInstants", spec := "roundInstants", inPlace := ["math/bits.Add64", "math/bits.Sub64"], unfollowed := true, recurses := true, named := ["math/bits.divideError", "math/bits.overflowError"], apart := false, narrowed := true }
def RoundInstantsUptoSaid : Prop := roundInstantsUptoRow.holds Try.pinned (OpenSpec.upto roundInstantsSpec)

/-- 'analemmalaw05.RoundDurs', WHERE WHAT IT READS IS OF BULK AT MOST 1048576: true; the input reads as it did. -/
def roundDursUptoRow : OpenClaim := { program := "ytiamacidfgkdkaa", sum := "5dce923c5a3cdd485eee209eed77528164d45f4f467121511b149007526efd55", func := "analemma/analemmalaw05.RoundDurs", spec := "roundDurs", inPlace := ["math/bits.Add64", "math/bits.Sub64"], unfollowed := true, recurses := true, named := ["math/bits.divideError", "math/bits.overflowError"], apart := false, narrowed := true }
def RoundDursUptoSaid : Prop := roundDursUptoRow.holds Try.pinned (OpenSpec.upto roundDursSpec)

/-- 'analemmalaw05.RoundAgain', WHERE WHAT IT READS IS OF BULK AT MOST 1048576: true; the input reads as it did. -/
def roundAgainUptoRow : OpenClaim := { program := "ytiamacidfgkdkaa", sum := "5dce923c5a3cdd485eee209eed77528164d45f4f467121511b149007526efd55", func := "analemma/analemmalaw05.RoundAgain", spec := "roundAgain", inPlace := ["math/bits.Sub64", "math/bits.Add64"], unfollowed := true, recurses := true, named := ["math/bits.divideError", "math/bits.overflowError"], apart := false, narrowed := true }
def RoundAgainUptoSaid : Prop := roundAgainUptoRow.holds Try.pinned (OpenSpec.upto roundAgainSpec)

/-- 'analemmalaw05.RoundTurns', WHERE WHAT IT READS IS OF BULK AT MOST 1048576: true; the input reads as it did. -/
def roundTurnsUptoRow : OpenClaim := { program := "ytiamacidfgkdkaa", sum := "5dce923c5a3cdd485eee209eed77528164d45f4f467121511b149007526efd55", func := "analemma/analemmalaw05.RoundTurns", spec := "roundTurns", inPlace := ["math/bits.Sub64", "math/bits.Add64"], unfollowed := true, recurses := true, named := ["math/bits.divideError", "math/bits.overflowError"], apart := false, narrowed := true }
def RoundTurnsUptoSaid : Prop := roundTurnsUptoRow.holds Try.pinned (OpenSpec.upto roundTurnsSpec)

end Rows
end Go.Proofs.Ytiamacidfgkdkaa
