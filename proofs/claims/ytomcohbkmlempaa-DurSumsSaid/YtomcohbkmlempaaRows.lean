/-
  No cell of these rows narrows 'for every input' (looked for: loops, veiled, ifaces, maps, wideKeys, modest, calm, conditions, laid).
  DERIVED. THE GIVEN ROWS OF THIS SEAT. 5 by the template 'for every input the law returns true; each argument reads behind the call as it read before'; 0 by the template 'total and deterministic' (their statements: YtomcohbkmlempaaTotals.lean).
  GIVEN WITH THE SEED: the statements are not yours to turn. If you find one false, say at which input.
  Laid BY PROGRAM, IN A SANDBOX (cutbox-rows.mjs): the forced cells as the released guide's own fill.sh prints them over the translation 9ed62df0cdbc6ae7… (all of the seat's roots in one cut). By AI agents, Wed Nov 11 2026. No macro, syntax, notation, axiom, sorry.
-/
import Derived.Test.YtomcohbkmlempaaChecked
import GoSem.Claim
import GoSem.ClaimJoined
import GoSem.ClaimMapViews
import Derived.JoinedTies
import Derived.KernelRfl
namespace Go.Proofs.Ytomcohbkmlempaa
/- THE CELL 'sum', in the pinned program and in every row, IS THE sha256 OF THE DUMP (.gsa) THAT YtomcohbkmlempaaProg.lean LOADS. Nothing in Lean hashes anything: it is a label: what it is worth is what the hold of that sum in a sandbox is worth. -/
noncomputable def Try.pinned : Pinned := { name := "ytomcohbkmlempaa", sum := "9ed62df0cdbc6ae71b9b32c0364da1def67ab77adadcf3e53922fe3468443e2d", checked := Try.checked }
namespace Rows
def none {H : Type} : Left H := { results := [], args := [] }

/-- 'analemmalaw04.DurMakes': WHATEVER THE INPUT: true; the input reads as it did. -/
def durMakesSpec : ChangeSpec := { name := "durMakes", fn := fun _ => fun
  | [d1, d2] => { results := [.lit (.bool true)], args := [d1, d2] }
  | _ => none }
def durMakesRow : OpenClaim := { program := "ytomcohbkmlempaa", sum := "9ed62df0cdbc6ae71b9b32c0364da1def67ab77adadcf3e53922fe3468443e2d", func := "analemma/analemmalaw04.DurMakes", spec := "durMakes", inPlace := ["math/bits.Sub64", "math/bits.Add64"], unfollowed := true, recurses := true, named := ["math/bits.divideError", "math/bits.overflowError"], apart := false }
def DurMakesSaid : Prop := durMakesRow.holds Try.pinned (OpenSpec.ofChange durMakesSpec)

/-- ITS FALSE NEIGHBOUR: 'it returns false'. Refute it at one input. -/
def durMakesWrong : ChangeSpec := { name := "durMakes", fn := fun _ => fun
  | [d1, d2] => { results := [.lit (.bool false)], args := [d1, d2] }
  | _ => none }
def DurMakesWrongFalsely : Prop := durMakesRow.holds Try.pinned (OpenSpec.ofChange durMakesWrong)

/-- 'analemmalaw04.DurTimes': WHATEVER THE INPUT: true; the input reads as it did. -/
def durTimesSpec : ChangeSpec := { name := "durTimes", fn := fun _ => fun
  | [d1, d2] => { results := [.lit (.bool true)], args := [d1, d2] }
  | _ => none }
def durTimesRow : OpenClaim := { program := "ytomcohbkmlempaa", sum := "9ed62df0cdbc6ae71b9b32c0364da1def67ab77adadcf3e53922fe3468443e2d", func := "analemma/analemmalaw04.DurTimes", spec := "durTimes", inPlace := ["math/bits.Add64", "math/bits.Sub64"], unfollowed := true, recurses := true, named := ["math/bits.divideError", "math/bits.overflowError"], apart := false }
def DurTimesSaid : Prop := durTimesRow.holds Try.pinned (OpenSpec.ofChange durTimesSpec)

/-- ITS FALSE NEIGHBOUR: 'it returns false'. Refute it at one input. -/
def durTimesWrong : ChangeSpec := { name := "durTimes", fn := fun _ => fun
  | [d1, d2] => { results := [.lit (.bool false)], args := [d1, d2] }
  | _ => none }
def DurTimesWrongFalsely : Prop := durTimesRow.holds Try.pinned (OpenSpec.ofChange durTimesWrong)

/-- 'analemmalaw04.DurBack': WHATEVER THE INPUT: true; the input reads as it did. -/
def durBackSpec : ChangeSpec := { name := "durBack", fn := fun _ => fun
  | [d1, d2, d3] => { results := [.lit (.bool true)], args := [d1, d2, d3] }
  | _ => none }
def durBackRow : OpenClaim := { program := "ytomcohbkmlempaa", sum := "9ed62df0cdbc6ae71b9b32c0364da1def67ab77adadcf3e53922fe3468443e2d", func := "analemma/analemmalaw04.DurBack", spec := "durBack", inPlace := ["math/bits.Sub64", "math/bits.Add64"], unfollowed := true, recurses := true, named := ["math/bits.divideError", "math/bits.overflowError"], apart := false }
def DurBackSaid : Prop := durBackRow.holds Try.pinned (OpenSpec.ofChange durBackSpec)

/-- ITS FALSE NEIGHBOUR: 'it returns false'. Refute it at one input. -/
def durBackWrong : ChangeSpec := { name := "durBack", fn := fun _ => fun
  | [d1, d2, d3] => { results := [.lit (.bool false)], args := [d1, d2, d3] }
  | _ => none }
def DurBackWrongFalsely : Prop := durBackRow.holds Try.pinned (OpenSpec.ofChange durBackWrong)

/-- 'analemmalaw04.DurNanos': WHATEVER THE INPUT: true; the input reads as it did. -/
def durNanosSpec : ChangeSpec := { name := "durNanos", fn := fun _ => fun
  | [d1, d2] => { results := [.lit (.bool true)], args := [d1, d2] }
  | _ => none }
def durNanosRow : OpenClaim := { program := "ytomcohbkmlempaa", sum := "9ed62df0cdbc6ae71b9b32c0364da1def67ab77adadcf3e53922fe3468443e2d", func := "analemma/analemmalaw04.DurNanos", spec := "durNanos", inPlace := ["math/bits.Add64", "math/bits.Sub64"], unfollowed := true, recurses := true, named := ["math/bits.divideError", "math/bits.overflowError"], apart := false }
def DurNanosSaid : Prop := durNanosRow.holds Try.pinned (OpenSpec.ofChange durNanosSpec)

/-- ITS FALSE NEIGHBOUR: 'it returns false'. Refute it at one input. -/
def durNanosWrong : ChangeSpec := { name := "durNanos", fn := fun _ => fun
  | [d1, d2] => { results := [.lit (.bool false)], args := [d1, d2] }
  | _ => none }
def DurNanosWrongFalsely : Prop := durNanosRow.holds Try.pinned (OpenSpec.ofChange durNanosWrong)

/-- 'analemmalaw04.DurSums': WHATEVER THE INPUT: true; the input reads as it did. -/
def durSumsSpec : ChangeSpec := { name := "durSums", fn := fun _ => fun
  | [d1, d2] => { results := [.lit (.bool true)], args := [d1, d2] }
  | _ => none }
def durSumsRow : OpenClaim := { program := "ytomcohbkmlempaa", sum := "9ed62df0cdbc6ae71b9b32c0364da1def67ab77adadcf3e53922fe3468443e2d", func := "analemma/analemmalaw04.DurSums", spec := "durSums", inPlace := ["math/bits.Sub64", "math/bits.Add64"], unfollowed := true, recurses := true, named := ["math/bits.divideError", "math/bits.overflowError"], apart := false }
def DurSumsSaid : Prop := durSumsRow.holds Try.pinned (OpenSpec.ofChange durSumsSpec)

/-- ITS FALSE NEIGHBOUR: 'it returns false'. Refute it at one input. -/
def durSumsWrong : ChangeSpec := { name := "durSums", fn := fun _ => fun
  | [d1, d2] => { results := [.lit (.bool false)], args := [d1, d2] }
  | _ => none }
def DurSumsWrongFalsely : Prop := durSumsRow.holds Try.pinned (OpenSpec.ofChange durSumsWrong)

/- THE SECOND FORM. 'bulk': how many values and letters a reading holds, each counted each time it is reached (what is shared counts as often as it is met; a slice's spare places count too). A statement '..UptoSaid' is the law's where the arguments, and the package variables that the reading takes, are together of bulk at most 1048576: NARROWER than '..Said'. Prove '..Said' where nothing that the law and all that it calls make is longer than what came in: it says more and counts as full. Else prove '..UptoSaid'. A law counts once. -/
mutual
def uptoBulk {H : Type} : DataW H → Nat
  | .lit (.string bytes) => bytes.length + 1
  | .lit _ => 1
  | .nil => 1
  | .ptr d => uptoBulk d + 1
  | .slice elems spare => uptoBulkAll elems + uptoBulkAll spare + 1
  | .agg parts => uptoBulkAll parts + 1
  | .iface _ d => uptoBulk d + 1
  | .map entries => uptoBulkEntries entries + 1
  | .held _ => 1
def uptoBulkAll {H : Type} : List (DataW H) → Nat
  | [] => 0
  | d :: r => uptoBulk d + uptoBulkAll r
def uptoBulkEntries {H : Type} : List (Lit × DataW H) → Nat
  | [] => 0
  | x :: r => uptoBulkEntry x + uptoBulkEntries r
def uptoBulkEntry {H : Type} : Lit × DataW H → Nat
  | (.string bytes, d) => bytes.length + uptoBulk d + 1
  | (_, d) => uptoBulk d + 1
 end
def uptoSmall : (H : Type) → List (DataW H) → Bool := fun _ ds => decide (uptoBulkAll ds ≤ 1048576)
def OpenSpec.upto (s : _root_.Go.ChangeSpec) : _root_.Go.OpenSpec := { _root_.Go.OpenSpec.ofChange s with cond := some uptoSmall }

/-- 'analemmalaw04.DurMakes', WHERE WHAT IT READS IS OF BULK AT MOST 1048576: true; the input reads as it did. -/
def durMakesUptoRow : OpenClaim := { program := "ytomcohbkmlempaa", sum := "9ed62df0cdbc6ae71b9b32c0364da1def67ab77adadcf3e53922fe3468443e2d", func := "analemma/analemmalaw04.DurMakes", spec := "durMakes", inPlace := ["math/bits.Sub64", "math/bits.Add64"], unfollowed := true, recurses := true, named := ["math/bits.divideError", "math/bits.overflowError"], apart := false, narrowed := true }
def DurMakesUptoSaid : Prop := durMakesUptoRow.holds Try.pinned (OpenSpec.upto durMakesSpec)

/-- 'analemmalaw04.DurTimes', WHERE WHAT IT READS IS OF BULK AT MOST 1048576: true; the input reads as it did. -/
def durTimesUptoRow : OpenClaim := { program := "ytomcohbkmlempaa", sum := "9ed62df0cdbc6ae71b9b32c0364da1def67ab77adadcf3e53922fe3468443e2d", func := "analemma/analemmalaw04.DurTimes", spec := "durTimes", inPlace := ["math/bits.Add64", "math/bits.Sub64"], unfollowed := true, recurses := true, named := ["math/bits.divideError", "math/bits.overflowError"], apart := false, narrowed := true }
def DurTimesUptoSaid : Prop := durTimesUptoRow.holds Try.pinned (OpenSpec.upto durTimesSpec)

/-- 'analemmalaw04.DurBack', WHERE WHAT IT READS IS OF BULK AT MOST 1048576: true; the input reads as it did. -/
def durBackUptoRow : OpenClaim := { program := "ytomcohbkmlempaa", sum := "9ed62df0cdbc6ae71b9b32c0364da1def67ab77adadcf3e53922fe3468443e2d", func := "analemma/analemmalaw04.DurBack", spec := "durBack", inPlace := ["math/bits.Sub64", "math/bits.Add64"], unfollowed := true, recurses := true, named := ["math/bits.divideError", "math/bits.overflowError"], apart := false, narrowed := true }
def DurBackUptoSaid : Prop := durBackUptoRow.holds Try.pinned (OpenSpec.upto durBackSpec)

/-- 'analemmalaw04.DurNanos', WHERE WHAT IT READS IS OF BULK AT MOST 1048576: true; the input reads as it did. -/
def durNanosUptoRow : OpenClaim := { program := "ytomcohbkmlempaa", sum := "9ed62df0cdbc6ae71b9b32c0364da1def67ab77adadcf3e53922fe3468443e2d", func := "analemma/analemmalaw04.DurNanos", spec := "durNanos", inPlace := ["math/bits.Add64", "math/bits.Sub64"], unfollowed := true, recurses := true, named := ["math/bits.divideError", "math/bits.overflowError"], apart := false, narrowed := true }
def DurNanosUptoSaid : Prop := durNanosUptoRow.holds Try.pinned (OpenSpec.upto durNanosSpec)

/-- 'analemmalaw04.DurSums', WHERE WHAT IT READS IS OF BULK AT MOST 1048576: true; the input reads as it did. -/
def durSumsUptoRow : OpenClaim := { program := "ytomcohbkmlempaa", sum := "9ed62df0cdbc6ae71b9b32c0364da1def67ab77adadcf3e53922fe3468443e2d", func := "analemma/analemmalaw04.DurSums", spec := "durSums", inPlace := ["math/bits.Sub64", "math/bits.Add64"], unfollowed := true, recurses := true, named := ["math/bits.divideError", "math/bits.overflowError"], apart := false, narrowed := true }
def DurSumsUptoSaid : Prop := durSumsUptoRow.holds Try.pinned (OpenSpec.upto durSumsSpec)

end Rows
end Go.Proofs.Ytomcohbkmlempaa
