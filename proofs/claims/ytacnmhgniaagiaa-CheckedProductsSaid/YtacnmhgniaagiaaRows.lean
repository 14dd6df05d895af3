/-
  No cell of these rows narrows 'for every input' (looked for: loops, veiled, ifaces, maps, wideKeys, modest, calm, conditions, laid).
  DERIVED. THE GIVEN ROWS OF THIS SEAT. 5 by the template 'for every input the law returns true; each argument reads behind the call as it read before'; 0 by the template 'total and deterministic' (their statements: YtacnmhgniaagiaaTotals.lean).
  GIVEN WITH THE SEED: the statements are not yours to turn. If you find one false, say at which input.
  Laid BY PROGRAM, IN A SANDBOX (cutbox-rows.mjs): the forced cells as the released guide's own fill.sh prints them over the translation 71077d58b96ce2bf… (all of the seat's roots in one cut). By AI agents, Wed Nov 11 2026. No macro, syntax, notation, axiom, sorry.
-/
import Derived.Test.YtacnmhgniaagiaaChecked
import GoSem.Claim
import GoSem.ClaimJoined
import GoSem.ClaimMapViews
import Derived.JoinedTies
import Derived.KernelRfl
namespace Go.Proofs.Ytacnmhgniaagiaa
/- THE CELL 'sum', in the pinned program and in every row, IS THE sha256 OF THE DUMP (.gsa) THAT YtacnmhgniaagiaaProg.lean LOADS. Nothing in Lean hashes anything: it is a label: what it is worth is what the hold of that sum in a sandbox is worth. -/
noncomputable def Try.pinned : Pinned := { name := "ytacnmhgniaagiaa", sum := "71077d58b96ce2bf0c64223fdd0af738852bf807209b3b0ce8b29a71e78bca07", checked := Try.checked }
namespace Rows
def none {H : Type} : Left H := { results := [], args := [] }

/-- 'analemmalaw02.CheckedFloors': WHATEVER THE INPUT: true; the input reads as it did. -/
def checkedFloorsSpec : ChangeSpec := { name := "checkedFloors", fn := fun _ => fun
  | [d1, d2] => { results := [.lit (.bool true)], args := [d1, d2] }
  | _ => none }
def checkedFloorsRow : OpenClaim := { program := "ytacnmhgniaagiaa", sum := "71077d58b96ce2bf0c64223fdd0af738852bf807209b3b0ce8b29a71e78bca07", func := "analemma/analemmalaw02.CheckedFloors", spec := "checkedFloors", inPlace := ["math/bits.Add64", "math/bits.Sub64"], named := ["math/bits.divideError", "math/bits.overflowError"], apart := false }
def CheckedFloorsSaid : Prop := checkedFloorsRow.holds Try.pinned (OpenSpec.ofChange checkedFloorsSpec)

/-- ITS FALSE NEIGHBOUR: 'it returns false'. Refute it at one input. -/
def checkedFloorsWrong : ChangeSpec := { name := "checkedFloors", fn := fun _ => fun
  | [d1, d2] => { results := [.lit (.bool false)], args := [d1, d2] }
  | _ => none }
def CheckedFloorsWrongFalsely : Prop := checkedFloorsRow.holds Try.pinned (OpenSpec.ofChange checkedFloorsWrong)

/-- 'analemmalaw02.CheckedMulDivs': WHATEVER THE INPUT: true; the input reads as it did. -/
def checkedMulDivsSpec : ChangeSpec := { name := "checkedMulDivs", fn := fun _ => fun
  | [d1, d2, d3] => { results := [.lit (.bool true)], args := [d1, d2, d3] }
  | _ => none }
def checkedMulDivsRow : OpenClaim := { program := "ytacnmhgniaagiaa", sum := "71077d58b96ce2bf0c64223fdd0af738852bf807209b3b0ce8b29a71e78bca07", func := "analemma/analemmalaw02.CheckedMulDivs", spec := "checkedMulDivs", inPlace := ["math/bits.Add64", "math/bits.Sub64"], named := ["math/bits.divideError", "math/bits.overflowError"], apart := false }
def CheckedMulDivsSaid : Prop := checkedMulDivsRow.holds Try.pinned (OpenSpec.ofChange checkedMulDivsSpec)

/-- ITS FALSE NEIGHBOUR: 'it returns false'. Refute it at one input. -/
def checkedMulDivsWrong : ChangeSpec := { name := "checkedMulDivs", fn := fun _ => fun
  | [d1, d2, d3] => { results := [.lit (.bool false)], args := [d1, d2, d3] }
  | _ => none }
def CheckedMulDivsWrongFalsely : Prop := checkedMulDivsRow.holds Try.pinned (OpenSpec.ofChange checkedMulDivsWrong)

/-- 'analemmalaw02.CheckedRests': WHATEVER THE INPUT: true; the input reads as it did. -/
def checkedRestsSpec : ChangeSpec := { name := "checkedRests", fn := fun _ => fun
  | [d1, d2] => { results := [.lit (.bool true)], args := [d1, d2] }
  | _ => none }
def checkedRestsRow : OpenClaim := { program := "ytacnmhgniaagiaa", sum := "71077d58b96ce2bf0c64223fdd0af738852bf807209b3b0ce8b29a71e78bca07", func := "analemma/analemmalaw02.CheckedRests", spec := "checkedRests", inPlace := ["math/bits.Add64", "math/bits.Sub64"], named := ["math/bits.divideError", "math/bits.overflowError"], apart := false }
def CheckedRestsSaid : Prop := checkedRestsRow.holds Try.pinned (OpenSpec.ofChange checkedRestsSpec)

/-- ITS FALSE NEIGHBOUR: 'it returns false'. Refute it at one input. -/
def checkedRestsWrong : ChangeSpec := { name := "checkedRests", fn := fun _ => fun
  | [d1, d2] => { results := [.lit (.bool false)], args := [d1, d2] }
  | _ => none }
def CheckedRestsWrongFalsely : Prop := checkedRestsRow.holds Try.pinned (OpenSpec.ofChange checkedRestsWrong)

/-- 'analemmalaw02.CheckedSums': WHATEVER THE INPUT: true; the input reads as it did. -/
def checkedSumsSpec : ChangeSpec := { name := "checkedSums", fn := fun _ => fun
  | [d1, d2] => { results := [.lit (.bool true)], args := [d1, d2] }
  | _ => none }
def checkedSumsRow : OpenClaim := { program := "ytacnmhgniaagiaa", sum := "71077d58b96ce2bf0c64223fdd0af738852bf807209b3b0ce8b29a71e78bca07", func := "analemma/analemmalaw02.CheckedSums", spec := "checkedSums", inPlace := ["math/bits.Add64", "math/bits.Sub64"], named := ["math/bits.divideError", "math/bits.overflowError"], apart := false }
def CheckedSumsSaid : Prop := checkedSumsRow.holds Try.pinned (OpenSpec.ofChange checkedSumsSpec)

/-- ITS FALSE NEIGHBOUR: 'it returns false'. Refute it at one input. -/
def checkedSumsWrong : ChangeSpec := { name := "checkedSums", fn := fun _ => fun
  | [d1, d2] => { results := [.lit (.bool false)], args := [d1, d2] }
  | _ => none }
def CheckedSumsWrongFalsely : Prop := checkedSumsRow.holds Try.pinned (OpenSpec.ofChange checkedSumsWrong)

/-- 'analemmalaw02.CheckedProducts': WHATEVER THE INPUT: true; the input reads as it did. -/
def checkedProductsSpec : ChangeSpec := { name := "checkedProducts", fn := fun _ => fun
  | [d1, d2] => { results := [.lit (.bool true)], args := [d1, d2] }
  | _ => none }
def checkedProductsRow : OpenClaim := { program := "ytacnmhgniaagiaa", sum := "71077d58b96ce2bf0c64223fdd0af738852bf807209b3b0ce8b29a71e78bca07", func := "analemma/analemmalaw02.CheckedProducts", spec := "checkedProducts", inPlace := ["math/bits.Sub64", "math/bits.Add64"], named := ["math/bits.divideError", "math/bits.overflowError"], apart := false }
def CheckedProductsSaid : Prop := checkedProductsRow.holds Try.pinned (OpenSpec.ofChange checkedProductsSpec)

/-- ITS FALSE NEIGHBOUR: 'it returns false'. Refute it at one input. -/
def checkedProductsWrong : ChangeSpec := { name := "checkedProducts", fn := fun _ => fun
  | [d1, d2] => { results := [.lit (.bool false)], args := [d1, d2] }
  | _ => none }
def CheckedProductsWrongFalsely : Prop := checkedProductsRow.holds Try.pinned (OpenSpec.ofChange checkedProductsWrong)

/- THE SECOND FORM. 'bulk': how many values and letters a reading holds, each counted each time it is reached (what is shared counts as often as it is met; a slice's spare places count too). A statement '..UptoSaid' is the law's where the arguments, and the package variables that the reading takes, are together of bulk at most 1048576: NARROWER than '..Said'. Prove '..Said' where nothing that the law and all that it calls make is longer than what came in: it says more and counts as full. Else prove '..UptoSaid'. A law counts once. -/
mutual
def uptoBulk {H : Type} : DataW H → Nat
  | .lit (.string bytes) => bytes.length + 1
  | .lit _ => 1
  | .nil => 1
  | .ptr d => uptoBulk d + 1
  | .slice elems spare => uptoBulkAll elems + uptoBulkAll spare + 1
  | .agg parts => uptoBulkAll parts + 1
  | .iface _ d => uptoBulk d + 1
  | .map entries => uptoBulkEntries entries + 1
  | .held _ => 1
def uptoBulkAll {H : Type} : List (DataW H) → Nat
  | [] => 0
  | d :: r => uptoBulk d + uptoBulkAll r
def uptoBulkEntries {H : Type} : List (Lit × DataW H) → Nat
  | [] => 0
  | x :: r => uptoBulkEntry x + uptoBulkEntries r
def uptoBulkEntry {H : Type} : Lit × DataW H → Nat
  | (.string bytes, d) => bytes.length + uptoBulk d + 1
  | (_, d) => uptoBulk d + 1
 end
def uptoSmall : (H : Type) → List (DataW H) → Bool := fun _ ds => decide (uptoBulkAll ds ≤ 1048576)
def OpenSpec.upto (s : _root_.Go.ChangeSpec) : _root_.Go.OpenSpec := { _root_.Go.OpenSpec.ofChange s with cond := some uptoSmall }

/-- 'analemmalaw02.CheckedFloors', WHERE WHAT IT READS IS OF BULK AT MOST 1048576: true; the input reads as it did. -/
def checkedFloorsUptoRow : OpenClaim := { program := "ytacnmhgniaagiaa", sum := "71077d58b96ce2bf0c64223fdd0af738852bf807209b3b0ce8b29a71e78bca07", func := "analemma/analemmalaw02.CheckedFloors", spec := "checkedFloors", inPlace := ["math/bits.Add64", "math/bits.Sub64"], named := ["math/bits.divideError", "math/bits.overflowError"], apart := false, narrowed := true }
def CheckedFloorsUptoSaid : Prop := checkedFloorsUptoRow.holds Try.pinned (OpenSpec.upto checkedFloorsSpec)

/-- 'analemmalaw02.CheckedMulDivs', WHERE WHAT IT READS IS OF BULK AT MOST 1048576: true; the input reads as it did. -/
def checkedMulDivsUptoRow : OpenClaim := { program := "ytacnmhgniaagiaa", sum := "71077d58b96ce2bf0c64223fdd0af738852bf807209b3b0ce8b29a71e78bca07", func := "analemma/analemmalaw02.CheckedMulDivs", spec := "checkedMulDivs", inPlace := ["math/bits.Add64", "math/bits.Sub64"], named := ["math/bits.divideError", "math/bits.overflowError"], apart := false, narrowed := true }
def CheckedMulDivsUptoSaid : Prop := checkedMulDivsUptoRow.holds Try.pinned (OpenSpec.upto checkedMulDivsSpec)

/-- 'analemmalaw02.CheckedRests', WHERE WHAT IT READS IS OF BULK AT MOST 1048576: true; the input reads as it did. -/
def checkedRestsUptoRow : OpenClaim := { program := "ytacnmhgniaagiaa", sum := "71077d58b96ce2bf0c64223fdd0af738852bf807209b3b0ce8b29a71e78bca07", func := "analemma/analemmalaw02.CheckedRests", spec := "checkedRests", inPlace := ["math/bits.Add64", "math/bits.Sub64"], named := ["math/bits.divideError", "math/bits.overflowError"], apart := false, narrowed := true }
def CheckedRestsUptoSaid : Prop := checkedRestsUptoRow.holds Try.pinned (OpenSpec.upto checkedRestsSpec)

/-- 'analemmalaw02.CheckedSums', WHERE WHAT IT READS IS OF BULK AT MOST 1048576: true; the input reads as it did. -/
def checkedSumsUptoRow : OpenClaim := { program := "ytacnmhgniaagiaa", sum := "71077d58b96ce2bf0c64223fdd0af738852bf807209b3b0ce8b29a71e78bca07", func := "analemma/analemmalaw02.CheckedSums", spec := "checkedSums", inPlace := ["math/bits.Add64", "math/bits.Sub64"], named := ["math/bits.divideError", "math/bits.overflowError"], apart := false, narrowed := true }
def CheckedSumsUptoSaid : Prop := checkedSumsUptoRow.holds Try.pinned (OpenSpec.upto checkedSumsSpec)

/-- 'analemmalaw02.CheckedProducts', WHERE WHAT IT READS IS OF BULK AT MOST 1048576: true; the input reads as it did. -/
def checkedProductsUptoRow : OpenClaim := { program := "ytacnmhgniaagiaa", sum := "71077d58b96ce2bf0c64223fdd0af738852bf807209b3b0ce8b29a71e78bca07", func := "analemma/analemmalaw02.CheckedProducts", spec := "checkedProducts", inPlace := ["math/bits.Sub64", "math/bits.Add64"], named := ["math/bits.divideError", "math/bits.overflowError"], apart := false, narrowed := true }
def CheckedProductsUptoSaid : Prop := checkedProductsUptoRow.holds Try.pinned (OpenSpec.upto checkedProductsSpec)

end Rows
end Go.Proofs.Ytacnmhgniaagiaa
