/-
  No cell of these rows narrows 'for every input' (looked for: loops, veiled, ifaces, maps, wideKeys, modest, calm, conditions, laid).
  DERIVED. THE GIVEN ROWS OF THIS SEAT. 5 by the template 'for every input the law returns true; each argument reads behind the call as it read before'; 0 by the template 'total and deterministic' (their statements: YtleedachcphbmaaTotals.lean).
  GIVEN WITH THE SEED: the statements are not yours to turn. If you find one false, say at which input.
  Laid BY PROGRAM, IN A SANDBOX (cutbox-rows.mjs): the forced cells as the released guide's own fill.sh prints them over the translation 565440be849e985e… (all of the seat's roots in one cut). By AI agents, Wed Nov 11 2026. No macro, syntax, notation, axiom, sorry.
-/
import Derived.Test.YtleedachcphbmaaChecked
import GoSem.Claim
import GoSem.ClaimJoined
import GoSem.ClaimMapViews
import Derived.JoinedTies
import Derived.KernelRfl
namespace Go.Proofs.Ytleedachcphbmaa
/- THE CELL 'sum', in the pinned program and in every row, IS THE sha256 OF THE DUMP (.gsa) THAT YtleedachcphbmaaProg.lean LOADS. Nothing in Lean hashes anything: it is a label: what it is worth is what the hold of that sum in a sandbox is worth. -/
noncomputable def Try.pinned : Pinned := { name := "ytleedachcphbmaa", sum := "565440be849e985e0d5c55fbe47a684d63216fab2fd784aa1515bea63d8fb14d", checked := Try.checked }
namespace Rows
def none {H : Type} : Left H := { results := [], args := [] }

/-- 'analemmalaw07.WeeksOf': WHATEVER THE INPUT: true; the input reads as it did. -/
def weeksOfSpec : ChangeSpec := { name := "weeksOf", fn := fun _ => fun
  | [d] => { results := [.lit (.bool true)], args := [d] }
  | _ => none }
def weeksOfRow : OpenClaim := { program := "ytleedachcphbmaa", sum := "565440be849e985e0d5c55fbe47a684d63216fab2fd784aa1515bea63d8fb14d", func := "analemma/analemmalaw07.WeeksOf", spec := "weeksOf", apart := false }
def WeeksOfSaid : Prop := weeksOfRow.holds Try.pinned (OpenSpec.ofChange weeksOfSpec)

/-- ITS FALSE NEIGHBOUR: 'it returns false'. Refute it at one input. -/
def weeksOfWrong : ChangeSpec := { name := "weeksOf", fn := fun _ => fun
  | [d] => { results := [.lit (.bool false)], args := [d] }
  | _ => none }
def WeeksOfWrongFalsely : Prop := weeksOfRow.holds Try.pinned (OpenSpec.ofChange weeksOfWrong)

/-- 'analemmalaw07.WeeksDates': WHATEVER THE INPUT: true; the input reads as it did. -/
def weeksDatesSpec : ChangeSpec := { name := "weeksDates", fn := fun _ => fun
  | [d1, d2, d3] => { results := [.lit (.bool true)], args := [d1, d2, d3] }
  | _ => none }
def weeksDatesRow : OpenClaim := { program := "ytleedachcphbmaa", sum := "565440be849e985e0d5c55fbe47a684d63216fab2fd784aa1515bea63d8fb14d", func := "analemma/analemmalaw07.WeeksDates", spec := "weeksDates", apart := false }
def WeeksDatesSaid : Prop := weeksDatesRow.holds Try.pinned (OpenSpec.ofChange weeksDatesSpec)

/-- ITS FALSE NEIGHBOUR: 'it returns false'. Refute it at one input. -/
def weeksDatesWrong : ChangeSpec := { name := "weeksDates", fn := fun _ => fun
  | [d1, d2, d3] => { results := [.lit (.bool false)], args := [d1, d2, d3] }
  | _ => none }
def WeeksDatesWrongFalsely : Prop := weeksDatesRow.holds Try.pinned (OpenSpec.ofChange weeksDatesWrong)

/-- 'analemmalaw07.WeeksBack': WHATEVER THE INPUT: true; the input reads as it did. -/
def weeksBackSpec : ChangeSpec := { name := "weeksBack", fn := fun _ => fun
  | [d] => { results := [.lit (.bool true)], args := [d] }
  | _ => none }
def weeksBackRow : OpenClaim := { program := "ytleedachcphbmaa", sum := "565440be849e985e0d5c55fbe47a684d63216fab2fd784aa1515bea63d8fb14d", func := "analemma/analemmalaw07.WeeksBack", spec := "weeksBack", apart := false }
def WeeksBackSaid : Prop := weeksBackRow.holds Try.pinned (OpenSpec.ofChange weeksBackSpec)

/-- ITS FALSE NEIGHBOUR: 'it returns false'. Refute it at one input. -/
def weeksBackWrong : ChangeSpec := { name := "weeksBack", fn := fun _ => fun
  | [d] => { results := [.lit (.bool false)], args := [d] }
  | _ => none }
def WeeksBackWrongFalsely : Prop := weeksBackRow.holds Try.pinned (OpenSpec.ofChange weeksBackWrong)

/-- 'analemmalaw07.WeeksThursdays': WHATEVER THE INPUT: true; the input reads as it did. -/
def weeksThursdaysSpec : ChangeSpec := { name := "weeksThursdays", fn := fun _ => fun
  | [d] => { results := [.lit (.bool true)], args := [d] }
  | _ => none }
def weeksThursdaysRow : OpenClaim := { program := "ytleedachcphbmaa", sum := "565440be849e985e0d5c55fbe47a684d63216fab2fd784aa1515bea63d8fb14d", func := "analemma/analemmalaw07.WeeksThursdays", spec := "weeksThursdays", apart := false }
def WeeksThursdaysSaid : Prop := weeksThursdaysRow.holds Try.pinned (OpenSpec.ofChange weeksThursdaysSpec)

/-- ITS FALSE NEIGHBOUR: 'it returns false'. Refute it at one input. -/
def weeksThursdaysWrong : ChangeSpec := { name := "weeksThursdays", fn := fun _ => fun
  | [d] => { results := [.lit (.bool false)], args := [d] }
  | _ => none }
def WeeksThursdaysWrongFalsely : Prop := weeksThursdaysRow.holds Try.pinned (OpenSpec.ofChange weeksThursdaysWrong)

/-- 'analemmalaw07.WeeksSum': WHATEVER THE INPUT: true; the input reads as it did. -/
def weeksSumSpec : ChangeSpec := { name := "weeksSum", fn := fun _ => fun
  | [d] => { results := [.lit (.bool true)], args := [d] }
  | _ => none }
def weeksSumRow : OpenClaim := { program := "ytleedachcphbmaa", sum := "565440be849e985e0d5c55fbe47a684d63216fab2fd784aa1515bea63d8fb14d", func := "analemma/analemmalaw07.WeeksSum", spec := "weeksSum", apart := false }
def WeeksSumSaid : Prop := weeksSumRow.holds Try.pinned (OpenSpec.ofChange weeksSumSpec)

/-- ITS FALSE NEIGHBOUR: 'it returns false'. Refute it at one input. -/
def weeksSumWrong : ChangeSpec := { name := "weeksSum", fn := fun _ => fun
  | [d] => { results := [.lit (.bool false)], args := [d] }
  | _ => none }
def WeeksSumWrongFalsely : Prop := weeksSumRow.holds Try.pinned (OpenSpec.ofChange weeksSumWrong)

/- THE SECOND FORM. 'bulk': how many values and letters a reading holds, each counted each time it is reached (what is shared counts as often as it is met; a slice's spare places count too). A statement '..UptoSaid' is the law's where the arguments, and the package variables that the reading takes, are together of bulk at most 1048576: NARROWER than '..Said'. Prove '..Said' where nothing that the law and all that it calls make is longer than what came in: it says more and counts as full. Else prove '..UptoSaid'. A law counts once. -/
mutual
def uptoBulk {H : Type} : DataW H → Nat
  | .lit (.string bytes) => bytes.length + 1
  | .lit _ => 1
  | .nil => 1
  | .ptr d => uptoBulk d + 1
  | .slice elems spare => uptoBulkAll elems + uptoBulkAll spare + 1
  | .agg parts => uptoBulkAll parts + 1
  | .iface _ d => uptoBulk d + 1
  | .map entries => uptoBulkEntries entries + 1
  | .held _ => 1
def uptoBulkAll {H : Type} : List (DataW H) → Nat
  | [] => 0
  | d :: r => uptoBulk d + uptoBulkAll r
def uptoBulkEntries {H : Type} : List (Lit × DataW H) → Nat
  | [] => 0
  | x :: r => uptoBulkEntry x + uptoBulkEntries r
def uptoBulkEntry {H : Type} : Lit × DataW H → Nat
  | (.string bytes, d) => bytes.length + uptoBulk d + 1
  | (_, d) => uptoBulk d + 1
 end
def uptoSmall : (H : Type) → List (DataW H) → Bool := fun _ ds => decide (uptoBulkAll ds ≤ 1048576)
def OpenSpec.upto (s : _root_.Go.ChangeSpec) : _root_.Go.OpenSpec := { _root_.Go.OpenSpec.ofChange s with cond := some uptoSmall }

/-- 'analemmalaw07.WeeksOf', WHERE WHAT IT READS IS OF BULK AT MOST 1048576: true; the input reads as it did. -/
def weeksOfUptoRow : OpenClaim := { program := "ytleedachcphbmaa", sum := "565440be849e985e0d5c55fbe47a684d63216fab2fd784aa1515bea63d8fb14d", func := "analemma/analemmalaw07.WeeksOf", spec := "weeksOf", apart := false, narrowed := true }
def WeeksOfUptoSaid : Prop := weeksOfUptoRow.holds Try.pinned (OpenSpec.upto weeksOfSpec)

/-- 'analemmalaw07.WeeksDates', WHERE WHAT IT READS IS OF BULK AT MOST 1048576: true; the input reads as it did. -/
def weeksDatesUptoRow : OpenClaim := { program := "ytleedachcphbmaa", sum := "565440be849e985e0d5c55fbe47a684d63216fab2fd784aa1515bea63d8fb14d", func := "analemma/analemmalaw07.WeeksDates", spec := "weeksDates", apart := false, narrowed := true }
def WeeksDatesUptoSaid : Prop := weeksDatesUptoRow.holds Try.pinned (OpenSpec.upto weeksDatesSpec)

/-- 'analemmalaw07.WeeksBack', WHERE WHAT IT READS IS OF BULK AT MOST 1048576: true; the input reads as it did. -/
def weeksBackUptoRow : OpenClaim := { program := "ytleedachcphbmaa", sum := "565440be849e985e0d5c55fbe47a684d63216fab2fd784aa1515bea63d8fb14d", func := "analemma/analemmalaw07.WeeksBack", spec := "weeksBack", apart := false, narrowed := true }
def WeeksBackUptoSaid : Prop := weeksBackUptoRow.holds Try.pinned (OpenSpec.upto weeksBackSpec)

/-- 'analemmalaw07.WeeksThursdays', WHERE WHAT IT READS IS OF BULK AT MOST 1048576: true; the input reads as it did. -/
def weeksThursdaysUptoRow : OpenClaim := { program := "ytleedachcphbmaa", sum := "565440be849e985e0d5c55fbe47a684d63216fab2fd784aa1515bea63d8fb14d", func := "analemma/analemmalaw07.WeeksThursdays", spec := "weeksThursdays", apart := false, narrowed := true }
def WeeksThursdaysUptoSaid : Prop := weeksThursdaysUptoRow.holds Try.pinned (OpenSpec.upto weeksThursdaysSpec)

/-- 'analemmalaw07.WeeksSum', WHERE WHAT IT READS IS OF BULK AT MOST 1048576: true; the input reads as it did. -/
def weeksSumUptoRow : OpenClaim := { program := "ytleedachcphbmaa", sum := "565440be849e985e0d5c55fbe47a684d63216fab2fd784aa1515bea63d8fb14d", func := "analemma/analemmalaw07.WeeksSum", spec := "weeksSum", apart := false, narrowed := true }
def WeeksSumUptoSaid : Prop := weeksSumUptoRow.holds Try.pinned (OpenSpec.upto weeksSumSpec)

end Rows
end Go.Proofs.Ytleedachcphbmaa
