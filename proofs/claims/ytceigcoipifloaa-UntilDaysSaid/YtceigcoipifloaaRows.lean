/-
  No cell of these rows narrows 'for every input' (looked for: loops, veiled, ifaces, maps, wideKeys, modest, calm, conditions, laid).
  DERIVED. THE GIVEN ROWS OF THIS SEAT. 4 by the template 'for every input the law returns true; each argument reads behind the call as it read before'; 0 by the template 'total and deterministic' (their statements: YtceigcoipifloaaTotals.lean).
  GIVEN WITH THE SEED: the statements are not yours to turn. If you find one false, say at which input.
  Laid BY PROGRAM, IN A SANDBOX (cutbox-rows.mjs): the forced cells as the released guide's own fill.sh prints them over the translation 7a1e593d721b1dbb… (all of the seat's roots in one cut). By AI agents, Wed Nov 11 2026. No macro, syntax, notation, axiom, sorry.
-/
import Derived.Test.YtceigcoipifloaaChecked
import GoSem.Claim
import GoSem.ClaimJoined
import GoSem.ClaimMapViews
import Derived.JoinedTies
import Derived.KernelRfl
namespace Go.Proofs.Ytceigcoipifloaa
/- THE CELL 'sum', in the pinned program and in every row, IS THE sha256 OF THE DUMP (.gsa) THAT YtceigcoipifloaaProg.lean LOADS. Nothing in Lean hashes anything: it is a label: what it is worth is what the hold of that sum in a sandbox is worth. -/
noncomputable def Try.pinned : Pinned := { name := "ytceigcoipifloaa", sum := "7a1e593d721b1dbb9c28af7b070875c5dc7a424b2b12ecc1b3040c97fcecee24", checked := Try.checked }
namespace Rows
def none {H : Type} : Left H := { results := [], args := [] }

/-- 'analemmalaw12.UntilDates': WHATEVER THE INPUT: true; the input reads as it did. -/
def untilDatesSpec : ChangeSpec := { name := "untilDates", fn := fun _ => fun
  | [d1, d2] => { results := [.lit (.bool true)], args := [d1, d2] }
  | _ => none }
def untilDatesRow : OpenClaim := { program := "ytceigcoipifloaa", sum := "7a1e593d721b1dbb9c28af7b070875c5dc7a424b2b12ecc1b3040c97fcecee24", func := "analemma/analemmalaw12.UntilDates", spec := "untilDates", unfollowed := true, recurses := true, apart := false }
def UntilDatesSaid : Prop := untilDatesRow.holds Try.pinned (OpenSpec.ofChange untilDatesSpec)

/-- ITS FALSE NEIGHBOUR: 'it returns false'. Refute it at one input. -/
def untilDatesWrong : ChangeSpec := { name := "untilDates", fn := fun _ => fun
  | [d1, d2] => { results := [.lit (.bool false)], args := [d1, d2] }
  | _ => none }
def UntilDatesWrongFalsely : Prop := untilDatesRow.holds Try.pinned (OpenSpec.ofChange untilDatesWrong)

/-- 'analemmalaw12.UntilAdds': WHATEVER THE INPUT: true; the input reads as it did. -/
def untilAddsSpec : ChangeSpec := { name := "untilAdds", fn := fun _ => fun
  | [d1, d2] => { results := [.lit (.bool true)], args := [d1, d2] }
  | _ => none }
def untilAddsRow : OpenClaim := { program := "ytceigcoipifloaa", sum := "7a1e593d721b1dbb9c28af7b070875c5dc7a424b2b12ecc1b3040c97fcecee24", func := "analemma/analemmalaw12.UntilAdds", spec := "untilAdds", unfollowed := true, recurses := true, apart := false }
def UntilAddsSaid : Prop := untilAddsRow.holds Try.pinned (OpenSpec.ofChange untilAddsSpec)

/-- ITS FALSE NEIGHBOUR: 'it returns false'. Refute it at one input. -/
def untilAddsWrong : ChangeSpec := { name := "untilAdds", fn := fun _ => fun
  | [d1, d2] => { results := [.lit (.bool false)], args := [d1, d2] }
  | _ => none }
def UntilAddsWrongFalsely : Prop := untilAddsRow.holds Try.pinned (OpenSpec.ofChange untilAddsWrong)

/-- 'analemmalaw12.UntilGreedy': WHATEVER THE INPUT: true; the input reads as it did. -/
def untilGreedySpec : ChangeSpec := { name := "untilGreedy", fn := fun _ => fun
  | [d1, d2] => { results := [.lit (.bool true)], args := [d1, d2] }
  | _ => none }
def untilGreedyRow : OpenClaim := { program := "ytceigcoipifloaa", sum := "7a1e593d721b1dbb9c28af7b070875c5dc7a424b2b12ecc1b3040c97fcecee24", func := "analemma/analemmalaw12.UntilGreedy", spec := "untilGreedy", unfollowed := true, recurses := true, apart := false }
def UntilGreedySaid : Prop := untilGreedyRow.holds Try.pinned (OpenSpec.ofChange untilGreedySpec)

/-- ITS FALSE NEIGHBOUR: 'it returns false'. Refute it at one input. -/
def untilGreedyWrong : ChangeSpec := { name := "untilGreedy", fn := fun _ => fun
  | [d1, d2] => { results := [.lit (.bool false)], args := [d1, d2] }
  | _ => none }
def UntilGreedyWrongFalsely : Prop := untilGreedyRow.holds Try.pinned (OpenSpec.ofChange untilGreedyWrong)

/-- 'analemmalaw12.UntilDays': WHATEVER THE INPUT: true; the input reads as it did. -/
def untilDaysSpec : ChangeSpec := { name := "untilDays", fn := fun _ => fun
  | [d1, d2] => { results := [.lit (.bool true)], args := [d1, d2] }
  | _ => none }
def untilDaysRow : OpenClaim := { program := "ytceigcoipifloaa", sum := "7a1e593d721b1dbb9c28af7b070875c5dc7a424b2b12ecc1b3040c97fcecee24", func := "analemma/analemmalaw12.UntilDays", spec := "untilDays", unfollowed := true, recurses := true, apart := false }
def UntilDaysSaid : Prop := untilDaysRow.holds Try.pinned (OpenSpec.ofChange untilDaysSpec)

/-- ITS FALSE NEIGHBOUR: 'it returns false'. Refute it at one input. -/
def untilDaysWrong : ChangeSpec := { name := "untilDays", fn := fun _ => fun
  | [d1, d2] => { results := [.lit (.bool false)], args := [d1, d2] }
  | _ => none }
def UntilDaysWrongFalsely : Prop := untilDaysRow.holds Try.pinned (OpenSpec.ofChange untilDaysWrong)

/- THE SECOND FORM. 'bulk': how many values and letters a reading holds, each counted each time it is reached (what is shared counts as often as it is met; a slice's spare places count too). A statement '..UptoSaid' is the law's where the arguments, and the package variables that the reading takes, are together of bulk at most 1048576: NARROWER than '..Said'. Prove '..Said' where nothing that the law and all that it calls make is longer than what came in: it says more and counts as full. Else prove '..UptoSaid'. A law counts once. -/
mutual
def uptoBulk {H : Type} : DataW H → Nat
  | .lit (.string bytes) => bytes.length + 1
  | .lit _ => 1
  | .nil => 1
  | .ptr d => uptoBulk d + 1
  | .slice elems spare => uptoBulkAll elems + uptoBulkAll spare + 1
  | .agg parts => uptoBulkAll parts + 1
  | .iface _ d => uptoBulk d + 1
  | .map entries => uptoBulkEntries entries + 1
  | .held _ => 1
def uptoBulkAll {H : Type} : List (DataW H) → Nat
  | [] => 0
  | d :: r => uptoBulk d + uptoBulkAll r
def uptoBulkEntries {H : Type} : List (Lit × DataW H) → Nat
  | [] => 0
  | x :: r => uptoBulkEntry x + uptoBulkEntries r
def uptoBulkEntry {H : Type} : Lit × DataW H → Nat
  | (.string bytes, d) => bytes.length + uptoBulk d + 1
  | (_, d) => uptoBulk d + 1
 end
def uptoSmall : (H : Type) → List (DataW H) → Bool := fun _ ds => decide (uptoBulkAll ds ≤ 1048576)
def OpenSpec.upto (s : _root_.Go.ChangeSpec) : _root_.Go.OpenSpec := { _root_.Go.OpenSpec.ofChange s with cond := some uptoSmall }

/-- 'analemmalaw12.UntilDates', WHERE WHAT IT READS IS OF BULK AT MOST 1048576: true; the input reads as it did. -/
def untilDatesUptoRow : OpenClaim := { program := "ytceigcoipifloaa", sum := "7a1e593d721b1dbb9c28af7b070875c5dc7a424b2b12ecc1b3040c97fcecee24", func := "analemma/analemmalaw12.UntilDates", spec := "untilDates", unfollowed := true, recurses := true, apart := false, narrowed := true }
def UntilDatesUptoSaid : Prop := untilDatesUptoRow.holds Try.pinned (OpenSpec.upto untilDatesSpec)

/-- 'analemmalaw12.UntilAdds', WHERE WHAT IT READS IS OF BULK AT MOST 1048576: true; the input reads as it did. -/
def untilAddsUptoRow : OpenClaim := { program := "ytceigcoipifloaa", sum := "7a1e593d721b1dbb9c28af7b070875c5dc7a424b2b12ecc1b3040c97fcecee24", func := "analemma/analemmalaw12.UntilAdds", spec := "untilAdds", unfollowed := true, recurses := true, apart := false, narrowed := true }
def UntilAddsUptoSaid : Prop := untilAddsUptoRow.holds Try.pinned (OpenSpec.upto untilAddsSpec)

/-- 'analemmalaw12.UntilGreedy', WHERE WHAT IT READS IS OF BULK AT MOST 1048576: true; the input reads as it did. -/
def untilGreedyUptoRow : OpenClaim := { program := "ytceigcoipifloaa", sum := "7a1e593d721b1dbb9c28af7b070875c5dc7a424b2b12ecc1b3040c97fcecee24", func := "analemma/analemmalaw12.UntilGreedy", spec := "untilGreedy", unfollowed := true, recurses := true, apart := false, narrowed := true }
def UntilGreedyUptoSaid : Prop := untilGreedyUptoRow.holds Try.pinned (OpenSpec.upto untilGreedySpec)

/-- 'analemmalaw12.UntilDays', WHERE WHAT IT READS IS OF BULK AT MOST 1048576: true; the input reads as it did. -/
def untilDaysUptoRow : OpenClaim := { program := "ytceigcoipifloaa", sum := "7a1e593d721b1dbb9c28af7b070875c5dc7a424b2b12ecc1b3040c97fcecee24", func := "analemma/analemmalaw12.UntilDays", spec := "untilDays", unfollowed := true, recurses := true, apart := false, narrowed := true }
def UntilDaysUptoSaid : Prop := untilDaysUptoRow.holds Try.pinned (OpenSpec.upto untilDaysSpec)

end Rows
end Go.Proofs.Ytceigcoipifloaa
