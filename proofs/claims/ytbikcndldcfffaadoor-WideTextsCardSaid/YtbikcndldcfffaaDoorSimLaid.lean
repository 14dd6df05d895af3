/- A world for the witness of a row that lists variables: the settled one, the listed variables' cells laid. Condition: none: definitions alone. -/
import Derived.Test.YtbikcndldcfffaaDoorSimCfg
import Derived.WideWitness
namespace Go.Proofs.YtbikcndldcfffaaDoor.Sim
open Go

mutual
def datC : DataW Unit → List Value
  | .lit (.int k n) => [.int k n]
  | .lit (.bool b) => [.bool b]
  | .lit (.string l) => [.string ⟨l.toArray⟩]
  | .agg l => datL l
  | _ => []
def datL : List (DataW Unit) → List Value
  | [] => []
  | d :: l => datC d ++ datL l
end

def layVar (P : Program) (H : Array Obj) (x : String × DataW Unit) : Array Obj :=
  match P.globalNamed x.1 with
  | some g => H.modify g fun
    | .cells _ t fr => .cells (datC x.2).toArray t fr
    | o => o
  | none => H

noncomputable def laidWorld (P : Program) (l : List (String × DataW Unit)) (os : Os) : World :=
  { World.holding P os ⟨#[], #[], []⟩ with heap := l.foldl (layVar P) (World.holding P os ⟨#[], #[], []⟩).heap }

end Go.Proofs.YtbikcndldcfffaaDoor.Sim
