/- Numbers of 128 bits, the program's way: by words. Condition: none beyond what each theorem says. -/
import Derived.Test.YtceigcoipifloaaSpecWide
import Derived.Test.YtceigcoipifloaaSimWord
set_option linter.unusedSimpArgs false
set_option linter.unusedVariables false
namespace Go.Proofs.Ytceigcoipifloaa.Sim.S
open Go

end Go.Proofs.Ytceigcoipifloaa.Sim.S
