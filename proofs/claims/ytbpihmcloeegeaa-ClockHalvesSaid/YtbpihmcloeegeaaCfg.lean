/- The program as the abstract run takes it. Condition: none beyond what each theorem says. -/

import Derived.Test.YtbpihmcloeegeaaSimCfg
import Derived.Test.YtbpihmcloeegeaaProg
open Go Go.Proofs.Ytbpihmcloeegeaa.Sim Go.Proofs
namespace Go.Proofs.Ytbpihmcloeegeaa.Sim.S
abbrev F_law08_ClockNanos : FuncId := 3
abbrev F_law08_ClockAdds : FuncId := 4
abbrev F_law08_ClockBack : FuncId := 5
abbrev F_law08_ClockDays : FuncId := 6
abbrev F_law08_ClockHalves : FuncId := 7
abbrev F_clock_Nanos : FuncId := 8
abbrev F_ref08_Nanos : FuncId := 9
abbrev F_clock_Of : FuncId := 10
abbrev F_ref08_Of : FuncId := 11
abbrev F_clock_Half : FuncId := 12
abbrev F_ref08_Half : FuncId := 13
abbrev F_clock_Check : FuncId := 14
abbrev F_ref08_Check : FuncId := 15
abbrev F_law08_awake : FuncId := 16
abbrev F_clock_Add : FuncId := 17
abbrev F_ref08_Add : FuncId := 18
abbrev F_ref08_Secs : FuncId := 19
abbrev F_ref08_OfSecs : FuncId := 20
abbrev F_clock_cut : FuncId := 21
abbrev F_dur_Check : FuncId := 22
abbrev F_ref03_First : FuncId := 23
abbrev F_ref03_CheckDur : FuncId := 24
def shapes : List (Nat × Shape) := [(8, (.tup [(.int .i64), (.int .i64)])), (9, (.tup [(.int .i64), (.int .i64)])), (10, (.tup [(.agg [(.int .i64), (.int .i64), (.int .i64), (.int .i64)]), (.int .i64)])), (11, (.tup [(.agg [(.int .i64), (.int .i64), (.int .i64), (.int .i64)]), (.int .i64)])), (12, (.tup [(.int .i64), .bool, (.int .i64)])), (13, (.tup [(.int .i64), .bool, (.int .i64)])), (14, (.int .i64)), (15, (.int .i64)), (16, .bool), (17, (.tup [(.agg [(.int .i64), (.int .i64), (.int .i64), (.int .i64)]), (.int .i64), (.int .i64)])), (18, (.tup [(.agg [(.int .i64), (.int .i64), (.int .i64), (.int .i64)]), (.int .i64), (.int .i64)])), (19, (.int .i64)), (20, (.agg [(.int .i64), (.int .i64), (.int .i64), (.int .i64)])), (21, (.agg [(.int .i64), (.int .i64), (.int .i64), (.int .i64)])), (22, (.int .i64)), (24, (.int .i64))]
def cutsL : List (Nat × List (Nat × Nat × Nat × Option Nat)) := [(17, [(1016, 1168, 3, none), (2040, 1168, 3, none)]), (18, [(63, 784, 1019, none), (511, 1808, 1019, none)])]
noncomputable def C : Cfg := { P := Try.prog, isP := fun f => memN f [3, 4, 5, 6, 7, 8, 9, 10, 11, 12, 13, 14, 15, 16, 17, 18, 19, 20, 21, 22, 24], isF := fun f => memN f [3, 4, 5, 6, 7, 8, 9, 10, 11, 12, 13, 14, 15, 16, 17, 18, 19, 20, 21, 22, 23, 24], ext := fun _ _ => none, shape := lookN .any shapes, cuts := lookN [] cutsL }
theorem okC : CfgOk C where
  ext := fun _ _ _ h => by cases h
  isF := cfg_isF (by kernel_rfl)
  mix := by kernel_rfl
end Go.Proofs.Ytbpihmcloeegeaa.Sim.S
