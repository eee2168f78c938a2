/- A part of the proof about cellularlaw49.OrphanBalanced: lemmas only; what they say is theirs alone and no condition of the claim. -/
import Derived.Test.YtjdldndhbbkflaaGreatDoorAmSeat
import Derived.Test.YtjdldndhbbkflaaGreatDoorAmFx0
import Derived.Test.YtjdldndhbbkflaaGreatDoorAmFx1
import Derived.Test.YtjdldndhbbkflaaGreatDoorAmFx2
set_option autoImplicit false
set_option linter.unusedVariables false
set_option linter.unusedSimpArgs false
noncomputable section
namespace Go.Am.Seat
open Go Go.Am
noncomputable def x54 : Fact := (9, [.agg [.int .i64 2, .vec false 1 (some 1) [.int .i64 0, .int .i64 0], .vec false 1 none [.int .i64 1, .vec false 2 none [.int .i64 0, .int .i64 1]]], .int .i64 2, .int .i64 2], .tuple [.agg [.int .i64 0, .int .i64 0, .int .i64 0, .vec true 0 (some 0) []], .bool false, .int .i64 0])
theorem fx54 : FactOk E.C x54 := fact_of (l := [x53, x50, x47, x44, x41, x38, x35, x32, x29, x26, x23, x20, x17, x14, x11, x8]) (k := 100000) E_ok plain (facts_cons fx53 <| facts_cons fx50 <| facts_cons fx47 <| facts_cons fx44 <| facts_cons fx41 <| facts_cons fx38 <| facts_cons fx35 <| facts_cons fx32 <| facts_cons fx29 <| facts_cons fx26 <| facts_cons fx23 <| facts_cons fx20 <| facts_cons fx17 <| facts_cons fx14 <| facts_cons fx11 <| facts_cons fx8 <| facts_nil) (by kernel_rfl)
noncomputable def x55 : Fact := (24, [.agg [.int .i64 2, .vec false 1 (some 1) [.int .i64 0, .int .i64 0], .vec false 1 none [.int .i64 1, .vec false 2 none [.int .i64 1, .int .i64 1]]], .agg [.int .i64 1, .int .i64 1, .int .i64 0, .vec false 1 (some 1) [.int .i64 0]], .vec false 1 none [.vec false 0 (some 0) []]], .int .i64 0)
theorem fx55 : FactOk E.C x55 := fact_of (l := [x0]) (k := 100000) E_ok plain (facts_cons fx0 <| facts_nil) (by kernel_rfl)
noncomputable def x56 : Fact := (24, [.agg [.int .i64 2, .vec false 1 (some 1) [.int .i64 0, .int .i64 0], .vec false 1 none [.int .i64 1, .vec false 2 none [.int .i64 1, .int .i64 1]]], .agg [.int .i64 1, .int .i64 1, .int .i64 0, .vec false 1 (some 1) [.int .i64 0]], .vec true 0 (some 0) []], .int .i64 16)
theorem fx56 : FactOk E.C x56 := fact_of (l := [x0]) (k := 100000) E_ok plain (facts_cons fx0 <| facts_nil) (by kernel_rfl)
noncomputable def x57 : Fact := (6, [], .bool true)
theorem fx57 : FactOk E.C x57 := fact_of (l := [x56, x55, x54, x5, x3, x1]) (k := 100000) E_ok plain (facts_cons fx56 <| facts_cons fx55 <| facts_cons fx54 <| facts_cons fx5 <| facts_cons fx3 <| facts_cons fx1 <| facts_nil) (by kernel_rfl)
end Go.Am.Seat
