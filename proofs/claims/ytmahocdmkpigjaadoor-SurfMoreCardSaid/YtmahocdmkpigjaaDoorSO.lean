/- Proved here: laws that the statements need (SuC311, SuZ3). No conditions but those that each law states. -/
import Derived.Test.YtmahocdmkpigjaaDoorFL
import Derived.Test.YtmahocdmkpigjaaDoorProg
import Derived.Test.YtmahocdmkpigjaaDoorSN
import Derived.Test.YtmahocdmkpigjaaDoorSL
import Derived.Test.YtmahocdmkpigjaaDoorSK

set_option linter.unusedSimpArgs false
set_option linter.unusedVariables false

/- Compiled code of functions, printed by program; each is checked to be the program's. No conditions. -/
namespace Go.Proofs.YtmahocdmkpigjaaDoor
open Go Go.Ab
/-- dipworks/dipworkslaw04.SurfMore -/
def c11 : AC :=
 .seq (.reg [⟨(some 5), none, .box (.tmp 0)⟩,
 ⟨(some 10), none, .mov (.lit (.bool false))⟩])
 (.seq (.seq (.reg [⟨(some 32), none, .load true 5 (.tmp 5)⟩,
 ⟨(some 33), none, .call (.fn 33) [(.tmp 32)]⟩,
 ⟨(some 34), none, .un .not (.tmp 33)⟩,
 ⟨(some 35), none, .mov (.tmp 34)⟩,
 ⟨(some 36), (some (35, false)), .faddr 4 (.tmp 5)⟩,
 ⟨(some 37), (some (35, false)), .load false 1 (.tmp 36)⟩,
 ⟨(some 38), (some (35, false)), .len (.tmp 37)⟩,
 ⟨(some 39), (some (35, false)), .bin .eql (.tmp 38) (.lit (.int .i64 0))⟩,
 ⟨(some 40), none, .pick (.tmp 35) (.lit (.bool true)) (.tmp 39)⟩,
 ⟨(some 41), none, .mov (.tmp 40)⟩,
 ⟨(some 42), (some (41, false)), .faddr 2 (.tmp 5)⟩,
 ⟨(some 43), (some (41, false)), .load false 1 (.tmp 42)⟩,
 ⟨(some 44), (some (41, false)), .len (.tmp 43)⟩,
 ⟨(some 45), (some (41, false)), .bin .eql (.tmp 44) (.lit (.int .i64 0))⟩,
 ⟨(some 46), none, .pick (.tmp 41) (.lit (.bool true)) (.tmp 45)⟩])
 (.cond (.tmp 46) (.seq (.reg [⟨(some 47), none, .call (.fn 14) []⟩,
 ⟨(some 10), none, .mov (.tmp 47)⟩])
 (.ret))
 (.skip)))
 (.seq (.draw (.step ⟨(some 48), none, .mov (.tmp 2)⟩ (
 .step ⟨(some 49), none, .conv .i64 (.tmp 48)⟩ (
 .step ⟨(some 50), none, .faddr 4 (.tmp 5)⟩ (
 .step ⟨(some 51), none, .load false 1 (.tmp 50)⟩ (
 .step ⟨(some 52), none, .len (.tmp 51)⟩ (
 .step ⟨(some 53), none, .bin .rem (.tmp 49) (.tmp 52)⟩ (
 .step ⟨(some 54), none, .mov (.tmp 3)⟩ (
 .step ⟨(some 55), none, .conv .i64 (.tmp 54)⟩ (
 .step ⟨(some 56), none, .faddr 2 (.tmp 5)⟩ (
 .step ⟨(some 57), none, .load false 1 (.tmp 56)⟩ (
 .step ⟨(some 58), none, .len (.tmp 57)⟩ (
 .step ⟨(some 59), none, .bin .rem (.tmp 55) (.tmp 58)⟩ (
 .step ⟨(some 11), none, .mov (.tmp 53)⟩ (
 .step ⟨(some 12), none, .mov (.tmp 59)⟩ (
 .done))))))))))))))))
 (.seq (.reg [⟨(some 60), none, .load true 5 (.tmp 5)⟩,
 ⟨(some 13), none, .alloc [(.int .i64 0), (.int .i64 0), (.slice none 0 0), (.slice none 0 0), (.slice none 0 0)]⟩,
 ⟨none, none, .store 5 (.tmp 13) (.tmp 60)⟩])
 (.seq (.draw (.step ⟨(some 62), none, .faddr 2 (.tmp 5)⟩ (
 .step ⟨(some 63), none, .load false 1 (.tmp 62)⟩ (
 .step ⟨(some 66), none, .faddr 3 (.tmp 5)⟩ (
 .step ⟨(some 67), none, .load false 1 (.tmp 66)⟩ (
 .step ⟨(some 70), none, .faddr 4 (.tmp 5)⟩ (
 .step ⟨(some 71), none, .load false 1 (.tmp 70)⟩ (
 .ev ⟨(some 61), none, .bslice 2 (.agg #[(.int .i64 0), (.int .i64 0)]) 0 []⟩ [⟨(some 71), none, .load false 1 (.tmp 70)⟩, ⟨(some 70), none, .faddr 4 (.tmp 5)⟩, ⟨(some 67), none, .load false 1 (.tmp 66)⟩, ⟨(some 66), none, .faddr 3 (.tmp 5)⟩, ⟨(some 63), none, .load false 1 (.tmp 62)⟩, ⟨(some 62), none, .faddr 2 (.tmp 5)⟩] (
 .ev ⟨(some 64), none, .app 2 16 (.tmp 61) (.tmp 63)⟩ [⟨(some 71), none, .load false 1 (.tmp 70)⟩, ⟨(some 70), none, .faddr 4 (.tmp 5)⟩, ⟨(some 67), none, .load false 1 (.tmp 66)⟩, ⟨(some 66), none, .faddr 3 (.tmp 5)⟩, ⟨(some 62), none, .faddr 2 (.tmp 5)⟩] (
 .step ⟨(some 73), none, .faddr 2 (.tmp 13)⟩ (
 .ev ⟨(some 65), none, .bslice 2 (.agg #[(.int .i64 0), (.int .i64 0)]) 0 []⟩ [⟨(some 73), none, .faddr 2 (.tmp 13)⟩, ⟨(some 71), none, .load false 1 (.tmp 70)⟩, ⟨(some 70), none, .faddr 4 (.tmp 5)⟩, ⟨(some 67), none, .load false 1 (.tmp 66)⟩, ⟨(some 66), none, .faddr 3 (.tmp 5)⟩, ⟨(some 63), none, .load false 1 (.tmp 62)⟩, ⟨(some 62), none, .faddr 2 (.tmp 5)⟩] (
 .ev ⟨(some 68), none, .app 2 16 (.tmp 65) (.tmp 67)⟩ [⟨(some 73), none, .faddr 2 (.tmp 13)⟩, ⟨(some 71), none, .load false 1 (.tmp 70)⟩, ⟨(some 70), none, .faddr 4 (.tmp 5)⟩, ⟨(some 66), none, .faddr 3 (.tmp 5)⟩, ⟨(some 63), none, .load false 1 (.tmp 62)⟩, ⟨(some 62), none, .faddr 2 (.tmp 5)⟩] (
 .ev ⟨(some 69), none, .bslice 3 (.agg #[(.int .i64 0), (.int .i64 0), (.int .i64 0)]) 0 []⟩ [⟨(some 73), none, .faddr 2 (.tmp 13)⟩, ⟨(some 71), none, .load false 1 (.tmp 70)⟩, ⟨(some 70), none, .faddr 4 (.tmp 5)⟩, ⟨(some 67), none, .load false 1 (.tmp 66)⟩, ⟨(some 66), none, .faddr 3 (.tmp 5)⟩, ⟨(some 63), none, .load false 1 (.tmp 62)⟩, ⟨(some 62), none, .faddr 2 (.tmp 5)⟩] (
 .ev ⟨(some 72), none, .app 3 24 (.tmp 69) (.tmp 71)⟩ [⟨(some 73), none, .faddr 2 (.tmp 13)⟩, ⟨(some 70), none, .faddr 4 (.tmp 5)⟩, ⟨(some 67), none, .load false 1 (.tmp 66)⟩, ⟨(some 66), none, .faddr 3 (.tmp 5)⟩, ⟨(some 63), none, .load false 1 (.tmp 62)⟩, ⟨(some 62), none, .faddr 2 (.tmp 5)⟩] (
 .ev ⟨none, none, .store 1 (.tmp 73) (.tmp 64)⟩ [⟨(some 71), none, .load false 1 (.tmp 70)⟩, ⟨(some 70), none, .faddr 4 (.tmp 5)⟩, ⟨(some 67), none, .load false 1 (.tmp 66)⟩, ⟨(some 66), none, .faddr 3 (.tmp 5)⟩] (
 .step ⟨(some 74), none, .faddr 3 (.tmp 13)⟩ (
 .ev ⟨none, none, .store 1 (.tmp 74) (.tmp 68)⟩ [⟨(some 71), none, .load false 1 (.tmp 70)⟩, ⟨(some 70), none, .faddr 4 (.tmp 5)⟩] (
 .step ⟨(some 75), none, .faddr 4 (.tmp 13)⟩ (
 .ev ⟨none, none, .store 1 (.tmp 75) (.tmp 72)⟩ [] (
 .done)
 (.stop)))
 (.stop)))
 (.stop))
 (.stop))
 (.stop))
 (.ev ⟨(some 69), none, .bslice 3 (.agg #[(.int .i64 0), (.int .i64 0), (.int .i64 0)]) 0 []⟩ [⟨(some 73), none, .faddr 2 (.tmp 13)⟩, ⟨(some 71), none, .load false 1 (.tmp 70)⟩, ⟨(some 70), none, .faddr 4 (.tmp 5)⟩, ⟨(some 67), none, .load false 1 (.tmp 66)⟩, ⟨(some 66), none, .faddr 3 (.tmp 5)⟩, ⟨(some 63), none, .load false 1 (.tmp 62)⟩, ⟨(some 62), none, .faddr 2 (.tmp 5)⟩] (
 .ev ⟨(some 68), none, .app 2 16 (.tmp 65) (.tmp 67)⟩ [⟨(some 73), none, .faddr 2 (.tmp 13)⟩, ⟨(some 71), none, .load false 1 (.tmp 70)⟩, ⟨(some 70), none, .faddr 4 (.tmp 5)⟩, ⟨(some 66), none, .faddr 3 (.tmp 5)⟩, ⟨(some 63), none, .load false 1 (.tmp 62)⟩, ⟨(some 62), none, .faddr 2 (.tmp 5)⟩] (
 .ev ⟨(some 72), none, .app 3 24 (.tmp 69) (.tmp 71)⟩ [⟨(some 73), none, .faddr 2 (.tmp 13)⟩, ⟨(some 70), none, .faddr 4 (.tmp 5)⟩, ⟨(some 67), none, .load false 1 (.tmp 66)⟩, ⟨(some 66), none, .faddr 3 (.tmp 5)⟩, ⟨(some 63), none, .load false 1 (.tmp 62)⟩, ⟨(some 62), none, .faddr 2 (.tmp 5)⟩] (
 .ev ⟨none, none, .store 1 (.tmp 73) (.tmp 64)⟩ [⟨(some 71), none, .load false 1 (.tmp 70)⟩, ⟨(some 70), none, .faddr 4 (.tmp 5)⟩, ⟨(some 67), none, .load false 1 (.tmp 66)⟩, ⟨(some 66), none, .faddr 3 (.tmp 5)⟩] (
 .step ⟨(some 74), none, .faddr 3 (.tmp 13)⟩ (
 .ev ⟨none, none, .store 1 (.tmp 74) (.tmp 68)⟩ [⟨(some 71), none, .load false 1 (.tmp 70)⟩, ⟨(some 70), none, .faddr 4 (.tmp 5)⟩] (
 .step ⟨(some 75), none, .faddr 4 (.tmp 13)⟩ (
 .ev ⟨none, none, .store 1 (.tmp 75) (.tmp 72)⟩ [] (
 .done)
 (.stop)))
 (.stop)))
 (.stop))
 (.stop))
 (.stop))
 (.stop)))
 (.ev ⟨(some 69), none, .bslice 3 (.agg #[(.int .i64 0), (.int .i64 0), (.int .i64 0)]) 0 []⟩ [⟨(some 73), none, .faddr 2 (.tmp 13)⟩, ⟨(some 71), none, .load false 1 (.tmp 70)⟩, ⟨(some 70), none, .faddr 4 (.tmp 5)⟩, ⟨(some 67), none, .load false 1 (.tmp 66)⟩, ⟨(some 66), none, .faddr 3 (.tmp 5)⟩, ⟨(some 63), none, .load false 1 (.tmp 62)⟩, ⟨(some 62), none, .faddr 2 (.tmp 5)⟩] (
 .ev ⟨(some 65), none, .bslice 2 (.agg #[(.int .i64 0), (.int .i64 0)]) 0 []⟩ [⟨(some 73), none, .faddr 2 (.tmp 13)⟩, ⟨(some 71), none, .load false 1 (.tmp 70)⟩, ⟨(some 70), none, .faddr 4 (.tmp 5)⟩, ⟨(some 67), none, .load false 1 (.tmp 66)⟩, ⟨(some 66), none, .faddr 3 (.tmp 5)⟩, ⟨(some 63), none, .load false 1 (.tmp 62)⟩, ⟨(some 62), none, .faddr 2 (.tmp 5)⟩] (
 .ev ⟨(some 68), none, .app 2 16 (.tmp 65) (.tmp 67)⟩ [⟨(some 73), none, .faddr 2 (.tmp 13)⟩, ⟨(some 71), none, .load false 1 (.tmp 70)⟩, ⟨(some 70), none, .faddr 4 (.tmp 5)⟩, ⟨(some 66), none, .faddr 3 (.tmp 5)⟩, ⟨(some 63), none, .load false 1 (.tmp 62)⟩, ⟨(some 62), none, .faddr 2 (.tmp 5)⟩] (
 .ev ⟨(some 72), none, .app 3 24 (.tmp 69) (.tmp 71)⟩ [⟨(some 73), none, .faddr 2 (.tmp 13)⟩, ⟨(some 70), none, .faddr 4 (.tmp 5)⟩, ⟨(some 67), none, .load false 1 (.tmp 66)⟩, ⟨(some 66), none, .faddr 3 (.tmp 5)⟩, ⟨(some 63), none, .load false 1 (.tmp 62)⟩, ⟨(some 62), none, .faddr 2 (.tmp 5)⟩] (
 .ev ⟨none, none, .store 1 (.tmp 73) (.tmp 64)⟩ [⟨(some 71), none, .load false 1 (.tmp 70)⟩, ⟨(some 70), none, .faddr 4 (.tmp 5)⟩, ⟨(some 67), none, .load false 1 (.tmp 66)⟩, ⟨(some 66), none, .faddr 3 (.tmp 5)⟩] (
 .step ⟨(some 74), none, .faddr 3 (.tmp 13)⟩ (
 .ev ⟨none, none, .store 1 (.tmp 74) (.tmp 68)⟩ [⟨(some 71), none, .load false 1 (.tmp 70)⟩, ⟨(some 70), none, .faddr 4 (.tmp 5)⟩] (
 .step ⟨(some 75), none, .faddr 4 (.tmp 13)⟩ (
 .ev ⟨none, none, .store 1 (.tmp 75) (.tmp 72)⟩ [] (
 .done)
 (.stop)))
 (.stop)))
 (.stop))
 (.stop))
 (.stop))
 (.stop))
 (.stop))))
 (.ev ⟨(some 65), none, .bslice 2 (.agg #[(.int .i64 0), (.int .i64 0)]) 0 []⟩ [⟨(some 71), none, .load false 1 (.tmp 70)⟩, ⟨(some 70), none, .faddr 4 (.tmp 5)⟩, ⟨(some 67), none, .load false 1 (.tmp 66)⟩, ⟨(some 66), none, .faddr 3 (.tmp 5)⟩, ⟨(some 63), none, .load false 1 (.tmp 62)⟩, ⟨(some 62), none, .faddr 2 (.tmp 5)⟩] (
 .ev ⟨(some 64), none, .app 2 16 (.tmp 61) (.tmp 63)⟩ [⟨(some 71), none, .load false 1 (.tmp 70)⟩, ⟨(some 70), none, .faddr 4 (.tmp 5)⟩, ⟨(some 67), none, .load false 1 (.tmp 66)⟩, ⟨(some 66), none, .faddr 3 (.tmp 5)⟩, ⟨(some 62), none, .faddr 2 (.tmp 5)⟩] (
 .step ⟨(some 73), none, .faddr 2 (.tmp 13)⟩ (
 .ev ⟨(some 68), none, .app 2 16 (.tmp 65) (.tmp 67)⟩ [⟨(some 73), none, .faddr 2 (.tmp 13)⟩, ⟨(some 71), none, .load false 1 (.tmp 70)⟩, ⟨(some 70), none, .faddr 4 (.tmp 5)⟩, ⟨(some 66), none, .faddr 3 (.tmp 5)⟩, ⟨(some 63), none, .load false 1 (.tmp 62)⟩, ⟨(some 62), none, .faddr 2 (.tmp 5)⟩] (
 .ev ⟨(some 69), none, .bslice 3 (.agg #[(.int .i64 0), (.int .i64 0), (.int .i64 0)]) 0 []⟩ [⟨(some 73), none, .faddr 2 (.tmp 13)⟩, ⟨(some 71), none, .load false 1 (.tmp 70)⟩, ⟨(some 70), none, .faddr 4 (.tmp 5)⟩, ⟨(some 67), none, .load false 1 (.tmp 66)⟩, ⟨(some 66), none, .faddr 3 (.tmp 5)⟩, ⟨(some 63), none, .load false 1 (.tmp 62)⟩, ⟨(some 62), none, .faddr 2 (.tmp 5)⟩] (
 .ev ⟨(some 72), none, .app 3 24 (.tmp 69) (.tmp 71)⟩ [⟨(some 73), none, .faddr 2 (.tmp 13)⟩, ⟨(some 70), none, .faddr 4 (.tmp 5)⟩, ⟨(some 67), none, .load false 1 (.tmp 66)⟩, ⟨(some 66), none, .faddr 3 (.tmp 5)⟩, ⟨(some 63), none, .load false 1 (.tmp 62)⟩, ⟨(some 62), none, .faddr 2 (.tmp 5)⟩] (
 .ev ⟨none, none, .store 1 (.tmp 73) (.tmp 64)⟩ [⟨(some 71), none, .load false 1 (.tmp 70)⟩, ⟨(some 70), none, .faddr 4 (.tmp 5)⟩, ⟨(some 67), none, .load false 1 (.tmp 66)⟩, ⟨(some 66), none, .faddr 3 (.tmp 5)⟩] (
 .step ⟨(some 74), none, .faddr 3 (.tmp 13)⟩ (
 .ev ⟨none, none, .store 1 (.tmp 74) (.tmp 68)⟩ [⟨(some 71), none, .load false 1 (.tmp 70)⟩, ⟨(some 70), none, .faddr 4 (.tmp 5)⟩] (
 .step ⟨(some 75), none, .faddr 4 (.tmp 13)⟩ (
 .ev ⟨none, none, .store 1 (.tmp 75) (.tmp 72)⟩ [] (
 .done)
 (.stop)))
 (.stop)))
 (.stop))
 (.stop))
 (.stop))
 (.ev ⟨(some 69), none, .bslice 3 (.agg #[(.int .i64 0), (.int .i64 0), (.int .i64 0)]) 0 []⟩ [⟨(some 73), none, .faddr 2 (.tmp 13)⟩, ⟨(some 71), none, .load false 1 (.tmp 70)⟩, ⟨(some 70), none, .faddr 4 (.tmp 5)⟩, ⟨(some 67), none, .load false 1 (.tmp 66)⟩, ⟨(some 66), none, .faddr 3 (.tmp 5)⟩, ⟨(some 63), none, .load false 1 (.tmp 62)⟩, ⟨(some 62), none, .faddr 2 (.tmp 5)⟩] (
 .ev ⟨(some 68), none, .app 2 16 (.tmp 65) (.tmp 67)⟩ [⟨(some 73), none, .faddr 2 (.tmp 13)⟩, ⟨(some 71), none, .load false 1 (.tmp 70)⟩, ⟨(some 70), none, .faddr 4 (.tmp 5)⟩, ⟨(some 66), none, .faddr 3 (.tmp 5)⟩, ⟨(some 63), none, .load false 1 (.tmp 62)⟩, ⟨(some 62), none, .faddr 2 (.tmp 5)⟩] (
 .ev ⟨(some 72), none, .app 3 24 (.tmp 69) (.tmp 71)⟩ [⟨(some 73), none, .faddr 2 (.tmp 13)⟩, ⟨(some 70), none, .faddr 4 (.tmp 5)⟩, ⟨(some 67), none, .load false 1 (.tmp 66)⟩, ⟨(some 66), none, .faddr 3 (.tmp 5)⟩, ⟨(some 63), none, .load false 1 (.tmp 62)⟩, ⟨(some 62), none, .faddr 2 (.tmp 5)⟩] (
 .ev ⟨none, none, .store 1 (.tmp 73) (.tmp 64)⟩ [⟨(some 71), none, .load false 1 (.tmp 70)⟩, ⟨(some 70), none, .faddr 4 (.tmp 5)⟩, ⟨(some 67), none, .load false 1 (.tmp 66)⟩, ⟨(some 66), none, .faddr 3 (.tmp 5)⟩] (
 .step ⟨(some 74), none, .faddr 3 (.tmp 13)⟩ (
 .ev ⟨none, none, .store 1 (.tmp 74) (.tmp 68)⟩ [⟨(some 71), none, .load false 1 (.tmp 70)⟩, ⟨(some 70), none, .faddr 4 (.tmp 5)⟩] (
 .step ⟨(some 75), none, .faddr 4 (.tmp 13)⟩ (
 .ev ⟨none, none, .store 1 (.tmp 75) (.tmp 72)⟩ [] (
 .done)
 (.stop)))
 (.stop)))
 (.stop))
 (.stop))
 (.stop))
 (.stop))))
 (.ev ⟨(some 69), none, .bslice 3 (.agg #[(.int .i64 0), (.int .i64 0), (.int .i64 0)]) 0 []⟩ [⟨(some 71), none, .load false 1 (.tmp 70)⟩, ⟨(some 70), none, .faddr 4 (.tmp 5)⟩, ⟨(some 67), none, .load false 1 (.tmp 66)⟩, ⟨(some 66), none, .faddr 3 (.tmp 5)⟩, ⟨(some 63), none, .load false 1 (.tmp 62)⟩, ⟨(some 62), none, .faddr 2 (.tmp 5)⟩] (
 .ev ⟨(some 64), none, .app 2 16 (.tmp 61) (.tmp 63)⟩ [⟨(some 71), none, .load false 1 (.tmp 70)⟩, ⟨(some 70), none, .faddr 4 (.tmp 5)⟩, ⟨(some 67), none, .load false 1 (.tmp 66)⟩, ⟨(some 66), none, .faddr 3 (.tmp 5)⟩, ⟨(some 62), none, .faddr 2 (.tmp 5)⟩] (
 .step ⟨(some 73), none, .faddr 2 (.tmp 13)⟩ (
 .ev ⟨(some 68), none, .app 2 16 (.tmp 65) (.tmp 67)⟩ [⟨(some 73), none, .faddr 2 (.tmp 13)⟩, ⟨(some 71), none, .load false 1 (.tmp 70)⟩, ⟨(some 70), none, .faddr 4 (.tmp 5)⟩, ⟨(some 66), none, .faddr 3 (.tmp 5)⟩, ⟨(some 63), none, .load false 1 (.tmp 62)⟩, ⟨(some 62), none, .faddr 2 (.tmp 5)⟩] (
 .ev ⟨(some 72), none, .app 3 24 (.tmp 69) (.tmp 71)⟩ [⟨(some 73), none, .faddr 2 (.tmp 13)⟩, ⟨(some 70), none, .faddr 4 (.tmp 5)⟩, ⟨(some 67), none, .load false 1 (.tmp 66)⟩, ⟨(some 66), none, .faddr 3 (.tmp 5)⟩, ⟨(some 63), none, .load false 1 (.tmp 62)⟩, ⟨(some 62), none, .faddr 2 (.tmp 5)⟩] (
 .ev ⟨none, none, .store 1 (.tmp 73) (.tmp 64)⟩ [⟨(some 71), none, .load false 1 (.tmp 70)⟩, ⟨(some 70), none, .faddr 4 (.tmp 5)⟩, ⟨(some 67), none, .load false 1 (.tmp 66)⟩, ⟨(some 66), none, .faddr 3 (.tmp 5)⟩] (
 .step ⟨(some 74), none, .faddr 3 (.tmp 13)⟩ (
 .ev ⟨none, none, .store 1 (.tmp 74) (.tmp 68)⟩ [⟨(some 71), none, .load false 1 (.tmp 70)⟩, ⟨(some 70), none, .faddr 4 (.tmp 5)⟩] (
 .step ⟨(some 75), none, .faddr 4 (.tmp 13)⟩ (
 .ev ⟨none, none, .store 1 (.tmp 75) (.tmp 72)⟩ [] (
 .done)
 (.stop)))
 (.stop)))
 (.stop))
 (.stop))
 (.stop)))
 (.stop))
 (.stop)))
 (.ev ⟨(some 69), none, .bslice 3 (.agg #[(.int .i64 0), (.int .i64 0), (.int .i64 0)]) 0 []⟩ [⟨(some 71), none, .load false 1 (.tmp 70)⟩, ⟨(some 70), none, .faddr 4 (.tmp 5)⟩, ⟨(some 67), none, .load false 1 (.tmp 66)⟩, ⟨(some 66), none, .faddr 3 (.tmp 5)⟩, ⟨(some 63), none, .load false 1 (.tmp 62)⟩, ⟨(some 62), none, .faddr 2 (.tmp 5)⟩] (
 .ev ⟨(some 64), none, .app 2 16 (.tmp 61) (.tmp 63)⟩ [⟨(some 71), none, .load false 1 (.tmp 70)⟩, ⟨(some 70), none, .faddr 4 (.tmp 5)⟩, ⟨(some 67), none, .load false 1 (.tmp 66)⟩, ⟨(some 66), none, .faddr 3 (.tmp 5)⟩, ⟨(some 62), none, .faddr 2 (.tmp 5)⟩] (
 .step ⟨(some 73), none, .faddr 2 (.tmp 13)⟩ (
 .ev ⟨(some 65), none, .bslice 2 (.agg #[(.int .i64 0), (.int .i64 0)]) 0 []⟩ [⟨(some 73), none, .faddr 2 (.tmp 13)⟩, ⟨(some 71), none, .load false 1 (.tmp 70)⟩, ⟨(some 70), none, .faddr 4 (.tmp 5)⟩, ⟨(some 67), none, .load false 1 (.tmp 66)⟩, ⟨(some 66), none, .faddr 3 (.tmp 5)⟩, ⟨(some 63), none, .load false 1 (.tmp 62)⟩, ⟨(some 62), none, .faddr 2 (.tmp 5)⟩] (
 .ev ⟨(some 68), none, .app 2 16 (.tmp 65) (.tmp 67)⟩ [⟨(some 73), none, .faddr 2 (.tmp 13)⟩, ⟨(some 71), none, .load false 1 (.tmp 70)⟩, ⟨(some 70), none, .faddr 4 (.tmp 5)⟩, ⟨(some 66), none, .faddr 3 (.tmp 5)⟩, ⟨(some 63), none, .load false 1 (.tmp 62)⟩, ⟨(some 62), none, .faddr 2 (.tmp 5)⟩] (
 .ev ⟨(some 72), none, .app 3 24 (.tmp 69) (.tmp 71)⟩ [⟨(some 73), none, .faddr 2 (.tmp 13)⟩, ⟨(some 70), none, .faddr 4 (.tmp 5)⟩, ⟨(some 67), none, .load false 1 (.tmp 66)⟩, ⟨(some 66), none, .faddr 3 (.tmp 5)⟩, ⟨(some 63), none, .load false 1 (.tmp 62)⟩, ⟨(some 62), none, .faddr 2 (.tmp 5)⟩] (
 .ev ⟨none, none, .store 1 (.tmp 73) (.tmp 64)⟩ [⟨(some 71), none, .load false 1 (.tmp 70)⟩, ⟨(some 70), none, .faddr 4 (.tmp 5)⟩, ⟨(some 67), none, .load false 1 (.tmp 66)⟩, ⟨(some 66), none, .faddr 3 (.tmp 5)⟩] (
 .step ⟨(some 74), none, .faddr 3 (.tmp 13)⟩ (
 .ev ⟨none, none, .store 1 (.tmp 74) (.tmp 68)⟩ [⟨(some 71), none, .load false 1 (.tmp 70)⟩, ⟨(some 70), none, .faddr 4 (.tmp 5)⟩] (
 .step ⟨(some 75), none, .faddr 4 (.tmp 13)⟩ (
 .ev ⟨none, none, .store 1 (.tmp 75) (.tmp 72)⟩ [] (
 .done)
 (.stop)))
 (.stop)))
 (.stop))
 (.stop))
 (.stop))
 (.stop)))
 (.ev ⟨(some 65), none, .bslice 2 (.agg #[(.int .i64 0), (.int .i64 0)]) 0 []⟩ [⟨(some 71), none, .load false 1 (.tmp 70)⟩, ⟨(some 70), none, .faddr 4 (.tmp 5)⟩, ⟨(some 67), none, .load false 1 (.tmp 66)⟩, ⟨(some 66), none, .faddr 3 (.tmp 5)⟩, ⟨(some 63), none, .load false 1 (.tmp 62)⟩, ⟨(some 62), none, .faddr 2 (.tmp 5)⟩] (
 .ev ⟨(some 64), none, .app 2 16 (.tmp 61) (.tmp 63)⟩ [⟨(some 71), none, .load false 1 (.tmp 70)⟩, ⟨(some 70), none, .faddr 4 (.tmp 5)⟩, ⟨(some 67), none, .load false 1 (.tmp 66)⟩, ⟨(some 66), none, .faddr 3 (.tmp 5)⟩, ⟨(some 62), none, .faddr 2 (.tmp 5)⟩] (
 .step ⟨(some 73), none, .faddr 2 (.tmp 13)⟩ (
 .ev ⟨(some 68), none, .app 2 16 (.tmp 65) (.tmp 67)⟩ [⟨(some 73), none, .faddr 2 (.tmp 13)⟩, ⟨(some 71), none, .load false 1 (.tmp 70)⟩, ⟨(some 70), none, .faddr 4 (.tmp 5)⟩, ⟨(some 66), none, .faddr 3 (.tmp 5)⟩, ⟨(some 63), none, .load false 1 (.tmp 62)⟩, ⟨(some 62), none, .faddr 2 (.tmp 5)⟩] (
 .ev ⟨(some 72), none, .app 3 24 (.tmp 69) (.tmp 71)⟩ [⟨(some 73), none, .faddr 2 (.tmp 13)⟩, ⟨(some 70), none, .faddr 4 (.tmp 5)⟩, ⟨(some 67), none, .load false 1 (.tmp 66)⟩, ⟨(some 66), none, .faddr 3 (.tmp 5)⟩, ⟨(some 63), none, .load false 1 (.tmp 62)⟩, ⟨(some 62), none, .faddr 2 (.tmp 5)⟩] (
 .ev ⟨none, none, .store 1 (.tmp 73) (.tmp 64)⟩ [⟨(some 71), none, .load false 1 (.tmp 70)⟩, ⟨(some 70), none, .faddr 4 (.tmp 5)⟩, ⟨(some 67), none, .load false 1 (.tmp 66)⟩, ⟨(some 66), none, .faddr 3 (.tmp 5)⟩] (
 .step ⟨(some 74), none, .faddr 3 (.tmp 13)⟩ (
 .ev ⟨none, none, .store 1 (.tmp 74) (.tmp 68)⟩ [⟨(some 71), none, .load false 1 (.tmp 70)⟩, ⟨(some 70), none, .faddr 4 (.tmp 5)⟩] (
 .step ⟨(some 75), none, .faddr 4 (.tmp 13)⟩ (
 .ev ⟨none, none, .store 1 (.tmp 75) (.tmp 72)⟩ [] (
 .done)
 (.stop)))
 (.stop)))
 (.stop))
 (.stop))
 (.stop)))
 (.stop))
 (.stop)))
 (.stop))))
 (.ev ⟨(some 65), none, .bslice 2 (.agg #[(.int .i64 0), (.int .i64 0)]) 0 []⟩ [⟨(some 71), none, .load false 1 (.tmp 70)⟩, ⟨(some 70), none, .faddr 4 (.tmp 5)⟩, ⟨(some 67), none, .load false 1 (.tmp 66)⟩, ⟨(some 66), none, .faddr 3 (.tmp 5)⟩, ⟨(some 63), none, .load false 1 (.tmp 62)⟩, ⟨(some 62), none, .faddr 2 (.tmp 5)⟩] (
 .ev ⟨(some 61), none, .bslice 2 (.agg #[(.int .i64 0), (.int .i64 0)]) 0 []⟩ [⟨(some 71), none, .load false 1 (.tmp 70)⟩, ⟨(some 70), none, .faddr 4 (.tmp 5)⟩, ⟨(some 67), none, .load false 1 (.tmp 66)⟩, ⟨(some 66), none, .faddr 3 (.tmp 5)⟩, ⟨(some 63), none, .load false 1 (.tmp 62)⟩, ⟨(some 62), none, .faddr 2 (.tmp 5)⟩] (
 .ev ⟨(some 64), none, .app 2 16 (.tmp 61) (.tmp 63)⟩ [⟨(some 71), none, .load false 1 (.tmp 70)⟩, ⟨(some 70), none, .faddr 4 (.tmp 5)⟩, ⟨(some 67), none, .load false 1 (.tmp 66)⟩, ⟨(some 66), none, .faddr 3 (.tmp 5)⟩, ⟨(some 62), none, .faddr 2 (.tmp 5)⟩] (
 .step ⟨(some 73), none, .faddr 2 (.tmp 13)⟩ (
 .ev ⟨(some 68), none, .app 2 16 (.tmp 65) (.tmp 67)⟩ [⟨(some 73), none, .faddr 2 (.tmp 13)⟩, ⟨(some 71), none, .load false 1 (.tmp 70)⟩, ⟨(some 70), none, .faddr 4 (.tmp 5)⟩, ⟨(some 66), none, .faddr 3 (.tmp 5)⟩, ⟨(some 63), none, .load false 1 (.tmp 62)⟩, ⟨(some 62), none, .faddr 2 (.tmp 5)⟩] (
 .ev ⟨(some 69), none, .bslice 3 (.agg #[(.int .i64 0), (.int .i64 0), (.int .i64 0)]) 0 []⟩ [⟨(some 73), none, .faddr 2 (.tmp 13)⟩, ⟨(some 71), none, .load false 1 (.tmp 70)⟩, ⟨(some 70), none, .faddr 4 (.tmp 5)⟩, ⟨(some 67), none, .load false 1 (.tmp 66)⟩, ⟨(some 66), none, .faddr 3 (.tmp 5)⟩, ⟨(some 63), none, .load false 1 (.tmp 62)⟩, ⟨(some 62), none, .faddr 2 (.tmp 5)⟩] (
 .ev ⟨(some 72), none, .app 3 24 (.tmp 69) (.tmp 71)⟩ [⟨(some 73), none, .faddr 2 (.tmp 13)⟩, ⟨(some 70), none, .faddr 4 (.tmp 5)⟩, ⟨(some 67), none, .load false 1 (.tmp 66)⟩, ⟨(some 66), none, .faddr 3 (.tmp 5)⟩, ⟨(some 63), none, .load false 1 (.tmp 62)⟩, ⟨(some 62), none, .faddr 2 (.tmp 5)⟩] (
 .ev ⟨none, none, .store 1 (.tmp 73) (.tmp 64)⟩ [⟨(some 71), none, .load false 1 (.tmp 70)⟩, ⟨(some 70), none, .faddr 4 (.tmp 5)⟩, ⟨(some 67), none, .load false 1 (.tmp 66)⟩, ⟨(some 66), none, .faddr 3 (.tmp 5)⟩] (
 .step ⟨(some 74), none, .faddr 3 (.tmp 13)⟩ (
 .ev ⟨none, none, .store 1 (.tmp 74) (.tmp 68)⟩ [⟨(some 71), none, .load false 1 (.tmp 70)⟩, ⟨(some 70), none, .faddr 4 (.tmp 5)⟩] (
 .step ⟨(some 75), none, .faddr 4 (.tmp 13)⟩ (
 .ev ⟨none, none, .store 1 (.tmp 75) (.tmp 72)⟩ [] (
 .done)
 (.stop)))
 (.stop)))
 (.stop))
 (.stop))
 (.stop))
 (.ev ⟨(some 69), none, .bslice 3 (.agg #[(.int .i64 0), (.int .i64 0), (.int .i64 0)]) 0 []⟩ [⟨(some 73), none, .faddr 2 (.tmp 13)⟩, ⟨(some 71), none, .load false 1 (.tmp 70)⟩, ⟨(some 70), none, .faddr 4 (.tmp 5)⟩, ⟨(some 67), none, .load false 1 (.tmp 66)⟩, ⟨(some 66), none, .faddr 3 (.tmp 5)⟩, ⟨(some 63), none, .load false 1 (.tmp 62)⟩, ⟨(some 62), none, .faddr 2 (.tmp 5)⟩] (
 .ev ⟨(some 68), none, .app 2 16 (.tmp 65) (.tmp 67)⟩ [⟨(some 73), none, .faddr 2 (.tmp 13)⟩, ⟨(some 71), none, .load false 1 (.tmp 70)⟩, ⟨(some 70), none, .faddr 4 (.tmp 5)⟩, ⟨(some 66), none, .faddr 3 (.tmp 5)⟩, ⟨(some 63), none, .load false 1 (.tmp 62)⟩, ⟨(some 62), none, .faddr 2 (.tmp 5)⟩] (
 .ev ⟨(some 72), none, .app 3 24 (.tmp 69) (.tmp 71)⟩ [⟨(some 73), none, .faddr 2 (.tmp 13)⟩, ⟨(some 70), none, .faddr 4 (.tmp 5)⟩, ⟨(some 67), none, .load false 1 (.tmp 66)⟩, ⟨(some 66), none, .faddr 3 (.tmp 5)⟩, ⟨(some 63), none, .load false 1 (.tmp 62)⟩, ⟨(some 62), none, .faddr 2 (.tmp 5)⟩] (
 .ev ⟨none, none, .store 1 (.tmp 73) (.tmp 64)⟩ [⟨(some 71), none, .load false 1 (.tmp 70)⟩, ⟨(some 70), none, .faddr 4 (.tmp 5)⟩, ⟨(some 67), none, .load false 1 (.tmp 66)⟩, ⟨(some 66), none, .faddr 3 (.tmp 5)⟩] (
 .step ⟨(some 74), none, .faddr 3 (.tmp 13)⟩ (
 .ev ⟨none, none, .store 1 (.tmp 74) (.tmp 68)⟩ [⟨(some 71), none, .load false 1 (.tmp 70)⟩, ⟨(some 70), none, .faddr 4 (.tmp 5)⟩] (
 .step ⟨(some 75), none, .faddr 4 (.tmp 13)⟩ (
 .ev ⟨none, none, .store 1 (.tmp 75) (.tmp 72)⟩ [] (
 .done)
 (.stop)))
 (.stop)))
 (.stop))
 (.stop))
 (.stop))
 (.stop))))
 (.ev ⟨(some 69), none, .bslice 3 (.agg #[(.int .i64 0), (.int .i64 0), (.int .i64 0)]) 0 []⟩ [⟨(some 71), none, .load false 1 (.tmp 70)⟩, ⟨(some 70), none, .faddr 4 (.tmp 5)⟩, ⟨(some 67), none, .load false 1 (.tmp 66)⟩, ⟨(some 66), none, .faddr 3 (.tmp 5)⟩, ⟨(some 63), none, .load false 1 (.tmp 62)⟩, ⟨(some 62), none, .faddr 2 (.tmp 5)⟩] (
 .ev ⟨(some 64), none, .app 2 16 (.tmp 61) (.tmp 63)⟩ [⟨(some 71), none, .load false 1 (.tmp 70)⟩, ⟨(some 70), none, .faddr 4 (.tmp 5)⟩, ⟨(some 67), none, .load false 1 (.tmp 66)⟩, ⟨(some 66), none, .faddr 3 (.tmp 5)⟩, ⟨(some 62), none, .faddr 2 (.tmp 5)⟩] (
 .step ⟨(some 73), none, .faddr 2 (.tmp 13)⟩ (
 .ev ⟨(some 68), none, .app 2 16 (.tmp 65) (.tmp 67)⟩ [⟨(some 73), none, .faddr 2 (.tmp 13)⟩, ⟨(some 71), none, .load false 1 (.tmp 70)⟩, ⟨(some 70), none, .faddr 4 (.tmp 5)⟩, ⟨(some 66), none, .faddr 3 (.tmp 5)⟩, ⟨(some 63), none, .load false 1 (.tmp 62)⟩, ⟨(some 62), none, .faddr 2 (.tmp 5)⟩] (
 .ev ⟨(some 72), none, .app 3 24 (.tmp 69) (.tmp 71)⟩ [⟨(some 73), none, .faddr 2 (.tmp 13)⟩, ⟨(some 70), none, .faddr 4 (.tmp 5)⟩, ⟨(some 67), none, .load false 1 (.tmp 66)⟩, ⟨(some 66), none, .faddr 3 (.tmp 5)⟩, ⟨(some 63), none, .load false 1 (.tmp 62)⟩, ⟨(some 62), none, .faddr 2 (.tmp 5)⟩] (
 .ev ⟨none, none, .store 1 (.tmp 73) (.tmp 64)⟩ [⟨(some 71), none, .load false 1 (.tmp 70)⟩, ⟨(some 70), none, .faddr 4 (.tmp 5)⟩, ⟨(some 67), none, .load false 1 (.tmp 66)⟩, ⟨(some 66), none, .faddr 3 (.tmp 5)⟩] (
 .step ⟨(some 74), none, .faddr 3 (.tmp 13)⟩ (
 .ev ⟨none, none, .store 1 (.tmp 74) (.tmp 68)⟩ [⟨(some 71), none, .load false 1 (.tmp 70)⟩, ⟨(some 70), none, .faddr 4 (.tmp 5)⟩] (
 .step ⟨(some 75), none, .faddr 4 (.tmp 13)⟩ (
 .ev ⟨none, none, .store 1 (.tmp 75) (.tmp 72)⟩ [] (
 .done)
 (.stop)))
 (.stop)))
 (.stop))
 (.stop))
 (.stop)))
 (.stop))
 (.stop)))
 (.ev ⟨(some 69), none, .bslice 3 (.agg #[(.int .i64 0), (.int .i64 0), (.int .i64 0)]) 0 []⟩ [⟨(some 71), none, .load false 1 (.tmp 70)⟩, ⟨(some 70), none, .faddr 4 (.tmp 5)⟩, ⟨(some 67), none, .load false 1 (.tmp 66)⟩, ⟨(some 66), none, .faddr 3 (.tmp 5)⟩, ⟨(some 63), none, .load false 1 (.tmp 62)⟩, ⟨(some 62), none, .faddr 2 (.tmp 5)⟩] (
 .ev ⟨(some 61), none, .bslice 2 (.agg #[(.int .i64 0), (.int .i64 0)]) 0 []⟩ [⟨(some 71), none, .load false 1 (.tmp 70)⟩, ⟨(some 70), none, .faddr 4 (.tmp 5)⟩, ⟨(some 67), none, .load false 1 (.tmp 66)⟩, ⟨(some 66), none, .faddr 3 (.tmp 5)⟩, ⟨(some 63), none, .load false 1 (.tmp 62)⟩, ⟨(some 62), none, .faddr 2 (.tmp 5)⟩] (
 .ev ⟨(some 64), none, .app 2 16 (.tmp 61) (.tmp 63)⟩ [⟨(some 71), none, .load false 1 (.tmp 70)⟩, ⟨(some 70), none, .faddr 4 (.tmp 5)⟩, ⟨(some 67), none, .load false 1 (.tmp 66)⟩, ⟨(some 66), none, .faddr 3 (.tmp 5)⟩, ⟨(some 62), none, .faddr 2 (.tmp 5)⟩] (
 .step ⟨(some 73), none, .faddr 2 (.tmp 13)⟩ (
 .ev ⟨(some 68), none, .app 2 16 (.tmp 65) (.tmp 67)⟩ [⟨(some 73), none, .faddr 2 (.tmp 13)⟩, ⟨(some 71), none, .load false 1 (.tmp 70)⟩, ⟨(some 70), none, .faddr 4 (.tmp 5)⟩, ⟨(some 66), none, .faddr 3 (.tmp 5)⟩, ⟨(some 63), none, .load false 1 (.tmp 62)⟩, ⟨(some 62), none, .faddr 2 (.tmp 5)⟩] (
 .ev ⟨(some 72), none, .app 3 24 (.tmp 69) (.tmp 71)⟩ [⟨(some 73), none, .faddr 2 (.tmp 13)⟩, ⟨(some 70), none, .faddr 4 (.tmp 5)⟩, ⟨(some 67), none, .load false 1 (.tmp 66)⟩, ⟨(some 66), none, .faddr 3 (.tmp 5)⟩, ⟨(some 63), none, .load false 1 (.tmp 62)⟩, ⟨(some 62), none, .faddr 2 (.tmp 5)⟩] (
 .ev ⟨none, none, .store 1 (.tmp 73) (.tmp 64)⟩ [⟨(some 71), none, .load false 1 (.tmp 70)⟩, ⟨(some 70), none, .faddr 4 (.tmp 5)⟩, ⟨(some 67), none, .load false 1 (.tmp 66)⟩, ⟨(some 66), none, .faddr 3 (.tmp 5)⟩] (
 .step ⟨(some 74), none, .faddr 3 (.tmp 13)⟩ (
 .ev ⟨none, none, .store 1 (.tmp 74) (.tmp 68)⟩ [⟨(some 71), none, .load false 1 (.tmp 70)⟩, ⟨(some 70), none, .faddr 4 (.tmp 5)⟩] (
 .step ⟨(some 75), none, .faddr 4 (.tmp 13)⟩ (
 .ev ⟨none, none, .store 1 (.tmp 75) (.tmp 72)⟩ [] (
 .done)
 (.stop)))
 (.stop)))
 (.stop))
 (.stop))
 (.stop)))
 (.stop))
 (.stop))
 (.stop)))
 (.ev ⟨(some 69), none, .bslice 3 (.agg #[(.int .i64 0), (.int .i64 0), (.int .i64 0)]) 0 []⟩ [⟨(some 71), none, .load false 1 (.tmp 70)⟩, ⟨(some 70), none, .faddr 4 (.tmp 5)⟩, ⟨(some 67), none, .load false 1 (.tmp 66)⟩, ⟨(some 66), none, .faddr 3 (.tmp 5)⟩, ⟨(some 63), none, .load false 1 (.tmp 62)⟩, ⟨(some 62), none, .faddr 2 (.tmp 5)⟩] (
 .ev ⟨(some 61), none, .bslice 2 (.agg #[(.int .i64 0), (.int .i64 0)]) 0 []⟩ [⟨(some 71), none, .load false 1 (.tmp 70)⟩, ⟨(some 70), none, .faddr 4 (.tmp 5)⟩, ⟨(some 67), none, .load false 1 (.tmp 66)⟩, ⟨(some 66), none, .faddr 3 (.tmp 5)⟩, ⟨(some 63), none, .load false 1 (.tmp 62)⟩, ⟨(some 62), none, .faddr 2 (.tmp 5)⟩] (
 .ev ⟨(some 64), none, .app 2 16 (.tmp 61) (.tmp 63)⟩ [⟨(some 71), none, .load false 1 (.tmp 70)⟩, ⟨(some 70), none, .faddr 4 (.tmp 5)⟩, ⟨(some 67), none, .load false 1 (.tmp 66)⟩, ⟨(some 66), none, .faddr 3 (.tmp 5)⟩, ⟨(some 62), none, .faddr 2 (.tmp 5)⟩] (
 .step ⟨(some 73), none, .faddr 2 (.tmp 13)⟩ (
 .ev ⟨(some 65), none, .bslice 2 (.agg #[(.int .i64 0), (.int .i64 0)]) 0 []⟩ [⟨(some 73), none, .faddr 2 (.tmp 13)⟩, ⟨(some 71), none, .load false 1 (.tmp 70)⟩, ⟨(some 70), none, .faddr 4 (.tmp 5)⟩, ⟨(some 67), none, .load false 1 (.tmp 66)⟩, ⟨(some 66), none, .faddr 3 (.tmp 5)⟩, ⟨(some 63), none, .load false 1 (.tmp 62)⟩, ⟨(some 62), none, .faddr 2 (.tmp 5)⟩] (
 .ev ⟨(some 68), none, .app 2 16 (.tmp 65) (.tmp 67)⟩ [⟨(some 73), none, .faddr 2 (.tmp 13)⟩, ⟨(some 71), none, .load false 1 (.tmp 70)⟩, ⟨(some 70), none, .faddr 4 (.tmp 5)⟩, ⟨(some 66), none, .faddr 3 (.tmp 5)⟩, ⟨(some 63), none, .load false 1 (.tmp 62)⟩, ⟨(some 62), none, .faddr 2 (.tmp 5)⟩] (
 .ev ⟨(some 72), none, .app 3 24 (.tmp 69) (.tmp 71)⟩ [⟨(some 73), none, .faddr 2 (.tmp 13)⟩, ⟨(some 70), none, .faddr 4 (.tmp 5)⟩, ⟨(some 67), none, .load false 1 (.tmp 66)⟩, ⟨(some 66), none, .faddr 3 (.tmp 5)⟩, ⟨(some 63), none, .load false 1 (.tmp 62)⟩, ⟨(some 62), none, .faddr 2 (.tmp 5)⟩] (
 .ev ⟨none, none, .store 1 (.tmp 73) (.tmp 64)⟩ [⟨(some 71), none, .load false 1 (.tmp 70)⟩, ⟨(some 70), none, .faddr 4 (.tmp 5)⟩, ⟨(some 67), none, .load false 1 (.tmp 66)⟩, ⟨(some 66), none, .faddr 3 (.tmp 5)⟩] (
 .step ⟨(some 74), none, .faddr 3 (.tmp 13)⟩ (
 .ev ⟨none, none, .store 1 (.tmp 74) (.tmp 68)⟩ [⟨(some 71), none, .load false 1 (.tmp 70)⟩, ⟨(some 70), none, .faddr 4 (.tmp 5)⟩] (
 .step ⟨(some 75), none, .faddr 4 (.tmp 13)⟩ (
 .ev ⟨none, none, .store 1 (.tmp 75) (.tmp 72)⟩ [] (
 .done)
 (.stop)))
 (.stop)))
 (.stop))
 (.stop))
 (.stop))
 (.stop)))
 (.ev ⟨(some 65), none, .bslice 2 (.agg #[(.int .i64 0), (.int .i64 0)]) 0 []⟩ [⟨(some 71), none, .load false 1 (.tmp 70)⟩, ⟨(some 70), none, .faddr 4 (.tmp 5)⟩, ⟨(some 67), none, .load false 1 (.tmp 66)⟩, ⟨(some 66), none, .faddr 3 (.tmp 5)⟩, ⟨(some 63), none, .load false 1 (.tmp 62)⟩, ⟨(some 62), none, .faddr 2 (.tmp 5)⟩] (
 .ev ⟨(some 64), none, .app 2 16 (.tmp 61) (.tmp 63)⟩ [⟨(some 71), none, .load false 1 (.tmp 70)⟩, ⟨(some 70), none, .faddr 4 (.tmp 5)⟩, ⟨(some 67), none, .load false 1 (.tmp 66)⟩, ⟨(some 66), none, .faddr 3 (.tmp 5)⟩, ⟨(some 62), none, .faddr 2 (.tmp 5)⟩] (
 .step ⟨(some 73), none, .faddr 2 (.tmp 13)⟩ (
 .ev ⟨(some 68), none, .app 2 16 (.tmp 65) (.tmp 67)⟩ [⟨(some 73), none, .faddr 2 (.tmp 13)⟩, ⟨(some 71), none, .load false 1 (.tmp 70)⟩, ⟨(some 70), none, .faddr 4 (.tmp 5)⟩, ⟨(some 66), none, .faddr 3 (.tmp 5)⟩, ⟨(some 63), none, .load false 1 (.tmp 62)⟩, ⟨(some 62), none, .faddr 2 (.tmp 5)⟩] (
 .ev ⟨(some 72), none, .app 3 24 (.tmp 69) (.tmp 71)⟩ [⟨(some 73), none, .faddr 2 (.tmp 13)⟩, ⟨(some 70), none, .faddr 4 (.tmp 5)⟩, ⟨(some 67), none, .load false 1 (.tmp 66)⟩, ⟨(some 66), none, .faddr 3 (.tmp 5)⟩, ⟨(some 63), none, .load false 1 (.tmp 62)⟩, ⟨(some 62), none, .faddr 2 (.tmp 5)⟩] (
 .ev ⟨none, none, .store 1 (.tmp 73) (.tmp 64)⟩ [⟨(some 71), none, .load false 1 (.tmp 70)⟩, ⟨(some 70), none, .faddr 4 (.tmp 5)⟩, ⟨(some 67), none, .load false 1 (.tmp 66)⟩, ⟨(some 66), none, .faddr 3 (.tmp 5)⟩] (
 .step ⟨(some 74), none, .faddr 3 (.tmp 13)⟩ (
 .ev ⟨none, none, .store 1 (.tmp 74) (.tmp 68)⟩ [⟨(some 71), none, .load false 1 (.tmp 70)⟩, ⟨(some 70), none, .faddr 4 (.tmp 5)⟩] (
 .step ⟨(some 75), none, .faddr 4 (.tmp 13)⟩ (
 .ev ⟨none, none, .store 1 (.tmp 75) (.tmp 72)⟩ [] (
 .done)
 (.stop)))
 (.stop)))
 (.stop))
 (.stop))
 (.stop)))
 (.stop))
 (.stop)))
 (.ev ⟨(some 65), none, .bslice 2 (.agg #[(.int .i64 0), (.int .i64 0)]) 0 []⟩ [⟨(some 71), none, .load false 1 (.tmp 70)⟩, ⟨(some 70), none, .faddr 4 (.tmp 5)⟩, ⟨(some 67), none, .load false 1 (.tmp 66)⟩, ⟨(some 66), none, .faddr 3 (.tmp 5)⟩, ⟨(some 63), none, .load false 1 (.tmp 62)⟩, ⟨(some 62), none, .faddr 2 (.tmp 5)⟩] (
 .ev ⟨(some 61), none, .bslice 2 (.agg #[(.int .i64 0), (.int .i64 0)]) 0 []⟩ [⟨(some 71), none, .load false 1 (.tmp 70)⟩, ⟨(some 70), none, .faddr 4 (.tmp 5)⟩, ⟨(some 67), none, .load false 1 (.tmp 66)⟩, ⟨(some 66), none, .faddr 3 (.tmp 5)⟩, ⟨(some 63), none, .load false 1 (.tmp 62)⟩, ⟨(some 62), none, .faddr 2 (.tmp 5)⟩] (
 .ev ⟨(some 64), none, .app 2 16 (.tmp 61) (.tmp 63)⟩ [⟨(some 71), none, .load false 1 (.tmp 70)⟩, ⟨(some 70), none, .faddr 4 (.tmp 5)⟩, ⟨(some 67), none, .load false 1 (.tmp 66)⟩, ⟨(some 66), none, .faddr 3 (.tmp 5)⟩, ⟨(some 62), none, .faddr 2 (.tmp 5)⟩] (
 .step ⟨(some 73), none, .faddr 2 (.tmp 13)⟩ (
 .ev ⟨(some 68), none, .app 2 16 (.tmp 65) (.tmp 67)⟩ [⟨(some 73), none, .faddr 2 (.tmp 13)⟩, ⟨(some 71), none, .load false 1 (.tmp 70)⟩, ⟨(some 70), none, .faddr 4 (.tmp 5)⟩, ⟨(some 66), none, .faddr 3 (.tmp 5)⟩, ⟨(some 63), none, .load false 1 (.tmp 62)⟩, ⟨(some 62), none, .faddr 2 (.tmp 5)⟩] (
 .ev ⟨(some 72), none, .app 3 24 (.tmp 69) (.tmp 71)⟩ [⟨(some 73), none, .faddr 2 (.tmp 13)⟩, ⟨(some 70), none, .faddr 4 (.tmp 5)⟩, ⟨(some 67), none, .load false 1 (.tmp 66)⟩, ⟨(some 66), none, .faddr 3 (.tmp 5)⟩, ⟨(some 63), none, .load false 1 (.tmp 62)⟩, ⟨(some 62), none, .faddr 2 (.tmp 5)⟩] (
 .ev ⟨none, none, .store 1 (.tmp 73) (.tmp 64)⟩ [⟨(some 71), none, .load false 1 (.tmp 70)⟩, ⟨(some 70), none, .faddr 4 (.tmp 5)⟩, ⟨(some 67), none, .load false 1 (.tmp 66)⟩, ⟨(some 66), none, .faddr 3 (.tmp 5)⟩] (
 .step ⟨(some 74), none, .faddr 3 (.tmp 13)⟩ (
 .ev ⟨none, none, .store 1 (.tmp 74) (.tmp 68)⟩ [⟨(some 71), none, .load false 1 (.tmp 70)⟩, ⟨(some 70), none, .faddr 4 (.tmp 5)⟩] (
 .step ⟨(some 75), none, .faddr 4 (.tmp 13)⟩ (
 .ev ⟨none, none, .store 1 (.tmp 75) (.tmp 72)⟩ [] (
 .done)
 (.stop)))
 (.stop)))
 (.stop))
 (.stop))
 (.stop)))
 (.stop))
 (.stop))
 (.stop)))
 (.stop)))))))))))
 (.seq (.seq (.gcp)
 (.reg [⟨(some 14), none, .mov (.fn 40)⟩]))
 (.seq (.seq (.reg [⟨(some 76), none, .mov (.tmp 1)⟩,
 ⟨(some 77), none, .bin .rem (.tmp 76) (.lit (.int .u8 4))⟩])
 (.block 0 (.seq (.reg [⟨(some 92), none, .bin .eql (.tmp 77) (.lit (.int .u8 0))⟩,
 ⟨(some 91), none, .mov (.tmp 92)⟩])
 (.cond (.tmp 91) (.draw (.step ⟨(some 93), none, .faddr 2 (.tmp 13)⟩ (
 .step ⟨(some 94), none, .load false 1 (.tmp 93)⟩ (
 .step ⟨(some 95), none, .mov (.tmp 12)⟩ (
 .step ⟨(some 96), none, .mov (.tmp 14)⟩ (
 .step ⟨(some 97), none, .faddr 2 (.tmp 13)⟩ (
 .step ⟨(some 98), none, .load false 1 (.tmp 97)⟩ (
 .step ⟨(some 99), none, .mov (.tmp 12)⟩ (
 .step ⟨(some 100), none, .iaddr 2 (.tmp 98) (.tmp 99)⟩ (
 .step ⟨(some 101), none, .load true 2 (.tmp 100)⟩ (
 .ev ⟨(some 102), none, .call (.tmp 96) [(.tmp 101)]⟩ [⟨(some 100), none, .iaddr 2 (.tmp 98) (.tmp 99)⟩, ⟨(some 98), none, .load false 1 (.tmp 97)⟩, ⟨(some 97), none, .faddr 2 (.tmp 13)⟩, ⟨(some 94), none, .load false 1 (.tmp 93)⟩, ⟨(some 93), none, .faddr 2 (.tmp 13)⟩] (
 .step ⟨(some 103), none, .iaddr 2 (.tmp 94) (.tmp 95)⟩ (
 .ev ⟨none, none, .store 2 (.tmp 103) (.tmp 102)⟩ [] (
 .done)
 (.stop)))
 (.stop))))))))))))
 (.seq (.reg [⟨(some 105), none, .bin .eql (.tmp 77) (.lit (.int .u8 1))⟩,
 ⟨(some 104), none, .mov (.tmp 105)⟩])
 (.cond (.tmp 104) (.draw (.step ⟨(some 106), none, .faddr 3 (.tmp 13)⟩ (
 .step ⟨(some 107), none, .load false 1 (.tmp 106)⟩ (
 .step ⟨(some 108), none, .mov (.tmp 12)⟩ (
 .step ⟨(some 109), none, .mov (.tmp 14)⟩ (
 .step ⟨(some 110), none, .faddr 3 (.tmp 13)⟩ (
 .step ⟨(some 111), none, .load false 1 (.tmp 110)⟩ (
 .step ⟨(some 112), none, .mov (.tmp 12)⟩ (
 .step ⟨(some 113), none, .iaddr 2 (.tmp 111) (.tmp 112)⟩ (
 .step ⟨(some 114), none, .load true 2 (.tmp 113)⟩ (
 .ev ⟨(some 115), none, .call (.tmp 109) [(.tmp 114)]⟩ [⟨(some 113), none, .iaddr 2 (.tmp 111) (.tmp 112)⟩, ⟨(some 111), none, .load false 1 (.tmp 110)⟩, ⟨(some 110), none, .faddr 3 (.tmp 13)⟩, ⟨(some 107), none, .load false 1 (.tmp 106)⟩, ⟨(some 106), none, .faddr 3 (.tmp 13)⟩] (
 .step ⟨(some 116), none, .iaddr 2 (.tmp 107) (.tmp 108)⟩ (
 .ev ⟨none, none, .store 2 (.tmp 116) (.tmp 115)⟩ [] (
 .done)
 (.stop)))
 (.stop))))))))))))
 (.seq (.reg [⟨(some 118), none, .bin .eql (.tmp 77) (.lit (.int .u8 2))⟩,
 ⟨(some 117), none, .mov (.tmp 118)⟩])
 (.cond (.tmp 117) (.draw (.step ⟨(some 119), none, .faddr 4 (.tmp 13)⟩ (
 .step ⟨(some 120), none, .load false 1 (.tmp 119)⟩ (
 .step ⟨(some 121), none, .mov (.tmp 11)⟩ (
 .step ⟨(some 122), none, .faddr 4 (.tmp 13)⟩ (
 .step ⟨(some 123), none, .load false 1 (.tmp 122)⟩ (
 .step ⟨(some 124), none, .mov (.tmp 11)⟩ (
 .step ⟨(some 125), none, .iaddr 3 (.tmp 123) (.tmp 124)⟩ (
 .step ⟨(some 126), none, .faddr 0 (.tmp 125)⟩ (
 .step ⟨(some 127), none, .load false 1 (.tmp 126)⟩ (
 .step ⟨(some 128), none, .bin .add (.tmp 127) (.lit (.int .i64 1))⟩ (
 .step ⟨(some 129), none, .mxmn false (.lit (.int .i64 40)) [(.tmp 128)]⟩ (
 .step ⟨(some 130), none, .iaddr 3 (.tmp 120) (.tmp 121)⟩ (
 .step ⟨(some 131), none, .faddr 0 (.tmp 130)⟩ (
 .ev ⟨none, none, .store 1 (.tmp 131) (.tmp 129)⟩ [⟨(some 130), none, .iaddr 3 (.tmp 120) (.tmp 121)⟩] (
 .done)
 (.stop))))))))))))))))
 (.draw (.step ⟨(some 78), none, .faddr 4 (.tmp 13)⟩ (
 .step ⟨(some 79), none, .load false 1 (.tmp 78)⟩ (
 .step ⟨(some 80), none, .mov (.tmp 11)⟩ (
 .step ⟨(some 81), none, .faddr 4 (.tmp 13)⟩ (
 .step ⟨(some 82), none, .load false 1 (.tmp 81)⟩ (
 .step ⟨(some 83), none, .mov (.tmp 11)⟩ (
 .step ⟨(some 84), none, .iaddr 3 (.tmp 82) (.tmp 83)⟩ (
 .step ⟨(some 85), none, .faddr 1 (.tmp 84)⟩ (
 .step ⟨(some 86), none, .load false 1 (.tmp 85)⟩ (
 .step ⟨(some 87), none, .bin .add (.tmp 86) (.lit (.int .i64 1))⟩ (
 .step ⟨(some 88), none, .mxmn false (.lit (.int .i64 10)) [(.tmp 87)]⟩ (
 .step ⟨(some 89), none, .iaddr 3 (.tmp 79) (.tmp 80)⟩ (
 .step ⟨(some 90), none, .faddr 1 (.tmp 89)⟩ (
 .ev ⟨none, none, .store 1 (.tmp 90) (.tmp 88)⟩ [⟨(some 89), none, .iaddr 3 (.tmp 79) (.tmp 80)⟩] (
 .done)
 (.stop))))))))))))))))))))))))
 (.seq (.seq (.seq (.gcp)
 (.reg [⟨(some 132), none, .faddr 4 (.tmp 5)⟩,
 ⟨(some 133), none, .load false 1 (.tmp 132)⟩,
 ⟨(some 134), none, .len (.tmp 133)⟩,
 ⟨(some 135), none, .mov (.lit (.int .i64 0))⟩]))
 (.block 1 (.loop (.seq (.reg [⟨(some 136), none, .bin .lss (.tmp 135) (.tmp 134)⟩])
 (.seq (.cond (.tmp 136) (.skip)
 (.exit 1))
 (.seq (.block 2 (.seq (.reg [⟨(some 137), none, .mov (.tmp 135)⟩,
 ⟨(some 15), none, .mov (.tmp 137)⟩])
 (.seq (.reg [⟨(some 139), none, .load true 5 (.tmp 5)⟩,
 ⟨(some 140), none, .mov (.tmp 15)⟩,
 ⟨(some 141), none, .call (.fn 21) [(.tmp 139), (.tmp 140)]⟩,
 ⟨(some 138), none, .mov (.tmp 141)⟩,
 ⟨(some 142), none, .ext (.tmp 138) 0⟩,
 ⟨(some 143), none, .ext (.tmp 138) 1⟩,
 ⟨(some 16), none, .mov (.tmp 142)⟩,
 ⟨(some 17), none, .mov (.tmp 143)⟩])
 (.seq (.reg [⟨(some 145), none, .load true 5 (.tmp 13)⟩,
 ⟨(some 146), none, .mov (.tmp 15)⟩,
 ⟨(some 147), none, .call (.fn 21) [(.tmp 145), (.tmp 146)]⟩,
 ⟨(some 144), none, .mov (.tmp 147)⟩,
 ⟨(some 148), none, .ext (.tmp 144) 0⟩,
 ⟨(some 149), none, .ext (.tmp 144) 1⟩,
 ⟨(some 18), none, .mov (.tmp 148)⟩,
 ⟨(some 19), none, .mov (.tmp 149)⟩])
 (.seq (.reg [⟨(some 151), none, .load true 5 (.tmp 5)⟩,
 ⟨(some 152), none, .mov (.tmp 15)⟩,
 ⟨(some 153), none, .call (.fn 23) [(.tmp 151), (.tmp 152)]⟩,
 ⟨(some 150), none, .mov (.tmp 153)⟩,
 ⟨(some 154), none, .ext (.tmp 150) 0⟩,
 ⟨(some 155), none, .ext (.tmp 150) 1⟩,
 ⟨(some 20), none, .mov (.tmp 154)⟩,
 ⟨(some 21), none, .mov (.tmp 155)⟩])
 (.seq (.reg [⟨(some 157), none, .load true 5 (.tmp 13)⟩,
 ⟨(some 158), none, .mov (.tmp 15)⟩,
 ⟨(some 159), none, .call (.fn 23) [(.tmp 157), (.tmp 158)]⟩,
 ⟨(some 156), none, .mov (.tmp 159)⟩,
 ⟨(some 160), none, .ext (.tmp 156) 0⟩,
 ⟨(some 161), none, .ext (.tmp 156) 1⟩,
 ⟨(some 22), none, .mov (.tmp 160)⟩,
 ⟨(some 23), none, .mov (.tmp 161)⟩])
 (.seq (.reg [⟨(some 162), none, .mov (.tmp 17)⟩,
 ⟨(some 163), none, .bin .neq (.tmp 162) (.lit (.int .i64 0))⟩,
 ⟨(some 164), none, .mov (.tmp 163)⟩,
 ⟨(some 165), (some (164, false)), .mov (.tmp 19)⟩,
 ⟨(some 166), (some (164, false)), .bin .neq (.tmp 165) (.lit (.int .i64 0))⟩,
 ⟨(some 167), none, .pick (.tmp 164) (.lit (.bool true)) (.tmp 166)⟩,
 ⟨(some 168), none, .mov (.tmp 167)⟩,
 ⟨(some 169), (some (168, false)), .mov (.tmp 18)⟩,
 ⟨(some 170), (some (168, false)), .mov (.tmp 16)⟩,
 ⟨(some 171), (some (168, false)), .bin .gtr (.tmp 169) (.tmp 170)⟩,
 ⟨(some 172), none, .pick (.tmp 168) (.lit (.bool true)) (.tmp 171)⟩,
 ⟨(some 173), none, .mov (.tmp 172)⟩,
 ⟨(some 174), (some (173, false)), .mov (.tmp 23)⟩,
 ⟨(some 175), (some (173, false)), .bin .eql (.tmp 174) (.lit (.int .i64 0))⟩,
 ⟨(some 176), (some (173, false)), .mov (.tmp 175)⟩,
 ⟨(some 177), (some (176, true)), .mov (.tmp 21)⟩,
 ⟨(some 178), (some (176, true)), .bin .neq (.tmp 177) (.lit (.int .i64 0))⟩,
 ⟨(some 179), (some (176, true)), .mov (.tmp 178)⟩,
 ⟨(some 180), (some (179, false)), .mov (.tmp 22)⟩,
 ⟨(some 181), (some (179, false)), .mov (.tmp 20)⟩,
 ⟨(some 182), (some (179, false)), .bin .lss (.tmp 180) (.tmp 181)⟩,
 ⟨(some 183), (some (176, true)), .pick (.tmp 179) (.lit (.bool true)) (.tmp 182)⟩,
 ⟨(some 184), (some (173, false)), .pick (.tmp 176) (.tmp 183) (.lit (.bool false))⟩,
 ⟨(some 185), none, .pick (.tmp 173) (.lit (.bool true)) (.tmp 184)⟩])
 (.cond (.tmp 185) (.seq (.reg [⟨(some 10), none, .mov (.lit (.bool false))⟩])
 (.ret))
 (.skip)))))))))
 (.reg [⟨(some 186), none, .bin .add (.tmp 135) (.lit (.int .i64 1))⟩,
 ⟨(some 135), none, .mov (.tmp 186)⟩])))))))
 (.seq (.reg [⟨(some 187), none, .mov (.tmp 4)⟩,
 ⟨(some 188), none, .conv .i64 (.tmp 187)⟩,
 ⟨(some 189), none, .bin .rem (.tmp 188) (.lit (.int .i64 6))⟩,
 ⟨(some 24), none, .mov (.tmp 189)⟩])
 (.seq (.reg [⟨(some 191), none, .load true 5 (.tmp 5)⟩,
 ⟨(some 192), none, .mov (.tmp 24)⟩,
 ⟨(some 193), none, .call (.fn 30) [(.tmp 191), (.tmp 192)]⟩,
 ⟨(some 190), none, .mov (.tmp 193)⟩,
 ⟨(some 194), none, .ext (.tmp 190) 0⟩,
 ⟨(some 195), none, .ext (.tmp 190) 1⟩,
 ⟨(some 196), none, .ext (.tmp 190) 2⟩,
 ⟨(some 25), none, .mov (.tmp 194)⟩,
 ⟨(some 26), none, .mov (.tmp 195)⟩,
 ⟨(some 27), none, .mov (.tmp 196)⟩])
 (.seq (.reg [⟨(some 198), none, .load true 5 (.tmp 13)⟩,
 ⟨(some 199), none, .mov (.tmp 24)⟩,
 ⟨(some 200), none, .call (.fn 30) [(.tmp 198), (.tmp 199)]⟩,
 ⟨(some 197), none, .mov (.tmp 200)⟩,
 ⟨(some 201), none, .ext (.tmp 197) 0⟩,
 ⟨(some 202), none, .ext (.tmp 197) 1⟩,
 ⟨(some 203), none, .ext (.tmp 197) 2⟩,
 ⟨(some 28), none, .mov (.tmp 201)⟩,
 ⟨(some 29), none, .mov (.tmp 202)⟩,
 ⟨(some 30), none, .mov (.tmp 203)⟩])
 (.seq (.reg [⟨(some 31), none, .mov (.fn 39)⟩])
 (.seq (.reg [⟨(some 204), none, .mov (.tmp 27)⟩,
 ⟨(some 205), none, .bin .eql (.tmp 204) (.lit (.int .i64 0))⟩,
 ⟨(some 206), none, .mov (.tmp 205)⟩,
 ⟨(some 207), (some (206, true)), .mov (.tmp 30)⟩,
 ⟨(some 208), (some (206, true)), .bin .eql (.tmp 207) (.lit (.int .i64 0))⟩,
 ⟨(some 209), none, .pick (.tmp 206) (.tmp 208) (.lit (.bool false))⟩,
 ⟨(some 210), none, .mov (.tmp 209)⟩,
 ⟨(some 211), (some (210, true)), .mov (.tmp 26)⟩,
 ⟨(some 212), (some (210, true)), .bin .geq (.tmp 211) (.lit (.int .i64 0))⟩,
 ⟨(some 213), none, .pick (.tmp 210) (.tmp 212) (.lit (.bool false))⟩,
 ⟨(some 214), none, .mov (.tmp 213)⟩,
 ⟨(some 215), (some (214, true)), .mov (.tmp 29)⟩,
 ⟨(some 216), (some (214, true)), .bin .geq (.tmp 215) (.lit (.int .i64 0))⟩,
 ⟨(some 217), none, .pick (.tmp 214) (.tmp 216) (.lit (.bool false))⟩,
 ⟨(some 218), none, .mov (.tmp 217)⟩,
 ⟨(some 219), (some (218, true)), .mov (.tmp 31)⟩,
 ⟨(some 220), (some (218, true)), .mov (.tmp 29)⟩,
 ⟨(some 221), (some (218, true)), .call (.tmp 219) [(.tmp 220)]⟩,
 ⟨(some 222), (some (218, true)), .mov (.tmp 31)⟩,
 ⟨(some 223), (some (218, true)), .mov (.tmp 26)⟩,
 ⟨(some 224), (some (218, true)), .call (.tmp 222) [(.tmp 223)]⟩,
 ⟨(some 225), (some (218, true)), .bin .leq (.tmp 221) (.tmp 224)⟩,
 ⟨(some 226), none, .pick (.tmp 218) (.tmp 225) (.lit (.bool false))⟩,
 ⟨(some 227), none, .mov (.tmp 226)⟩,
 ⟨(some 228), (some (227, true)), .call (.fn 14) []⟩,
 ⟨(some 229), none, .pick (.tmp 227) (.tmp 228) (.lit (.bool false))⟩,
 ⟨(some 10), none, .mov (.tmp 229)⟩])
 (.ret)))))))))))))
theorem k11 : FnC Tryd.prog 11 230 [] [6, 15] [.tmp 10] c11 5 := ⟨Tryd.f11, _, Tryd.func11, rfl, by decide, rfl, by decide, by kernel_rfl, by kernel_rfl⟩
/-- dipworks/dipworkslaw04.SurfMore$1 -/
def c40 : AC :=
 .seq (.reg [⟨(some 1), none, .box (.tmp 0)⟩,
 ⟨(some 2), none, .alloc [(.int .i64 0), (.int .i64 0)]⟩])
 (.seq (.reg [⟨(some 3), none, .faddr 0 (.tmp 1)⟩,
 ⟨(some 4), none, .load false 1 (.tmp 3)⟩,
 ⟨(some 5), none, .bin .sub (.tmp 4) (.lit (.int .i64 1))⟩,
 ⟨(some 6), none, .mxmn true (.lit (.int .i64 0)) [(.tmp 5)]⟩,
 ⟨(some 7), none, .faddr 1 (.tmp 1)⟩,
 ⟨(some 8), none, .load false 1 (.tmp 7)⟩,
 ⟨(some 9), none, .bin .sub (.tmp 8) (.lit (.int .i64 1))⟩,
 ⟨(some 10), none, .mxmn true (.lit (.int .i64 0)) [(.tmp 9)]⟩,
 ⟨(some 11), none, .call (.fn 41) [(.tmp 6), (.tmp 10)]⟩,
 ⟨none, none, .store 2 (.tmp 2) (.tmp 11)⟩])
 (.ret))
theorem k40 : FnC Tryd.prog 40 12 [2] [] [.cell 2 true 2] c40 1 := ⟨Tryd.f40, _, Tryd.func40, rfl, by decide, rfl, by decide, by kernel_rfl, by kernel_rfl⟩
end Go.Proofs.YtmahocdmkpigjaaDoor

/- SurfMore: the law's function. -/
namespace Go.Proofs.YtmahocdmkpigjaaDoor
open Go Go.Ab

theorem down_ok (x : Sp) {high : Int} (hx : Near x high) (hh : high ≤ 100) : ACall Tryd.prog 40 [.t (tSp x)] [] (ret (tSp (downS x))) := by
  refine ACall.walk k40 ?_
  obtain ⟨xl, xh⟩ := x
  unfold Near at hx
  simp only at hx
  have h41 := span2_ok (max 0 (xl - 1)) (max 0 (xh - 1))
  have a1 : IntKind.i64.wrap (xl - 1) = xl - 1 := wrap_id (by omega) (by omega)
  have a2 : IntKind.i64.wrap (xh - 1) = xh - 1 := wrap_id (by omega) (by omega)
  unfold c40 tSp
  simp only [go_sem, Nat.reduceEqDiff, Nat.reduceAdd, Nat.reduceSub, Nat.reduceMul, Nat.reduceLT, Nat.reduceLeDiff, Nat.reduceMod, Nat.reduceDiv, Int.reduceToNat, Int.reduceLT, Int.reduceLE, Bool.not_true, Bool.not_false, reduceIte, Int.reduceEq, Int.reduceBEq, Int.reduceBNe, Int.reduceGT, Int.reduceGE, Int.reduceNeg, Int.reduceAdd, Int.reduceSub, Nat.reduceBEq, decide_true, decide_false, undef, beq_self_eq_true, bne_self_eq_false, Bool.and_true, Bool.true_and, Bool.and_false, Bool.false_and, Bool.or_true, Bool.true_or, Bool.or_false, Bool.false_or, a1, a2]
  refine ACallL.fresh1 h41 rfl ?_
  simp only [go_sem, Nat.reduceEqDiff, Nat.reduceAdd, Nat.reduceSub, Nat.reduceMul, Nat.reduceLT, Nat.reduceLeDiff, Nat.reduceMod, Nat.reduceDiv, Int.reduceToNat, Int.reduceLT, Int.reduceLE, Bool.not_true, Bool.not_false, reduceIte, Int.reduceEq, Int.reduceBEq, Int.reduceBNe, Int.reduceGT, Int.reduceGE, Int.reduceNeg, Int.reduceAdd, Int.reduceSub, Nat.reduceBEq, decide_true, decide_false, undef, beq_self_eq_true, bne_self_eq_false, Bool.and_true, Bool.true_and, Bool.and_false, Bool.false_and, Bool.or_true, Bool.true_or, Bool.or_false, Bool.false_or, undef]
  exact finL_ret [] ⟨rfl, rfl, rfl, rfl, _, rfl, res_mk rfl⟩

abbrev xCells (x : Su) : AO := .cells [.t (vi x.rows), .t (vi x.step), .loc 2 x.water.length, .loc 3 x.waves.length, .loc 4 x.huts.length]
abbrev xRows (x : Su) : List AO := [.row 2 ((x.water.map tSp).map .t), .row 2 ((x.waves.map tSp).map .t), .row 3 ((x.huts.map tHu).map .t)]
def MoMid (s : Su) (n r a d : Nat) (st : St) : Prop := lk st.env 1 = .t (.lit (.int .u8 a)) ∧ lk st.env 4 = .t (.lit (.int .u8 d)) ∧ lk st.env 5 = .ptr 0 0 ∧ lk st.env 11 = .t (vi n) ∧ lk st.env 12 = .t (vi r) ∧ lk st.env 13 = .ptr 1 0 ∧ lk st.env 14 = .t (.fn (.func 40) [] []) ∧
  st.σ = .cells ((su5 s).map .t) :: xCells s :: xRows s ∧ st.df = [] ∧ st.k = 0
def moSt (s : Su) (n r a d : Nat) : St := { env := [(1, .t (.lit (.int .u8 a))), (4, .t (.lit (.int .u8 d))), (5, .ptr 0 0), (11, .t (vi n)), (12, .t (vi r)), (13, .ptr 1 0)], σ := .cells ((su5 s).map .t) :: xCells s :: xRows s, df := [], k := 0 }
def MoMid2 (s x : Su) (d : Nat) (st : St) : Prop := lk st.env 4 = .t (.lit (.int .u8 d)) ∧ lk st.env 5 = .ptr 0 0 ∧ lk st.env 13 = .ptr 1 0 ∧ st.σ = .cells ((su5 s).map .t) :: xCells x :: xRows x ∧ st.df = [] ∧ st.k = 0
theorem gc_x (x : Su) (A : AO) : E.gc [0] (A :: xCells x :: xRows x) 12 (.ptr 1 0) = .t (.ptr (.agg (su5 x)) 0) := by
  rw [E.gc]
  simp only [pos?, Nat.reduceEqDiff, reduceIte, Option.map_none, List.getElem?_cons_succ, List.getElem?_cons_zero, List.map_cons, List.map_nil, gc_t]
  rw [gc_loc (n := 9) (xs := x.water.map tSp) rfl rfl (by simp), gc_loc (n := 9) (xs := x.waves.map tSp) rfl rfl (by simp), gc_loc (n := 9) (xs := x.huts.map tHu) rfl rfl (by simp)]
  rfl

set_option maxRecDepth 8000 in
set_option maxHeartbeats 8000000 in
theorem SurfMore_ok (s : Su) (hL : Lens s) (a : Nat) (ha : a < 256) (b : Nat) (hb : b < 256) (c : Nat) (hc : c < 256) (d : Nat) (hd : d < 256) :
    ACall Tryd.prog 11 [.t (.agg (su5 s)), .t (.lit (.int .u8 a)), .t (.lit (.int .u8 b)), .t (.lit (.int .u8 c)), .t (.lit (.int .u8 d))] [] (res (.ret (.t (vb true)))) := by
  refine ACall.walk k11 ?_
  have h33 := fine_ok s hL
  unfold c11
  refine awpL_chop 6 (c1 := ?a1) (c2 := ?a2) (fun st => s.OK ∧ ∃ n r, n < s.huts.length ∧ r < s.water.length ∧ MoMid s n r a d st) ?hc ?_ ?_
  case hc => simp only [chop]; rfl
  · unfold su5 at h33 ⊢
    simp only [go_sem, Nat.reduceEqDiff, Nat.reduceAdd, Nat.reduceSub, Nat.reduceMul, Nat.reduceLT, Nat.reduceLeDiff, Nat.reduceMod, Nat.reduceDiv, Int.reduceToNat, Int.reduceLT, Int.reduceLE, Bool.not_true, Bool.not_false, reduceIte, Int.reduceEq, Int.reduceBEq, Int.reduceBNe, Int.reduceGT, Int.reduceGE, Int.reduceNeg, Int.reduceAdd, Int.reduceSub, Nat.reduceBEq, decide_true, decide_false, undef, beq_self_eq_true, bne_self_eq_false, Bool.and_true, Bool.true_and, Bool.and_false, Bool.false_and, Bool.or_true, Bool.true_or, Bool.or_false, Bool.false_or]
    refine ACallL.quiet1 h33 rfl rfl rfl ?_
    cases hF : fineB s
    · simp only [go_sem, Nat.reduceEqDiff, Nat.reduceAdd, Nat.reduceSub, Nat.reduceMul, Nat.reduceLT, Nat.reduceLeDiff, Nat.reduceMod, Nat.reduceDiv, Int.reduceToNat, Int.reduceLT, Int.reduceLE, Bool.not_true, Bool.not_false, reduceIte, Int.reduceEq, Int.reduceBEq, Int.reduceBNe, Int.reduceGT, Int.reduceGE, Int.reduceNeg, Int.reduceAdd, Int.reduceSub, Nat.reduceBEq, decide_true, decide_false, undef, beq_self_eq_true, bne_self_eq_false, Bool.and_true, Bool.true_and, Bool.and_false, Bool.false_and, Bool.or_true, Bool.true_or, Bool.or_false, Bool.false_or, undef]
      refine ACallL.quiet1 awake_ok rfl rfl rfl ?_
      simp only [go_sem, Nat.reduceEqDiff, Nat.reduceAdd, Nat.reduceSub, Nat.reduceMul, Nat.reduceLT, Nat.reduceLeDiff, Nat.reduceMod, Nat.reduceDiv, Int.reduceToNat, Int.reduceLT, Int.reduceLE, Bool.not_true, Bool.not_false, reduceIte, Int.reduceEq, Int.reduceBEq, Int.reduceBNe, Int.reduceGT, Int.reduceGE, Int.reduceNeg, Int.reduceAdd, Int.reduceSub, Nat.reduceBEq, decide_true, decide_false, undef, beq_self_eq_true, bne_self_eq_false, Bool.and_true, Bool.true_and, Bool.and_false, Bool.false_and, Bool.or_true, Bool.true_or, Bool.or_false, Bool.false_or, undef]
      exact finL_ret [] ⟨rfl, rfl, rfl, rfl, _, rfl, res_mk rfl⟩
    obtain ⟨hok, hs⟩ := fine_iff hF
    have hnh := hs.nh
    have hnw := hs.nw
    have hnv := hs.nv
    simp only [go_sem, Nat.reduceEqDiff, Nat.reduceAdd, Nat.reduceSub, Nat.reduceMul, Nat.reduceLT, Nat.reduceLeDiff, Nat.reduceMod, Nat.reduceDiv, Int.reduceToNat, Int.reduceLT, Int.reduceLE, Bool.not_true, Bool.not_false, reduceIte, Int.reduceEq, Int.reduceBEq, Int.reduceBNe, Int.reduceGT, Int.reduceGE, Int.reduceNeg, Int.reduceAdd, Int.reduceSub, Nat.reduceBEq, decide_true, decide_false, undef, beq_self_eq_true, bne_self_eq_false, Bool.and_true, Bool.true_and, Bool.and_false, Bool.false_and, Bool.or_true, Bool.true_or, Bool.or_false, Bool.false_or, undef, List.length_map]
    cases h0 : ((s.huts.length : Int) == 0)
    rotate_left
    · simp only [go_sem, Nat.reduceEqDiff, Nat.reduceAdd, Nat.reduceSub, Nat.reduceMul, Nat.reduceLT, Nat.reduceLeDiff, Nat.reduceMod, Nat.reduceDiv, Int.reduceToNat, Int.reduceLT, Int.reduceLE, Bool.not_true, Bool.not_false, reduceIte, Int.reduceEq, Int.reduceBEq, Int.reduceBNe, Int.reduceGT, Int.reduceGE, Int.reduceNeg, Int.reduceAdd, Int.reduceSub, Nat.reduceBEq, decide_true, decide_false, undef, beq_self_eq_true, bne_self_eq_false, Bool.and_true, Bool.true_and, Bool.and_false, Bool.false_and, Bool.or_true, Bool.true_or, Bool.or_false, Bool.false_or, undef, h0]
      refine ACallL.quiet1 awake_ok rfl rfl rfl ?_
      simp only [go_sem, Nat.reduceEqDiff, Nat.reduceAdd, Nat.reduceSub, Nat.reduceMul, Nat.reduceLT, Nat.reduceLeDiff, Nat.reduceMod, Nat.reduceDiv, Int.reduceToNat, Int.reduceLT, Int.reduceLE, Bool.not_true, Bool.not_false, reduceIte, Int.reduceEq, Int.reduceBEq, Int.reduceBNe, Int.reduceGT, Int.reduceGE, Int.reduceNeg, Int.reduceAdd, Int.reduceSub, Nat.reduceBEq, decide_true, decide_false, undef, beq_self_eq_true, bne_self_eq_false, Bool.and_true, Bool.true_and, Bool.and_false, Bool.false_and, Bool.or_true, Bool.true_or, Bool.or_false, Bool.false_or, undef]
      exact finL_ret [] ⟨rfl, rfl, rfl, rfl, _, rfl, res_mk rfl⟩
    simp only [go_sem, Nat.reduceEqDiff, Nat.reduceAdd, Nat.reduceSub, Nat.reduceMul, Nat.reduceLT, Nat.reduceLeDiff, Nat.reduceMod, Nat.reduceDiv, Int.reduceToNat, Int.reduceLT, Int.reduceLE, Bool.not_true, Bool.not_false, reduceIte, Int.reduceEq, Int.reduceBEq, Int.reduceBNe, Int.reduceGT, Int.reduceGE, Int.reduceNeg, Int.reduceAdd, Int.reduceSub, Nat.reduceBEq, decide_true, decide_false, undef, beq_self_eq_true, bne_self_eq_false, Bool.and_true, Bool.true_and, Bool.and_false, Bool.false_and, Bool.or_true, Bool.true_or, Bool.or_false, Bool.false_or, undef, h0, List.length_map]
    cases h1 : ((s.water.length : Int) == 0)
    rotate_left
    · simp only [go_sem, Nat.reduceEqDiff, Nat.reduceAdd, Nat.reduceSub, Nat.reduceMul, Nat.reduceLT, Nat.reduceLeDiff, Nat.reduceMod, Nat.reduceDiv, Int.reduceToNat, Int.reduceLT, Int.reduceLE, Bool.not_true, Bool.not_false, reduceIte, Int.reduceEq, Int.reduceBEq, Int.reduceBNe, Int.reduceGT, Int.reduceGE, Int.reduceNeg, Int.reduceAdd, Int.reduceSub, Nat.reduceBEq, decide_true, decide_false, undef, beq_self_eq_true, bne_self_eq_false, Bool.and_true, Bool.true_and, Bool.and_false, Bool.false_and, Bool.or_true, Bool.true_or, Bool.or_false, Bool.false_or, undef, h1]
      refine ACallL.quiet1 awake_ok rfl rfl rfl ?_
      simp only [go_sem, Nat.reduceEqDiff, Nat.reduceAdd, Nat.reduceSub, Nat.reduceMul, Nat.reduceLT, Nat.reduceLeDiff, Nat.reduceMod, Nat.reduceDiv, Int.reduceToNat, Int.reduceLT, Int.reduceLE, Bool.not_true, Bool.not_false, reduceIte, Int.reduceEq, Int.reduceBEq, Int.reduceBNe, Int.reduceGT, Int.reduceGE, Int.reduceNeg, Int.reduceAdd, Int.reduceSub, Nat.reduceBEq, decide_true, decide_false, undef, beq_self_eq_true, bne_self_eq_false, Bool.and_true, Bool.true_and, Bool.and_false, Bool.false_and, Bool.or_true, Bool.true_or, Bool.or_false, Bool.false_or, undef]
      exact finL_ret [] ⟨rfl, rfl, rfl, rfl, _, rfl, res_mk rfl⟩
    have n0 : ¬ ((s.huts.length : Int) = 0) := by simpa using h0
    have n1 : ¬ ((s.water.length : Int) = 0) := by simpa using h1
    have q0 : b % s.huts.length < s.huts.length := Nat.mod_lt _ (by omega)
    have q1 : c % s.water.length < s.water.length := Nat.mod_lt _ (by omega)
    have t1 := mod_nat b s.huts.length
    have t2 := mod_nat c s.water.length
    have w0 : IntKind.i64.wrap (b : Int) = b := wrap_id (by omega) (by omega)
    have w1 : IntKind.i64.wrap (c : Int) = c := wrap_id (by omega) (by omega)
    generalize b % s.huts.length = n at *
    generalize c % s.water.length = r at *
    simp only [go_sem, Nat.reduceEqDiff, Nat.reduceAdd, Nat.reduceSub, Nat.reduceMul, Nat.reduceLT, Nat.reduceLeDiff, Nat.reduceMod, Nat.reduceDiv, Int.reduceToNat, Int.reduceLT, Int.reduceLE, Bool.not_true, Bool.not_false, reduceIte, Int.reduceEq, Int.reduceBEq, Int.reduceBNe, Int.reduceGT, Int.reduceGE, Int.reduceNeg, Int.reduceAdd, Int.reduceSub, Nat.reduceBEq, decide_true, decide_false, undef, beq_self_eq_true, bne_self_eq_false, Bool.and_true, Bool.true_and, Bool.and_false, Bool.false_and, Bool.or_true, Bool.true_or, Bool.or_false, Bool.false_or, undef, h1, List.length_map, n0, n1, t1, t2, w0, w1]
    repeat' (first | refine AndL.mk ?_ ?_ | refine ⟨⟨by unfold maxLen; omega, by omega⟩, ?_⟩ | simp only [go_sem, Nat.reduceEqDiff, Nat.reduceAdd, Nat.reduceSub, Nat.reduceMul, Nat.reduceLT, Nat.reduceLeDiff, Nat.reduceMod, Nat.reduceDiv, Int.reduceToNat, Int.reduceLT, Int.reduceLE, Bool.not_true, Bool.not_false, reduceIte, Int.reduceEq, Int.reduceBEq, Int.reduceBNe, Int.reduceGT, Int.reduceGE, Int.reduceNeg, Int.reduceAdd, Int.reduceSub, Nat.reduceBEq, decide_true, decide_false, undef, beq_self_eq_true, bne_self_eq_false, Bool.and_true, Bool.true_and, Bool.and_false, Bool.false_and, Bool.or_true, Bool.true_or, Bool.or_false, Bool.false_or, undef, List.length_map])
    all_goals
      first
      | refine awpL_gcpE [0, 1, 2, 3, 4] [1, 4, 5, 11, 12, 13] (moSt s n r a d) (St.gc_mk rfl (by
          show [AO.cells _, AO.cells _, AO.row 2 ((List.map E.t _).map (E.gc _ _ _)), AO.row 2 ((List.map E.t _).map (E.gc _ _ _)), AO.row 3 ((List.map E.t _).map (E.gc _ _ _))] = _
          rw [gc_row, gc_row, gc_row]
          rfl) rfl rfl) rfl rfl ?_
      | refine awpL_gcpE [0, 1, 2, 4, 3] [1, 4, 5, 11, 12, 13] (moSt s n r a d) (St.gc_mk rfl (by
          show [AO.cells _, AO.cells _, AO.row 2 ((List.map E.t _).map (E.gc _ _ _)), AO.row 2 ((List.map E.t _).map (E.gc _ _ _)), AO.row 3 ((List.map E.t _).map (E.gc _ _ _))] = _
          rw [gc_row, gc_row, gc_row]
          rfl) rfl rfl) rfl rfl ?_
      | refine awpL_gcpE [0, 1, 3, 2, 4] [1, 4, 5, 11, 12, 13] (moSt s n r a d) (St.gc_mk rfl (by
          show [AO.cells _, AO.cells _, AO.row 2 ((List.map E.t _).map (E.gc _ _ _)), AO.row 2 ((List.map E.t _).map (E.gc _ _ _)), AO.row 3 ((List.map E.t _).map (E.gc _ _ _))] = _
          rw [gc_row, gc_row, gc_row]
          rfl) rfl rfl) rfl rfl ?_
      | refine awpL_gcpE [0, 1, 3, 4, 2] [1, 4, 5, 11, 12, 13] (moSt s n r a d) (St.gc_mk rfl (by
          show [AO.cells _, AO.cells _, AO.row 2 ((List.map E.t _).map (E.gc _ _ _)), AO.row 2 ((List.map E.t _).map (E.gc _ _ _)), AO.row 3 ((List.map E.t _).map (E.gc _ _ _))] = _
          rw [gc_row, gc_row, gc_row]
          rfl) rfl rfl) rfl rfl ?_
      | refine awpL_gcpE [0, 1, 4, 2, 3] [1, 4, 5, 11, 12, 13] (moSt s n r a d) (St.gc_mk rfl (by
          show [AO.cells _, AO.cells _, AO.row 2 ((List.map E.t _).map (E.gc _ _ _)), AO.row 2 ((List.map E.t _).map (E.gc _ _ _)), AO.row 3 ((List.map E.t _).map (E.gc _ _ _))] = _
          rw [gc_row, gc_row, gc_row]
          rfl) rfl rfl) rfl rfl ?_
      | refine awpL_gcpE [0, 1, 4, 3, 2] [1, 4, 5, 11, 12, 13] (moSt s n r a d) (St.gc_mk rfl (by
          show [AO.cells _, AO.cells _, AO.row 2 ((List.map E.t _).map (E.gc _ _ _)), AO.row 2 ((List.map E.t _).map (E.gc _ _ _)), AO.row 3 ((List.map E.t _).map (E.gc _ _ _))] = _
          rw [gc_row, gc_row, gc_row]
          rfl) rfl rfl) rfl rfl ?_
    all_goals
      unfold moSt
      simp only [go_sem, Nat.reduceEqDiff, Nat.reduceAdd, Nat.reduceSub, Nat.reduceMul, Nat.reduceLT, Nat.reduceLeDiff, Nat.reduceMod, Nat.reduceDiv, Int.reduceToNat, Int.reduceLT, Int.reduceLE, Bool.not_true, Bool.not_false, reduceIte, Int.reduceEq, Int.reduceBEq, Int.reduceBNe, Int.reduceGT, Int.reduceGE, Int.reduceNeg, Int.reduceAdd, Int.reduceSub, Nat.reduceBEq, decide_true, decide_false, undef, beq_self_eq_true, bne_self_eq_false, Bool.and_true, Bool.true_and, Bool.and_false, Bool.false_and, Bool.or_true, Bool.true_or, Bool.or_false, Bool.false_or, undef]
      exact ⟨hs, n, r, q0, q1, rfl, rfl, rfl, rfl, rfl, rfl, rfl, rfl, rfl, rfl⟩
  rintro ⟨env, σ, df, k⟩ ⟨hs, n, r, hn, hr, q1, q4, q5, q11, q12, q13, q14, hσ, hdf, hk⟩
  simp only at q1 q4 q5 q11 q12 q13 q14 hσ hdf hk
  subst hσ hdf hk
  have hnh := hs.nh
  have hnw := hs.nw
  have hnv := hs.nv
  have hx := moreX_OK hs (a % 4) hn hr
  have hS := fun i h => moreX_safer hs n r (a % 4) (i := i) (h := h)
  have hlx := moreX_huts s n r (a % 4)
  refine awpL_chop 1 (c1 := ?b1) (c2 := ?b2) (MoMid2 s (moreX s n r (a % 4)) d) ?hc2 ?_ ?_
  case hc2 => simp only [chop]; rfl
  · have t4 : (a : Int).tmod 4 = ((a % 4 : Nat) : Int) := mod_nat a 4
    have hm : a % 4 < 4 := Nat.mod_lt _ (by omega)
    have n4 : ¬ ((4 : Int) = 0) := by omega
    clear hS hx hlx
    have hxw : s.water[r]? = some (s.water.getD r (0, 0)) := by rw [List.getD_eq_getElem?_getD, List.getElem?_eq_getElem hr]; rfl
    have hyw : s.waves[r]? = some (s.waves.getD r (0, 0)) := by rw [List.getD_eq_getElem?_getD, List.getElem?_eq_getElem (by omega)]; rfl
    have hg := hut_get hn
    have hh := hs.huts _ (List.mem_of_getElem? hg)
    have d1 := down_ok _ (hs.water _ (List.mem_of_getElem? hxw)) (by omega)
    have d2 := down_ok _ (hs.waves _ (List.mem_of_getElem? hyw)) (by omega)
    have hset : ∀ (l : List Sp) (y : Sp), ((l.map tSp).map E.t).set r (.t (tSp y)) = ((l.set r y).map tSp).map E.t := fun l y => by rw [List.map_set, List.map_set]
    have hsetH : ∀ (l : List Hu) (y : Hu), ((l.map tHu).map E.t).set n (.t (tHu y)) = ((l.set n y).map tHu).map E.t := fun l y => by rw [List.map_set, List.map_set]
    have hrr : (r : Int) < s.water.length := by omega
    have hrv : (r : Int) < s.waves.length := by omega
    have hnn : (n : Int) < s.huts.length := by omega
    unfold moreX
    simp only [go_sem, Nat.reduceEqDiff, Nat.reduceAdd, Nat.reduceSub, Nat.reduceMul, Nat.reduceLT, Nat.reduceLeDiff, Nat.reduceMod, Nat.reduceDiv, Int.reduceToNat, Int.reduceLT, Int.reduceLE, Bool.not_true, Bool.not_false, reduceIte, Int.reduceEq, Int.reduceBEq, Int.reduceBNe, Int.reduceGT, Int.reduceGE, Int.reduceNeg, Int.reduceAdd, Int.reduceSub, Nat.reduceBEq, decide_true, decide_false, undef, beq_self_eq_true, bne_self_eq_false, Bool.and_true, Bool.true_and, Bool.and_false, Bool.false_and, Bool.or_true, Bool.true_or, Bool.or_false, Bool.false_or, undef, q1, t4, n4]
    generalize a % 4 = w at *
    generalize s.water.getD r (0, 0) = x at *
    generalize s.waves.getD r (0, 0) = y at *
    generalize s.huts.getD n ⟨0, 0, 0⟩ = h at *
    rcases w with _ | _ | _ | _ | w
    · have hset := hset s.water (downS x)
      obtain ⟨l, u⟩ := x
      simp only [tSp] at d1 hset
      simp only [su5, go_sem, Nat.reduceEqDiff, Nat.reduceAdd, Nat.reduceSub, Nat.reduceMul, Nat.reduceLT, Nat.reduceLeDiff, Nat.reduceMod, Nat.reduceDiv, Int.reduceToNat, Int.reduceLT, Int.reduceLE, Bool.not_true, Bool.not_false, reduceIte, Int.reduceEq, Int.reduceBEq, Int.reduceBNe, Int.reduceGT, Int.reduceGE, Int.reduceNeg, Int.reduceAdd, Int.reduceSub, Nat.reduceBEq, decide_true, decide_false, undef, beq_self_eq_true, bne_self_eq_false, Bool.and_true, Bool.true_and, Bool.and_false, Bool.false_and, Bool.or_true, Bool.true_or, Bool.or_false, Bool.false_or, undef, q1, q4, q5, q11, q12, q13, q14, t4, n4, List.length_map, List.getElem?_map, hxw, Option.map_some, Nat.mul_one, hrr, tSp]
      refine ACallL.fresh1 d1 rfl ?_
      simp only [su5, go_sem, Nat.reduceEqDiff, Nat.reduceAdd, Nat.reduceSub, Nat.reduceMul, Nat.reduceLT, Nat.reduceLeDiff, Nat.reduceMod, Nat.reduceDiv, Int.reduceToNat, Int.reduceLT, Int.reduceLE, Bool.not_true, Bool.not_false, reduceIte, Int.reduceEq, Int.reduceBEq, Int.reduceBNe, Int.reduceGT, Int.reduceGE, Int.reduceNeg, Int.reduceAdd, Int.reduceSub, Nat.reduceBEq, decide_true, decide_false, undef, beq_self_eq_true, bne_self_eq_false, Bool.and_true, Bool.true_and, Bool.and_false, Bool.false_and, Bool.or_true, Bool.true_or, Bool.or_false, Bool.false_or, undef, q1, q4, q5, q11, q12, q13, q14, t4, n4, List.length_map, List.getElem?_map, hxw, Option.map_some, Nat.mul_one, hrr, tSp, hset]
      refine ⟨q4, q5, q13, ?_, rfl, rfl⟩
      unfold xCells xRows
      simp only [List.length_set]
      rfl
    · have hset := hset s.waves (downS y)
      obtain ⟨l, u⟩ := y
      simp only [tSp] at d2 hset
      simp only [su5, go_sem, Nat.reduceEqDiff, Nat.reduceAdd, Nat.reduceSub, Nat.reduceMul, Nat.reduceLT, Nat.reduceLeDiff, Nat.reduceMod, Nat.reduceDiv, Int.reduceToNat, Int.reduceLT, Int.reduceLE, Bool.not_true, Bool.not_false, reduceIte, Int.reduceEq, Int.reduceBEq, Int.reduceBNe, Int.reduceGT, Int.reduceGE, Int.reduceNeg, Int.reduceAdd, Int.reduceSub, Nat.reduceBEq, decide_true, decide_false, undef, beq_self_eq_true, bne_self_eq_false, Bool.and_true, Bool.true_and, Bool.and_false, Bool.false_and, Bool.or_true, Bool.true_or, Bool.or_false, Bool.false_or, undef, q1, q4, q5, q11, q12, q13, q14, t4, n4, List.length_map, List.getElem?_map, hyw, Option.map_some, Nat.mul_one, hrv, tSp]
      refine ACallL.fresh1 d2 rfl ?_
      simp only [su5, go_sem, Nat.reduceEqDiff, Nat.reduceAdd, Nat.reduceSub, Nat.reduceMul, Nat.reduceLT, Nat.reduceLeDiff, Nat.reduceMod, Nat.reduceDiv, Int.reduceToNat, Int.reduceLT, Int.reduceLE, Bool.not_true, Bool.not_false, reduceIte, Int.reduceEq, Int.reduceBEq, Int.reduceBNe, Int.reduceGT, Int.reduceGE, Int.reduceNeg, Int.reduceAdd, Int.reduceSub, Nat.reduceBEq, decide_true, decide_false, undef, beq_self_eq_true, bne_self_eq_false, Bool.and_true, Bool.true_and, Bool.and_false, Bool.false_and, Bool.or_true, Bool.true_or, Bool.or_false, Bool.false_or, undef, q1, q4, q5, q11, q12, q13, q14, t4, n4, List.length_map, List.getElem?_map, hyw, Option.map_some, Nat.mul_one, hrv, tSp, hset]
      refine ⟨q4, q5, q13, ?_, rfl, rfl⟩
      unfold xCells xRows
      simp only [List.length_set]
      rfl
    · have hset := hsetH s.huts (upF h)
      obtain ⟨hf, hb, hrw⟩ := h
      unfold Hu.OK at hh
      simp only at hh
      have a1 : IntKind.i64.wrap (hf + 1) = hf + 1 := wrap_id (by omega) (by omega)
      simp only [tHu, upF] at hset
      simp only [su5, go_sem, Nat.reduceEqDiff, Nat.reduceAdd, Nat.reduceSub, Nat.reduceMul, Nat.reduceLT, Nat.reduceLeDiff, Nat.reduceMod, Nat.reduceDiv, Int.reduceToNat, Int.reduceLT, Int.reduceLE, Bool.not_true, Bool.not_false, reduceIte, Int.reduceEq, Int.reduceBEq, Int.reduceBNe, Int.reduceGT, Int.reduceGE, Int.reduceNeg, Int.reduceAdd, Int.reduceSub, Nat.reduceBEq, decide_true, decide_false, undef, beq_self_eq_true, bne_self_eq_false, Bool.and_true, Bool.true_and, Bool.and_false, Bool.false_and, Bool.or_true, Bool.true_or, Bool.or_false, Bool.false_or, undef, q1, q4, q5, q11, q12, q13, q14, t4, n4, List.length_map, List.getElem?_map, hg, Option.map_some, Nat.mul_one, hnn, tHu, a1, hset, List.length_set]
      refine ⟨q4, q5, q13, ?_, rfl, rfl⟩
      unfold xCells xRows upF
      simp only [List.length_set]
      rfl
    · have hset := hsetH s.huts (upB h)
      obtain ⟨hf, hb, hrw⟩ := h
      unfold Hu.OK at hh
      simp only at hh
      have a1 : IntKind.i64.wrap (hb + 1) = hb + 1 := wrap_id (by omega) (by omega)
      simp only [tHu, upB] at hset
      simp only [su5, go_sem, Nat.reduceEqDiff, Nat.reduceAdd, Nat.reduceSub, Nat.reduceMul, Nat.reduceLT, Nat.reduceLeDiff, Nat.reduceMod, Nat.reduceDiv, Int.reduceToNat, Int.reduceLT, Int.reduceLE, Bool.not_true, Bool.not_false, reduceIte, Int.reduceEq, Int.reduceBEq, Int.reduceBNe, Int.reduceGT, Int.reduceGE, Int.reduceNeg, Int.reduceAdd, Int.reduceSub, Nat.reduceBEq, decide_true, decide_false, undef, beq_self_eq_true, bne_self_eq_false, Bool.and_true, Bool.true_and, Bool.and_false, Bool.false_and, Bool.or_true, Bool.true_or, Bool.or_false, Bool.false_or, undef, q1, q4, q5, q11, q12, q13, q14, t4, n4, List.length_map, List.getElem?_map, hg, Option.map_some, Nat.mul_one, hnn, tHu, a1, hset, List.length_set]
      refine ⟨q4, q5, q13, ?_, rfl, rfl⟩
      unfold xCells xRows upB
      simp only [List.length_set]
      rfl
    · omega
  have hhm := moreX_huts s n r (a % 4)
  generalize moreX s n r (a % 4) = x at *
  rintro ⟨env, σ, df, k⟩ ⟨q4, q5, q13, hσ, hdf, hk⟩
  simp only at q4 q5 q13 hσ hdf hk
  subst hσ hdf hk
  have hLx : Lens x := ⟨by have := hx.nw; omega, by have := hx.nw; have := hx.nv; omega, by have := hx.nh; omega⟩
  simp only [go_sem, Nat.reduceEqDiff, Nat.reduceAdd, Nat.reduceSub, Nat.reduceMul, Nat.reduceLT, Nat.reduceLeDiff, Nat.reduceMod, Nat.reduceDiv, Int.reduceToNat, Int.reduceLT, Int.reduceLE, Bool.not_true, Bool.not_false, reduceIte, Int.reduceEq, Int.reduceBEq, Int.reduceBNe, Int.reduceGT, Int.reduceGE, Int.reduceNeg, Int.reduceAdd, Int.reduceSub, Nat.reduceBEq, decide_true, decide_false, undef, beq_self_eq_true, bne_self_eq_false, Bool.and_true, Bool.true_and, Bool.and_false, Bool.false_and, Bool.or_true, Bool.true_or, Bool.or_false, Bool.false_or, undef]
  refine awpL_gcpE [0] [4, 5, 13] { env := [(4, .t (.lit (.int .u8 d))), (5, .ptr 0 0), (13, .t (.ptr (.agg (su5 x)) 0))], σ := [.cells ((su5 s).map .t)], df := [], k := 0 } (St.gc_mk (by
    simp only [List.map_cons, List.map_nil, lk, Nat.reduceEqDiff, reduceIte, q4, q5, q13]
    rw [gc_x]
    rfl) rfl rfl rfl) rfl rfl ?_
  simp only [su5, go_sem, Nat.reduceEqDiff, Nat.reduceAdd, Nat.reduceSub, Nat.reduceMul, Nat.reduceLT, Nat.reduceLeDiff, Nat.reduceMod, Nat.reduceDiv, Int.reduceToNat, Int.reduceLT, Int.reduceLE, Bool.not_true, Bool.not_false, reduceIte, Int.reduceEq, Int.reduceBEq, Int.reduceBNe, Int.reduceGT, Int.reduceGE, Int.reduceNeg, Int.reduceAdd, Int.reduceSub, Nat.reduceBEq, decide_true, decide_false, undef, beq_self_eq_true, bne_self_eq_false, Bool.and_true, Bool.true_and, Bool.and_false, Bool.false_and, Bool.or_true, Bool.true_or, Bool.or_false, Bool.false_or, undef, List.length_map]
  refine awpL_for (i := 135) (L := 134) s.huts.length (fun j st => st = { env := [(135, .t (vi j)), (134, .t (vi s.huts.length)), (4, .t (.lit (.int .u8 d))), (5, .ptr 0 0), (13, .t (.ptr (.agg (su5 x)) 0))], σ := [.cells ((su5 s).map .t)] }) ?_ ⟨_, Sub.gc [0] [135, 134, 4, 5, 13] rfl rfl, rfl⟩ ?_ ?_
  · rintro k st rfl; exact ⟨rfl, rfl⟩
  · rintro j st hj rfl
    have hwj : IntKind.i64.wrap ((j : Int) + 1) = ((j + 1 : Nat) : Int) := by rw [wrap_id (by omega) (by omega)]; omega
    have hg := hut_get hj
    obtain ⟨g, hg', S⟩ := hS j _ hg
    generalize s.huts.getD j ⟨0, 0, 0⟩ = h at *
    have h21 := Lost_ok s hs j _ hg
    have h21' := Lost_ok x hx j _ hg'
    have h23 := Before_ok s hs j _ hg
    have h23' := Before_ok x hx j _ hg'
    have l1 : decide (lostN (logS x g x.water.length) > lostN (logS s h s.water.length)) = false := by have := lost_safe S; simpa using this
    have b1 := before_safe S
    generalize lostN (logS x g x.water.length) = L1 at *
    generalize lostN (logS s h s.water.length) = L2 at *
    generalize specBefore x g = B1 at *
    generalize specBefore s h = B2 at *
    obtain ⟨b11, b12⟩ := B1
    obtain ⟨b21, b22⟩ := B2
    simp only at b1
    simp only [su5, oneE] at h21 h21' h23 h23'
    simp only [su5, go_sem, Nat.reduceEqDiff, Nat.reduceAdd, Nat.reduceSub, Nat.reduceMul, Nat.reduceLT, Nat.reduceLeDiff, Nat.reduceMod, Nat.reduceDiv, Int.reduceToNat, Int.reduceLT, Int.reduceLE, Bool.not_true, Bool.not_false, reduceIte, Int.reduceEq, Int.reduceBEq, Int.reduceBNe, Int.reduceGT, Int.reduceGE, Int.reduceNeg, Int.reduceAdd, Int.reduceSub, Nat.reduceBEq, decide_true, decide_false, undef, beq_self_eq_true, bne_self_eq_false, Bool.and_true, Bool.true_and, Bool.and_false, Bool.false_and, Bool.or_true, Bool.true_or, Bool.or_false, Bool.false_or, undef]
    refine ACallL.fresh1 h21 rfl ?_
    simp only [su5, go_sem, Nat.reduceEqDiff, Nat.reduceAdd, Nat.reduceSub, Nat.reduceMul, Nat.reduceLT, Nat.reduceLeDiff, Nat.reduceMod, Nat.reduceDiv, Int.reduceToNat, Int.reduceLT, Int.reduceLE, Bool.not_true, Bool.not_false, reduceIte, Int.reduceEq, Int.reduceBEq, Int.reduceBNe, Int.reduceGT, Int.reduceGE, Int.reduceNeg, Int.reduceAdd, Int.reduceSub, Nat.reduceBEq, decide_true, decide_false, undef, beq_self_eq_true, bne_self_eq_false, Bool.and_true, Bool.true_and, Bool.and_false, Bool.false_and, Bool.or_true, Bool.true_or, Bool.or_false, Bool.false_or, undef]
    refine ACallL.fresh1 h21' rfl ?_
    simp only [su5, go_sem, Nat.reduceEqDiff, Nat.reduceAdd, Nat.reduceSub, Nat.reduceMul, Nat.reduceLT, Nat.reduceLeDiff, Nat.reduceMod, Nat.reduceDiv, Int.reduceToNat, Int.reduceLT, Int.reduceLE, Bool.not_true, Bool.not_false, reduceIte, Int.reduceEq, Int.reduceBEq, Int.reduceBNe, Int.reduceGT, Int.reduceGE, Int.reduceNeg, Int.reduceAdd, Int.reduceSub, Nat.reduceBEq, decide_true, decide_false, undef, beq_self_eq_true, bne_self_eq_false, Bool.and_true, Bool.true_and, Bool.and_false, Bool.false_and, Bool.or_true, Bool.true_or, Bool.or_false, Bool.false_or, undef]
    refine ACallL.fresh1 h23 rfl ?_
    simp only [su5, go_sem, Nat.reduceEqDiff, Nat.reduceAdd, Nat.reduceSub, Nat.reduceMul, Nat.reduceLT, Nat.reduceLeDiff, Nat.reduceMod, Nat.reduceDiv, Int.reduceToNat, Int.reduceLT, Int.reduceLE, Bool.not_true, Bool.not_false, reduceIte, Int.reduceEq, Int.reduceBEq, Int.reduceBNe, Int.reduceGT, Int.reduceGE, Int.reduceNeg, Int.reduceAdd, Int.reduceSub, Nat.reduceBEq, decide_true, decide_false, undef, beq_self_eq_true, bne_self_eq_false, Bool.and_true, Bool.true_and, Bool.and_false, Bool.false_and, Bool.or_true, Bool.true_or, Bool.or_false, Bool.false_or, undef]
    refine ACallL.fresh1 h23' rfl ?_
    rcases b1 with rfl | ⟨rfl, rfl, b1⟩
    · simp only [su5, go_sem, Nat.reduceEqDiff, Nat.reduceAdd, Nat.reduceSub, Nat.reduceMul, Nat.reduceLT, Nat.reduceLeDiff, Nat.reduceMod, Nat.reduceDiv, Int.reduceToNat, Int.reduceLT, Int.reduceLE, Bool.not_true, Bool.not_false, reduceIte, Int.reduceEq, Int.reduceBEq, Int.reduceBNe, Int.reduceGT, Int.reduceGE, Int.reduceNeg, Int.reduceAdd, Int.reduceSub, Nat.reduceBEq, decide_true, decide_false, undef, beq_self_eq_true, bne_self_eq_false, Bool.and_true, Bool.true_and, Bool.and_false, Bool.false_and, Bool.or_true, Bool.true_or, Bool.or_false, Bool.false_or, undef, l1, hwj]
      exact ⟨_, Sub.gc [0] [135, 134, 4, 5, 13] rfl rfl, rfl⟩
    · have l2 : decide (b11 < b21) = false := by simpa using b1
      simp only [su5, go_sem, Nat.reduceEqDiff, Nat.reduceAdd, Nat.reduceSub, Nat.reduceMul, Nat.reduceLT, Nat.reduceLeDiff, Nat.reduceMod, Nat.reduceDiv, Int.reduceToNat, Int.reduceLT, Int.reduceLE, Bool.not_true, Bool.not_false, reduceIte, Int.reduceEq, Int.reduceBEq, Int.reduceBNe, Int.reduceGT, Int.reduceGE, Int.reduceNeg, Int.reduceAdd, Int.reduceSub, Nat.reduceBEq, decide_true, decide_false, undef, beq_self_eq_true, bne_self_eq_false, Bool.and_true, Bool.true_and, Bool.and_false, Bool.false_and, Bool.or_true, Bool.true_or, Bool.or_false, Bool.false_or, undef, l1, l2, hwj]
      exact ⟨_, Sub.gc [0] [135, 134, 4, 5, 13] rfl rfl, rfl⟩
  · rintro st rfl
    have t1 : (d : Int).tmod 6 = ((d % 6 : Nat) : Int) := mod_nat d 6
    have hm6 : d % 6 < 6 := Nat.mod_lt _ (by omega)
    have n6 : ¬ ((6 : Int) = 0) := by omega
    have w0 : IntKind.i64.wrap (d : Int) = d := wrap_id (by omega) (by omega)
    generalize d % 6 = m at *
    obtain ⟨l, p, l', q, hsv, hsx, hle, hp, hq⟩ := save_safer hs hx (many := (m : Int)) (by omega) hhm hS
    have hwi : wI (m : Int) 0 5 = true := by unfold wI; simp; omega
    have h30 := Save_ok s hL (m : Int)
    unfold specSave at h30
    rw [s.ok_iff.2 hs, if_pos rfl, hsv, hwi, if_pos rfl] at h30
    have h30' := Save_ok x hLx (m : Int)
    unfold specSave at h30'
    rw [x.ok_iff.2 hx, if_pos rfl, hsx, hwi, if_pos rfl] at h30'
    have h39 := rsize_ok p (by omega)
    have h39' := rsize_ok q (by omega)
    have l1 : decide (((size q : Nat) : Int) ≤ ((size p : Nat) : Int)) = true := by simpa using hle
    have p0 : decide (((p : Nat) : Int) ≥ 0) = true := by simp
    have q0 : decide (((q : Nat) : Int) ≥ 0) = true := by simp
    simp only [saveT] at h30 h30'
    unfold su5 at h30 h30'
    simp only [su5, go_sem, Nat.reduceEqDiff, Nat.reduceAdd, Nat.reduceSub, Nat.reduceMul, Nat.reduceLT, Nat.reduceLeDiff, Nat.reduceMod, Nat.reduceDiv, Int.reduceToNat, Int.reduceLT, Int.reduceLE, Bool.not_true, Bool.not_false, reduceIte, Int.reduceEq, Int.reduceBEq, Int.reduceBNe, Int.reduceGT, Int.reduceGE, Int.reduceNeg, Int.reduceAdd, Int.reduceSub, Nat.reduceBEq, decide_true, decide_false, undef, beq_self_eq_true, bne_self_eq_false, Bool.and_true, Bool.true_and, Bool.and_false, Bool.false_and, Bool.or_true, Bool.true_or, Bool.or_false, Bool.false_or, undef, w0, t1, n6]
    refine ACallL.fresh1 h30 rfl ?_
    simp only [su5, go_sem, Nat.reduceEqDiff, Nat.reduceAdd, Nat.reduceSub, Nat.reduceMul, Nat.reduceLT, Nat.reduceLeDiff, Nat.reduceMod, Nat.reduceDiv, Int.reduceToNat, Int.reduceLT, Int.reduceLE, Bool.not_true, Bool.not_false, reduceIte, Int.reduceEq, Int.reduceBEq, Int.reduceBNe, Int.reduceGT, Int.reduceGE, Int.reduceNeg, Int.reduceAdd, Int.reduceSub, Nat.reduceBEq, decide_true, decide_false, undef, beq_self_eq_true, bne_self_eq_false, Bool.and_true, Bool.true_and, Bool.and_false, Bool.false_and, Bool.or_true, Bool.true_or, Bool.or_false, Bool.false_or, undef, w0, t1, n6]
    refine ACallL.fresh1 h30' rfl ?_
    simp only [su5, go_sem, Nat.reduceEqDiff, Nat.reduceAdd, Nat.reduceSub, Nat.reduceMul, Nat.reduceLT, Nat.reduceLeDiff, Nat.reduceMod, Nat.reduceDiv, Int.reduceToNat, Int.reduceLT, Int.reduceLE, Bool.not_true, Bool.not_false, reduceIte, Int.reduceEq, Int.reduceBEq, Int.reduceBNe, Int.reduceGT, Int.reduceGE, Int.reduceNeg, Int.reduceAdd, Int.reduceSub, Nat.reduceBEq, decide_true, decide_false, undef, beq_self_eq_true, bne_self_eq_false, Bool.and_true, Bool.true_and, Bool.and_false, Bool.false_and, Bool.or_true, Bool.true_or, Bool.or_false, Bool.false_or, undef, p0, q0]
    refine ACallL.fresh1 h39' rfl ?_
    simp only [su5, go_sem, Nat.reduceEqDiff, Nat.reduceAdd, Nat.reduceSub, Nat.reduceMul, Nat.reduceLT, Nat.reduceLeDiff, Nat.reduceMod, Nat.reduceDiv, Int.reduceToNat, Int.reduceLT, Int.reduceLE, Bool.not_true, Bool.not_false, reduceIte, Int.reduceEq, Int.reduceBEq, Int.reduceBNe, Int.reduceGT, Int.reduceGE, Int.reduceNeg, Int.reduceAdd, Int.reduceSub, Nat.reduceBEq, decide_true, decide_false, undef, beq_self_eq_true, bne_self_eq_false, Bool.and_true, Bool.true_and, Bool.and_false, Bool.false_and, Bool.or_true, Bool.true_or, Bool.or_false, Bool.false_or, undef, p0, q0]
    refine ACallL.fresh1 h39 rfl ?_
    simp only [su5, go_sem, Nat.reduceEqDiff, Nat.reduceAdd, Nat.reduceSub, Nat.reduceMul, Nat.reduceLT, Nat.reduceLeDiff, Nat.reduceMod, Nat.reduceDiv, Int.reduceToNat, Int.reduceLT, Int.reduceLE, Bool.not_true, Bool.not_false, reduceIte, Int.reduceEq, Int.reduceBEq, Int.reduceBNe, Int.reduceGT, Int.reduceGE, Int.reduceNeg, Int.reduceAdd, Int.reduceSub, Nat.reduceBEq, decide_true, decide_false, undef, beq_self_eq_true, bne_self_eq_false, Bool.and_true, Bool.true_and, Bool.and_false, Bool.false_and, Bool.or_true, Bool.true_or, Bool.or_false, Bool.false_or, undef, p0, q0, l1]
    refine ACallL.quiet1 awake_ok rfl rfl rfl ?_
    simp only [go_sem, Nat.reduceEqDiff, Nat.reduceAdd, Nat.reduceSub, Nat.reduceMul, Nat.reduceLT, Nat.reduceLeDiff, Nat.reduceMod, Nat.reduceDiv, Int.reduceToNat, Int.reduceLT, Int.reduceLE, Bool.not_true, Bool.not_false, reduceIte, Int.reduceEq, Int.reduceBEq, Int.reduceBNe, Int.reduceGT, Int.reduceGE, Int.reduceNeg, Int.reduceAdd, Int.reduceSub, Nat.reduceBEq, decide_true, decide_false, undef, beq_self_eq_true, bne_self_eq_false, Bool.and_true, Bool.true_and, Bool.and_false, Bool.false_and, Bool.or_true, Bool.true_or, Bool.or_false, Bool.false_or, undef]
    exact finL_ret [] ⟨rfl, rfl, rfl, rfl, _, rfl, res_mk rfl⟩
end Go.Proofs.YtmahocdmkpigjaaDoor
