/- Proved here: laws that the statements need (WaC39, WaY2, WaY3). No conditions but those that each law states. -/
import Derived.Test.YtnmmhkkmejbckaaDoorFL
import Derived.Test.YtnmmhkkmejbckaaDoorFP
import Derived.Test.YtnmmhkkmejbckaaDoorProg
import Derived.Test.YtnmmhkkmejbckaaDoorES

set_option linter.unusedSimpArgs false
set_option linter.unusedVariables false

/- Compiled code of functions, printed by program; each is checked to be the program's. No conditions. -/
namespace Go.Proofs.YtnmmhkkmejbckaaDoor
open Go Go.Ab
/-- dipworks/dipworkslaw07.WatchMore -/
def c9 : AC :=
 .seq (.reg [⟨(some 4), none, .box (.tmp 0)⟩,
 ⟨(some 5), none, .box (.tmp 1)⟩,
 ⟨(some 6), none, .box (.tmp 2)⟩,
 ⟨(some 8), none, .mov (.lit (.bool false))⟩])
 (.seq (.seq (.reg [⟨(some 46), none, .load true 2 (.tmp 4)⟩,
 ⟨(some 47), none, .call (.fn 26) [(.tmp 46)]⟩,
 ⟨(some 48), none, .mov (.tmp 47)⟩,
 ⟨(some 49), (some (48, false)), .load true 2 (.tmp 4)⟩,
 ⟨(some 50), (some (48, false)), .call (.fn 27) [(.tmp 49)]⟩,
 ⟨(some 51), (some (48, false)), .un .not (.tmp 50)⟩,
 ⟨(some 52), none, .pick (.tmp 48) (.lit (.bool true)) (.tmp 51)⟩,
 ⟨(some 53), none, .mov (.tmp 52)⟩,
 ⟨(some 54), (some (53, false)), .faddr 1 (.tmp 4)⟩,
 ⟨(some 55), (some (53, false)), .load false 1 (.tmp 54)⟩,
 ⟨(some 56), (some (53, false)), .len (.tmp 55)⟩,
 ⟨(some 57), (some (53, false)), .bin .eql (.tmp 56) (.lit (.int .i64 0))⟩,
 ⟨(some 58), none, .pick (.tmp 53) (.lit (.bool true)) (.tmp 57)⟩])
 (.cond (.tmp 58) (.seq (.reg [⟨(some 59), none, .call (.fn 20) []⟩,
 ⟨(some 8), none, .mov (.tmp 59)⟩])
 (.ret))
 (.skip)))
 (.seq (.reg [⟨(some 60), none, .mov (.tmp 3)⟩,
 ⟨(some 61), none, .conv .i64 (.tmp 60)⟩,
 ⟨(some 62), none, .faddr 1 (.tmp 4)⟩,
 ⟨(some 63), none, .load false 1 (.tmp 62)⟩,
 ⟨(some 64), none, .len (.tmp 63)⟩,
 ⟨(some 65), none, .bin .rem (.tmp 61) (.tmp 64)⟩,
 ⟨(some 9), none, .mov (.tmp 65)⟩])
 (.seq (.draw (.step ⟨(some 66), none, .load true 2 (.tmp 4)⟩ (
 .step ⟨(some 67), none, .load true 2 (.tmp 4)⟩ (
 .step ⟨(some 68), none, .load true 2 (.tmp 4)⟩ (
 .step ⟨(some 69), none, .load true 2 (.tmp 4)⟩ (
 .ev ⟨(some 10), none, .alloc [(.slice none 0 0), (.slice none 0 0)]⟩ [⟨(some 69), none, .load true 2 (.tmp 4)⟩, ⟨(some 68), none, .load true 2 (.tmp 4)⟩, ⟨(some 67), none, .load true 2 (.tmp 4)⟩, ⟨(some 66), none, .load true 2 (.tmp 4)⟩] (
 .ev ⟨(some 11), none, .alloc [(.slice none 0 0), (.slice none 0 0)]⟩ [⟨(some 69), none, .load true 2 (.tmp 4)⟩, ⟨(some 68), none, .load true 2 (.tmp 4)⟩, ⟨(some 67), none, .load true 2 (.tmp 4)⟩, ⟨(some 66), none, .load true 2 (.tmp 4)⟩] (
 .ev ⟨(some 12), none, .alloc [(.slice none 0 0), (.slice none 0 0)]⟩ [⟨(some 69), none, .load true 2 (.tmp 4)⟩, ⟨(some 68), none, .load true 2 (.tmp 4)⟩, ⟨(some 67), none, .load true 2 (.tmp 4)⟩, ⟨(some 66), none, .load true 2 (.tmp 4)⟩] (
 .ev ⟨(some 13), none, .alloc [(.slice none 0 0), (.slice none 0 0)]⟩ [⟨(some 69), none, .load true 2 (.tmp 4)⟩, ⟨(some 68), none, .load true 2 (.tmp 4)⟩, ⟨(some 67), none, .load true 2 (.tmp 4)⟩, ⟨(some 66), none, .load true 2 (.tmp 4)⟩] (
 .ev ⟨none, none, .store 2 (.tmp 10) (.tmp 66)⟩ [⟨(some 69), none, .load true 2 (.tmp 4)⟩, ⟨(some 68), none, .load true 2 (.tmp 4)⟩, ⟨(some 67), none, .load true 2 (.tmp 4)⟩] (
 .ev ⟨none, none, .store 2 (.tmp 11) (.tmp 67)⟩ [⟨(some 69), none, .load true 2 (.tmp 4)⟩, ⟨(some 68), none, .load true 2 (.tmp 4)⟩] (
 .ev ⟨none, none, .store 2 (.tmp 12) (.tmp 68)⟩ [⟨(some 69), none, .load true 2 (.tmp 4)⟩] (
 .ev ⟨none, none, .store 2 (.tmp 13) (.tmp 69)⟩ [] (
 .done)
 (.stop))
 (.stop))
 (.stop))
 (.stop))
 (.stop))
 (.ev ⟨(some 13), none, .alloc [(.slice none 0 0), (.slice none 0 0)]⟩ [⟨(some 69), none, .load true 2 (.tmp 4)⟩, ⟨(some 68), none, .load true 2 (.tmp 4)⟩, ⟨(some 67), none, .load true 2 (.tmp 4)⟩, ⟨(some 66), none, .load true 2 (.tmp 4)⟩] (
 .ev ⟨(some 12), none, .alloc [(.slice none 0 0), (.slice none 0 0)]⟩ [⟨(some 69), none, .load true 2 (.tmp 4)⟩, ⟨(some 68), none, .load true 2 (.tmp 4)⟩, ⟨(some 67), none, .load true 2 (.tmp 4)⟩, ⟨(some 66), none, .load true 2 (.tmp 4)⟩] (
 .ev ⟨none, none, .store 2 (.tmp 10) (.tmp 66)⟩ [⟨(some 69), none, .load true 2 (.tmp 4)⟩, ⟨(some 68), none, .load true 2 (.tmp 4)⟩, ⟨(some 67), none, .load true 2 (.tmp 4)⟩] (
 .ev ⟨none, none, .store 2 (.tmp 11) (.tmp 67)⟩ [⟨(some 69), none, .load true 2 (.tmp 4)⟩, ⟨(some 68), none, .load true 2 (.tmp 4)⟩] (
 .ev ⟨none, none, .store 2 (.tmp 12) (.tmp 68)⟩ [⟨(some 69), none, .load true 2 (.tmp 4)⟩] (
 .ev ⟨none, none, .store 2 (.tmp 13) (.tmp 69)⟩ [] (
 .done)
 (.stop))
 (.stop))
 (.stop))
 (.stop))
 (.stop))
 (.stop)))
 (.ev ⟨(some 12), none, .alloc [(.slice none 0 0), (.slice none 0 0)]⟩ [⟨(some 69), none, .load true 2 (.tmp 4)⟩, ⟨(some 68), none, .load true 2 (.tmp 4)⟩, ⟨(some 67), none, .load true 2 (.tmp 4)⟩, ⟨(some 66), none, .load true 2 (.tmp 4)⟩] (
 .ev ⟨(some 11), none, .alloc [(.slice none 0 0), (.slice none 0 0)]⟩ [⟨(some 69), none, .load true 2 (.tmp 4)⟩, ⟨(some 68), none, .load true 2 (.tmp 4)⟩, ⟨(some 67), none, .load true 2 (.tmp 4)⟩, ⟨(some 66), none, .load true 2 (.tmp 4)⟩] (
 .ev ⟨(some 13), none, .alloc [(.slice none 0 0), (.slice none 0 0)]⟩ [⟨(some 69), none, .load true 2 (.tmp 4)⟩, ⟨(some 68), none, .load true 2 (.tmp 4)⟩, ⟨(some 67), none, .load true 2 (.tmp 4)⟩, ⟨(some 66), none, .load true 2 (.tmp 4)⟩] (
 .ev ⟨none, none, .store 2 (.tmp 10) (.tmp 66)⟩ [⟨(some 69), none, .load true 2 (.tmp 4)⟩, ⟨(some 68), none, .load true 2 (.tmp 4)⟩, ⟨(some 67), none, .load true 2 (.tmp 4)⟩] (
 .ev ⟨none, none, .store 2 (.tmp 11) (.tmp 67)⟩ [⟨(some 69), none, .load true 2 (.tmp 4)⟩, ⟨(some 68), none, .load true 2 (.tmp 4)⟩] (
 .ev ⟨none, none, .store 2 (.tmp 12) (.tmp 68)⟩ [⟨(some 69), none, .load true 2 (.tmp 4)⟩] (
 .ev ⟨none, none, .store 2 (.tmp 13) (.tmp 69)⟩ [] (
 .done)
 (.stop))
 (.stop))
 (.stop))
 (.stop))
 (.stop))
 (.ev ⟨(some 13), none, .alloc [(.slice none 0 0), (.slice none 0 0)]⟩ [⟨(some 69), none, .load true 2 (.tmp 4)⟩, ⟨(some 68), none, .load true 2 (.tmp 4)⟩, ⟨(some 67), none, .load true 2 (.tmp 4)⟩, ⟨(some 66), none, .load true 2 (.tmp 4)⟩] (
 .ev ⟨(some 11), none, .alloc [(.slice none 0 0), (.slice none 0 0)]⟩ [⟨(some 69), none, .load true 2 (.tmp 4)⟩, ⟨(some 68), none, .load true 2 (.tmp 4)⟩, ⟨(some 67), none, .load true 2 (.tmp 4)⟩, ⟨(some 66), none, .load true 2 (.tmp 4)⟩] (
 .ev ⟨none, none, .store 2 (.tmp 10) (.tmp 66)⟩ [⟨(some 69), none, .load true 2 (.tmp 4)⟩, ⟨(some 68), none, .load true 2 (.tmp 4)⟩, ⟨(some 67), none, .load true 2 (.tmp 4)⟩] (
 .ev ⟨none, none, .store 2 (.tmp 11) (.tmp 67)⟩ [⟨(some 69), none, .load true 2 (.tmp 4)⟩, ⟨(some 68), none, .load true 2 (.tmp 4)⟩] (
 .ev ⟨none, none, .store 2 (.tmp 12) (.tmp 68)⟩ [⟨(some 69), none, .load true 2 (.tmp 4)⟩] (
 .ev ⟨none, none, .store 2 (.tmp 13) (.tmp 69)⟩ [] (
 .done)
 (.stop))
 (.stop))
 (.stop))
 (.stop))
 (.stop))
 (.stop)))
 (.ev ⟨(some 13), none, .alloc [(.slice none 0 0), (.slice none 0 0)]⟩ [⟨(some 69), none, .load true 2 (.tmp 4)⟩, ⟨(some 68), none, .load true 2 (.tmp 4)⟩, ⟨(some 67), none, .load true 2 (.tmp 4)⟩, ⟨(some 66), none, .load true 2 (.tmp 4)⟩] (
 .ev ⟨(some 11), none, .alloc [(.slice none 0 0), (.slice none 0 0)]⟩ [⟨(some 69), none, .load true 2 (.tmp 4)⟩, ⟨(some 68), none, .load true 2 (.tmp 4)⟩, ⟨(some 67), none, .load true 2 (.tmp 4)⟩, ⟨(some 66), none, .load true 2 (.tmp 4)⟩] (
 .ev ⟨(some 12), none, .alloc [(.slice none 0 0), (.slice none 0 0)]⟩ [⟨(some 69), none, .load true 2 (.tmp 4)⟩, ⟨(some 68), none, .load true 2 (.tmp 4)⟩, ⟨(some 67), none, .load true 2 (.tmp 4)⟩, ⟨(some 66), none, .load true 2 (.tmp 4)⟩] (
 .ev ⟨none, none, .store 2 (.tmp 10) (.tmp 66)⟩ [⟨(some 69), none, .load true 2 (.tmp 4)⟩, ⟨(some 68), none, .load true 2 (.tmp 4)⟩, ⟨(some 67), none, .load true 2 (.tmp 4)⟩] (
 .ev ⟨none, none, .store 2 (.tmp 11) (.tmp 67)⟩ [⟨(some 69), none, .load true 2 (.tmp 4)⟩, ⟨(some 68), none, .load true 2 (.tmp 4)⟩] (
 .ev ⟨none, none, .store 2 (.tmp 12) (.tmp 68)⟩ [⟨(some 69), none, .load true 2 (.tmp 4)⟩] (
 .ev ⟨none, none, .store 2 (.tmp 13) (.tmp 69)⟩ [] (
 .done)
 (.stop))
 (.stop))
 (.stop))
 (.stop))
 (.stop))
 (.ev ⟨(some 12), none, .alloc [(.slice none 0 0), (.slice none 0 0)]⟩ [⟨(some 69), none, .load true 2 (.tmp 4)⟩, ⟨(some 68), none, .load true 2 (.tmp 4)⟩, ⟨(some 67), none, .load true 2 (.tmp 4)⟩, ⟨(some 66), none, .load true 2 (.tmp 4)⟩] (
 .ev ⟨(some 11), none, .alloc [(.slice none 0 0), (.slice none 0 0)]⟩ [⟨(some 69), none, .load true 2 (.tmp 4)⟩, ⟨(some 68), none, .load true 2 (.tmp 4)⟩, ⟨(some 67), none, .load true 2 (.tmp 4)⟩, ⟨(some 66), none, .load true 2 (.tmp 4)⟩] (
 .ev ⟨none, none, .store 2 (.tmp 10) (.tmp 66)⟩ [⟨(some 69), none, .load true 2 (.tmp 4)⟩, ⟨(some 68), none, .load true 2 (.tmp 4)⟩, ⟨(some 67), none, .load true 2 (.tmp 4)⟩] (
 .ev ⟨none, none, .store 2 (.tmp 11) (.tmp 67)⟩ [⟨(some 69), none, .load true 2 (.tmp 4)⟩, ⟨(some 68), none, .load true 2 (.tmp 4)⟩] (
 .ev ⟨none, none, .store 2 (.tmp 12) (.tmp 68)⟩ [⟨(some 69), none, .load true 2 (.tmp 4)⟩] (
 .ev ⟨none, none, .store 2 (.tmp 13) (.tmp 69)⟩ [] (
 .done)
 (.stop))
 (.stop))
 (.stop))
 (.stop))
 (.stop))
 (.stop)))
 (.stop))))
 (.ev ⟨(some 11), none, .alloc [(.slice none 0 0), (.slice none 0 0)]⟩ [⟨(some 69), none, .load true 2 (.tmp 4)⟩, ⟨(some 68), none, .load true 2 (.tmp 4)⟩, ⟨(some 67), none, .load true 2 (.tmp 4)⟩, ⟨(some 66), none, .load true 2 (.tmp 4)⟩] (
 .ev ⟨(some 10), none, .alloc [(.slice none 0 0), (.slice none 0 0)]⟩ [⟨(some 69), none, .load true 2 (.tmp 4)⟩, ⟨(some 68), none, .load true 2 (.tmp 4)⟩, ⟨(some 67), none, .load true 2 (.tmp 4)⟩, ⟨(some 66), none, .load true 2 (.tmp 4)⟩] (
 .ev ⟨(some 12), none, .alloc [(.slice none 0 0), (.slice none 0 0)]⟩ [⟨(some 69), none, .load true 2 (.tmp 4)⟩, ⟨(some 68), none, .load true 2 (.tmp 4)⟩, ⟨(some 67), none, .load true 2 (.tmp 4)⟩, ⟨(some 66), none, .load true 2 (.tmp 4)⟩] (
 .ev ⟨(some 13), none, .alloc [(.slice none 0 0), (.slice none 0 0)]⟩ [⟨(some 69), none, .load true 2 (.tmp 4)⟩, ⟨(some 68), none, .load true 2 (.tmp 4)⟩, ⟨(some 67), none, .load true 2 (.tmp 4)⟩, ⟨(some 66), none, .load true 2 (.tmp 4)⟩] (
 .ev ⟨none, none, .store 2 (.tmp 10) (.tmp 66)⟩ [⟨(some 69), none, .load true 2 (.tmp 4)⟩, ⟨(some 68), none, .load true 2 (.tmp 4)⟩, ⟨(some 67), none, .load true 2 (.tmp 4)⟩] (
 .ev ⟨none, none, .store 2 (.tmp 11) (.tmp 67)⟩ [⟨(some 69), none, .load true 2 (.tmp 4)⟩, ⟨(some 68), none, .load true 2 (.tmp 4)⟩] (
 .ev ⟨none, none, .store 2 (.tmp 12) (.tmp 68)⟩ [⟨(some 69), none, .load true 2 (.tmp 4)⟩] (
 .ev ⟨none, none, .store 2 (.tmp 13) (.tmp 69)⟩ [] (
 .done)
 (.stop))
 (.stop))
 (.stop))
 (.stop))
 (.stop))
 (.ev ⟨(some 13), none, .alloc [(.slice none 0 0), (.slice none 0 0)]⟩ [⟨(some 69), none, .load true 2 (.tmp 4)⟩, ⟨(some 68), none, .load true 2 (.tmp 4)⟩, ⟨(some 67), none, .load true 2 (.tmp 4)⟩, ⟨(some 66), none, .load true 2 (.tmp 4)⟩] (
 .ev ⟨(some 12), none, .alloc [(.slice none 0 0), (.slice none 0 0)]⟩ [⟨(some 69), none, .load true 2 (.tmp 4)⟩, ⟨(some 68), none, .load true 2 (.tmp 4)⟩, ⟨(some 67), none, .load true 2 (.tmp 4)⟩, ⟨(some 66), none, .load true 2 (.tmp 4)⟩] (
 .ev ⟨none, none, .store 2 (.tmp 10) (.tmp 66)⟩ [⟨(some 69), none, .load true 2 (.tmp 4)⟩, ⟨(some 68), none, .load true 2 (.tmp 4)⟩, ⟨(some 67), none, .load true 2 (.tmp 4)⟩] (
 .ev ⟨none, none, .store 2 (.tmp 11) (.tmp 67)⟩ [⟨(some 69), none, .load true 2 (.tmp 4)⟩, ⟨(some 68), none, .load true 2 (.tmp 4)⟩] (
 .ev ⟨none, none, .store 2 (.tmp 12) (.tmp 68)⟩ [⟨(some 69), none, .load true 2 (.tmp 4)⟩] (
 .ev ⟨none, none, .store 2 (.tmp 13) (.tmp 69)⟩ [] (
 .done)
 (.stop))
 (.stop))
 (.stop))
 (.stop))
 (.stop))
 (.stop)))
 (.ev ⟨(some 12), none, .alloc [(.slice none 0 0), (.slice none 0 0)]⟩ [⟨(some 69), none, .load true 2 (.tmp 4)⟩, ⟨(some 68), none, .load true 2 (.tmp 4)⟩, ⟨(some 67), none, .load true 2 (.tmp 4)⟩, ⟨(some 66), none, .load true 2 (.tmp 4)⟩] (
 .ev ⟨(some 10), none, .alloc [(.slice none 0 0), (.slice none 0 0)]⟩ [⟨(some 69), none, .load true 2 (.tmp 4)⟩, ⟨(some 68), none, .load true 2 (.tmp 4)⟩, ⟨(some 67), none, .load true 2 (.tmp 4)⟩, ⟨(some 66), none, .load true 2 (.tmp 4)⟩] (
 .ev ⟨(some 13), none, .alloc [(.slice none 0 0), (.slice none 0 0)]⟩ [⟨(some 69), none, .load true 2 (.tmp 4)⟩, ⟨(some 68), none, .load true 2 (.tmp 4)⟩, ⟨(some 67), none, .load true 2 (.tmp 4)⟩, ⟨(some 66), none, .load true 2 (.tmp 4)⟩] (
 .ev ⟨none, none, .store 2 (.tmp 10) (.tmp 66)⟩ [⟨(some 69), none, .load true 2 (.tmp 4)⟩, ⟨(some 68), none, .load true 2 (.tmp 4)⟩, ⟨(some 67), none, .load true 2 (.tmp 4)⟩] (
 .ev ⟨none, none, .store 2 (.tmp 11) (.tmp 67)⟩ [⟨(some 69), none, .load true 2 (.tmp 4)⟩, ⟨(some 68), none, .load true 2 (.tmp 4)⟩] (
 .ev ⟨none, none, .store 2 (.tmp 12) (.tmp 68)⟩ [⟨(some 69), none, .load true 2 (.tmp 4)⟩] (
 .ev ⟨none, none, .store 2 (.tmp 13) (.tmp 69)⟩ [] (
 .done)
 (.stop))
 (.stop))
 (.stop))
 (.stop))
 (.stop))
 (.ev ⟨(some 13), none, .alloc [(.slice none 0 0), (.slice none 0 0)]⟩ [⟨(some 69), none, .load true 2 (.tmp 4)⟩, ⟨(some 68), none, .load true 2 (.tmp 4)⟩, ⟨(some 67), none, .load true 2 (.tmp 4)⟩, ⟨(some 66), none, .load true 2 (.tmp 4)⟩] (
 .ev ⟨(some 10), none, .alloc [(.slice none 0 0), (.slice none 0 0)]⟩ [⟨(some 69), none, .load true 2 (.tmp 4)⟩, ⟨(some 68), none, .load true 2 (.tmp 4)⟩, ⟨(some 67), none, .load true 2 (.tmp 4)⟩, ⟨(some 66), none, .load true 2 (.tmp 4)⟩] (
 .ev ⟨none, none, .store 2 (.tmp 10) (.tmp 66)⟩ [⟨(some 69), none, .load true 2 (.tmp 4)⟩, ⟨(some 68), none, .load true 2 (.tmp 4)⟩, ⟨(some 67), none, .load true 2 (.tmp 4)⟩] (
 .ev ⟨none, none, .store 2 (.tmp 11) (.tmp 67)⟩ [⟨(some 69), none, .load true 2 (.tmp 4)⟩, ⟨(some 68), none, .load true 2 (.tmp 4)⟩] (
 .ev ⟨none, none, .store 2 (.tmp 12) (.tmp 68)⟩ [⟨(some 69), none, .load true 2 (.tmp 4)⟩] (
 .ev ⟨none, none, .store 2 (.tmp 13) (.tmp 69)⟩ [] (
 .done)
 (.stop))
 (.stop))
 (.stop))
 (.stop))
 (.stop))
 (.stop)))
 (.ev ⟨(some 13), none, .alloc [(.slice none 0 0), (.slice none 0 0)]⟩ [⟨(some 69), none, .load true 2 (.tmp 4)⟩, ⟨(some 68), none, .load true 2 (.tmp 4)⟩, ⟨(some 67), none, .load true 2 (.tmp 4)⟩, ⟨(some 66), none, .load true 2 (.tmp 4)⟩] (
 .ev ⟨(some 10), none, .alloc [(.slice none 0 0), (.slice none 0 0)]⟩ [⟨(some 69), none, .load true 2 (.tmp 4)⟩, ⟨(some 68), none, .load true 2 (.tmp 4)⟩, ⟨(some 67), none, .load true 2 (.tmp 4)⟩, ⟨(some 66), none, .load true 2 (.tmp 4)⟩] (
 .ev ⟨(some 12), none, .alloc [(.slice none 0 0), (.slice none 0 0)]⟩ [⟨(some 69), none, .load true 2 (.tmp 4)⟩, ⟨(some 68), none, .load true 2 (.tmp 4)⟩, ⟨(some 67), none, .load true 2 (.tmp 4)⟩, ⟨(some 66), none, .load true 2 (.tmp 4)⟩] (
 .ev ⟨none, none, .store 2 (.tmp 10) (.tmp 66)⟩ [⟨(some 69), none, .load true 2 (.tmp 4)⟩, ⟨(some 68), none, .load true 2 (.tmp 4)⟩, ⟨(some 67), none, .load true 2 (.tmp 4)⟩] (
 .ev ⟨none, none, .store 2 (.tmp 11) (.tmp 67)⟩ [⟨(some 69), none, .load true 2 (.tmp 4)⟩, ⟨(some 68), none, .load true 2 (.tmp 4)⟩] (
 .ev ⟨none, none, .store 2 (.tmp 12) (.tmp 68)⟩ [⟨(some 69), none, .load true 2 (.tmp 4)⟩] (
 .ev ⟨none, none, .store 2 (.tmp 13) (.tmp 69)⟩ [] (
 .done)
 (.stop))
 (.stop))
 (.stop))
 (.stop))
 (.stop))
 (.ev ⟨(some 12), none, .alloc [(.slice none 0 0), (.slice none 0 0)]⟩ [⟨(some 69), none, .load true 2 (.tmp 4)⟩, ⟨(some 68), none, .load true 2 (.tmp 4)⟩, ⟨(some 67), none, .load true 2 (.tmp 4)⟩, ⟨(some 66), none, .load true 2 (.tmp 4)⟩] (
 .ev ⟨(some 10), none, .alloc [(.slice none 0 0), (.slice none 0 0)]⟩ [⟨(some 69), none, .load true 2 (.tmp 4)⟩, ⟨(some 68), none, .load true 2 (.tmp 4)⟩, ⟨(some 67), none, .load true 2 (.tmp 4)⟩, ⟨(some 66), none, .load true 2 (.tmp 4)⟩] (
 .ev ⟨none, none, .store 2 (.tmp 10) (.tmp 66)⟩ [⟨(some 69), none, .load true 2 (.tmp 4)⟩, ⟨(some 68), none, .load true 2 (.tmp 4)⟩, ⟨(some 67), none, .load true 2 (.tmp 4)⟩] (
 .ev ⟨none, none, .store 2 (.tmp 11) (.tmp 67)⟩ [⟨(some 69), none, .load true 2 (.tmp 4)⟩, ⟨(some 68), none, .load true 2 (.tmp 4)⟩] (
 .ev ⟨none, none, .store 2 (.tmp 12) (.tmp 68)⟩ [⟨(some 69), none, .load true 2 (.tmp 4)⟩] (
 .ev ⟨none, none, .store 2 (.tmp 13) (.tmp 69)⟩ [] (
 .done)
 (.stop))
 (.stop))
 (.stop))
 (.stop))
 (.stop))
 (.stop)))
 (.stop))))
 (.ev ⟨(some 12), none, .alloc [(.slice none 0 0), (.slice none 0 0)]⟩ [⟨(some 69), none, .load true 2 (.tmp 4)⟩, ⟨(some 68), none, .load true 2 (.tmp 4)⟩, ⟨(some 67), none, .load true 2 (.tmp 4)⟩, ⟨(some 66), none, .load true 2 (.tmp 4)⟩] (
 .ev ⟨(some 10), none, .alloc [(.slice none 0 0), (.slice none 0 0)]⟩ [⟨(some 69), none, .load true 2 (.tmp 4)⟩, ⟨(some 68), none, .load true 2 (.tmp 4)⟩, ⟨(some 67), none, .load true 2 (.tmp 4)⟩, ⟨(some 66), none, .load true 2 (.tmp 4)⟩] (
 .ev ⟨(some 11), none, .alloc [(.slice none 0 0), (.slice none 0 0)]⟩ [⟨(some 69), none, .load true 2 (.tmp 4)⟩, ⟨(some 68), none, .load true 2 (.tmp 4)⟩, ⟨(some 67), none, .load true 2 (.tmp 4)⟩, ⟨(some 66), none, .load true 2 (.tmp 4)⟩] (
 .ev ⟨(some 13), none, .alloc [(.slice none 0 0), (.slice none 0 0)]⟩ [⟨(some 69), none, .load true 2 (.tmp 4)⟩, ⟨(some 68), none, .load true 2 (.tmp 4)⟩, ⟨(some 67), none, .load true 2 (.tmp 4)⟩, ⟨(some 66), none, .load true 2 (.tmp 4)⟩] (
 .ev ⟨none, none, .store 2 (.tmp 10) (.tmp 66)⟩ [⟨(some 69), none, .load true 2 (.tmp 4)⟩, ⟨(some 68), none, .load true 2 (.tmp 4)⟩, ⟨(some 67), none, .load true 2 (.tmp 4)⟩] (
 .ev ⟨none, none, .store 2 (.tmp 11) (.tmp 67)⟩ [⟨(some 69), none, .load true 2 (.tmp 4)⟩, ⟨(some 68), none, .load true 2 (.tmp 4)⟩] (
 .ev ⟨none, none, .store 2 (.tmp 12) (.tmp 68)⟩ [⟨(some 69), none, .load true 2 (.tmp 4)⟩] (
 .ev ⟨none, none, .store 2 (.tmp 13) (.tmp 69)⟩ [] (
 .done)
 (.stop))
 (.stop))
 (.stop))
 (.stop))
 (.stop))
 (.ev ⟨(some 13), none, .alloc [(.slice none 0 0), (.slice none 0 0)]⟩ [⟨(some 69), none, .load true 2 (.tmp 4)⟩, ⟨(some 68), none, .load true 2 (.tmp 4)⟩, ⟨(some 67), none, .load true 2 (.tmp 4)⟩, ⟨(some 66), none, .load true 2 (.tmp 4)⟩] (
 .ev ⟨(some 11), none, .alloc [(.slice none 0 0), (.slice none 0 0)]⟩ [⟨(some 69), none, .load true 2 (.tmp 4)⟩, ⟨(some 68), none, .load true 2 (.tmp 4)⟩, ⟨(some 67), none, .load true 2 (.tmp 4)⟩, ⟨(some 66), none, .load true 2 (.tmp 4)⟩] (
 .ev ⟨none, none, .store 2 (.tmp 10) (.tmp 66)⟩ [⟨(some 69), none, .load true 2 (.tmp 4)⟩, ⟨(some 68), none, .load true 2 (.tmp 4)⟩, ⟨(some 67), none, .load true 2 (.tmp 4)⟩] (
 .ev ⟨none, none, .store 2 (.tmp 11) (.tmp 67)⟩ [⟨(some 69), none, .load true 2 (.tmp 4)⟩, ⟨(some 68), none, .load true 2 (.tmp 4)⟩] (
 .ev ⟨none, none, .store 2 (.tmp 12) (.tmp 68)⟩ [⟨(some 69), none, .load true 2 (.tmp 4)⟩] (
 .ev ⟨none, none, .store 2 (.tmp 13) (.tmp 69)⟩ [] (
 .done)
 (.stop))
 (.stop))
 (.stop))
 (.stop))
 (.stop))
 (.stop)))
 (.ev ⟨(some 11), none, .alloc [(.slice none 0 0), (.slice none 0 0)]⟩ [⟨(some 69), none, .load true 2 (.tmp 4)⟩, ⟨(some 68), none, .load true 2 (.tmp 4)⟩, ⟨(some 67), none, .load true 2 (.tmp 4)⟩, ⟨(some 66), none, .load true 2 (.tmp 4)⟩] (
 .ev ⟨(some 10), none, .alloc [(.slice none 0 0), (.slice none 0 0)]⟩ [⟨(some 69), none, .load true 2 (.tmp 4)⟩, ⟨(some 68), none, .load true 2 (.tmp 4)⟩, ⟨(some 67), none, .load true 2 (.tmp 4)⟩, ⟨(some 66), none, .load true 2 (.tmp 4)⟩] (
 .ev ⟨(some 13), none, .alloc [(.slice none 0 0), (.slice none 0 0)]⟩ [⟨(some 69), none, .load true 2 (.tmp 4)⟩, ⟨(some 68), none, .load true 2 (.tmp 4)⟩, ⟨(some 67), none, .load true 2 (.tmp 4)⟩, ⟨(some 66), none, .load true 2 (.tmp 4)⟩] (
 .ev ⟨none, none, .store 2 (.tmp 10) (.tmp 66)⟩ [⟨(some 69), none, .load true 2 (.tmp 4)⟩, ⟨(some 68), none, .load true 2 (.tmp 4)⟩, ⟨(some 67), none, .load true 2 (.tmp 4)⟩] (
 .ev ⟨none, none, .store 2 (.tmp 11) (.tmp 67)⟩ [⟨(some 69), none, .load true 2 (.tmp 4)⟩, ⟨(some 68), none, .load true 2 (.tmp 4)⟩] (
 .ev ⟨none, none, .store 2 (.tmp 12) (.tmp 68)⟩ [⟨(some 69), none, .load true 2 (.tmp 4)⟩] (
 .ev ⟨none, none, .store 2 (.tmp 13) (.tmp 69)⟩ [] (
 .done)
 (.stop))
 (.stop))
 (.stop))
 (.stop))
 (.stop))
 (.ev ⟨(some 13), none, .alloc [(.slice none 0 0), (.slice none 0 0)]⟩ [⟨(some 69), none, .load true 2 (.tmp 4)⟩, ⟨(some 68), none, .load true 2 (.tmp 4)⟩, ⟨(some 67), none, .load true 2 (.tmp 4)⟩, ⟨(some 66), none, .load true 2 (.tmp 4)⟩] (
 .ev ⟨(some 10), none, .alloc [(.slice none 0 0), (.slice none 0 0)]⟩ [⟨(some 69), none, .load true 2 (.tmp 4)⟩, ⟨(some 68), none, .load true 2 (.tmp 4)⟩, ⟨(some 67), none, .load true 2 (.tmp 4)⟩, ⟨(some 66), none, .load true 2 (.tmp 4)⟩] (
 .ev ⟨none, none, .store 2 (.tmp 10) (.tmp 66)⟩ [⟨(some 69), none, .load true 2 (.tmp 4)⟩, ⟨(some 68), none, .load true 2 (.tmp 4)⟩, ⟨(some 67), none, .load true 2 (.tmp 4)⟩] (
 .ev ⟨none, none, .store 2 (.tmp 11) (.tmp 67)⟩ [⟨(some 69), none, .load true 2 (.tmp 4)⟩, ⟨(some 68), none, .load true 2 (.tmp 4)⟩] (
 .ev ⟨none, none, .store 2 (.tmp 12) (.tmp 68)⟩ [⟨(some 69), none, .load true 2 (.tmp 4)⟩] (
 .ev ⟨none, none, .store 2 (.tmp 13) (.tmp 69)⟩ [] (
 .done)
 (.stop))
 (.stop))
 (.stop))
 (.stop))
 (.stop))
 (.stop)))
 (.ev ⟨(some 13), none, .alloc [(.slice none 0 0), (.slice none 0 0)]⟩ [⟨(some 69), none, .load true 2 (.tmp 4)⟩, ⟨(some 68), none, .load true 2 (.tmp 4)⟩, ⟨(some 67), none, .load true 2 (.tmp 4)⟩, ⟨(some 66), none, .load true 2 (.tmp 4)⟩] (
 .ev ⟨(some 10), none, .alloc [(.slice none 0 0), (.slice none 0 0)]⟩ [⟨(some 69), none, .load true 2 (.tmp 4)⟩, ⟨(some 68), none, .load true 2 (.tmp 4)⟩, ⟨(some 67), none, .load true 2 (.tmp 4)⟩, ⟨(some 66), none, .load true 2 (.tmp 4)⟩] (
 .ev ⟨(some 11), none, .alloc [(.slice none 0 0), (.slice none 0 0)]⟩ [⟨(some 69), none, .load true 2 (.tmp 4)⟩, ⟨(some 68), none, .load true 2 (.tmp 4)⟩, ⟨(some 67), none, .load true 2 (.tmp 4)⟩, ⟨(some 66), none, .load true 2 (.tmp 4)⟩] (
 .ev ⟨none, none, .store 2 (.tmp 10) (.tmp 66)⟩ [⟨(some 69), none, .load true 2 (.tmp 4)⟩, ⟨(some 68), none, .load true 2 (.tmp 4)⟩, ⟨(some 67), none, .load true 2 (.tmp 4)⟩] (
 .ev ⟨none, none, .store 2 (.tmp 11) (.tmp 67)⟩ [⟨(some 69), none, .load true 2 (.tmp 4)⟩, ⟨(some 68), none, .load true 2 (.tmp 4)⟩] (
 .ev ⟨none, none, .store 2 (.tmp 12) (.tmp 68)⟩ [⟨(some 69), none, .load true 2 (.tmp 4)⟩] (
 .ev ⟨none, none, .store 2 (.tmp 13) (.tmp 69)⟩ [] (
 .done)
 (.stop))
 (.stop))
 (.stop))
 (.stop))
 (.stop))
 (.ev ⟨(some 11), none, .alloc [(.slice none 0 0), (.slice none 0 0)]⟩ [⟨(some 69), none, .load true 2 (.tmp 4)⟩, ⟨(some 68), none, .load true 2 (.tmp 4)⟩, ⟨(some 67), none, .load true 2 (.tmp 4)⟩, ⟨(some 66), none, .load true 2 (.tmp 4)⟩] (
 .ev ⟨(some 10), none, .alloc [(.slice none 0 0), (.slice none 0 0)]⟩ [⟨(some 69), none, .load true 2 (.tmp 4)⟩, ⟨(some 68), none, .load true 2 (.tmp 4)⟩, ⟨(some 67), none, .load true 2 (.tmp 4)⟩, ⟨(some 66), none, .load true 2 (.tmp 4)⟩] (
 .ev ⟨none, none, .store 2 (.tmp 10) (.tmp 66)⟩ [⟨(some 69), none, .load true 2 (.tmp 4)⟩, ⟨(some 68), none, .load true 2 (.tmp 4)⟩, ⟨(some 67), none, .load true 2 (.tmp 4)⟩] (
 .ev ⟨none, none, .store 2 (.tmp 11) (.tmp 67)⟩ [⟨(some 69), none, .load true 2 (.tmp 4)⟩, ⟨(some 68), none, .load true 2 (.tmp 4)⟩] (
 .ev ⟨none, none, .store 2 (.tmp 12) (.tmp 68)⟩ [⟨(some 69), none, .load true 2 (.tmp 4)⟩] (
 .ev ⟨none, none, .store 2 (.tmp 13) (.tmp 69)⟩ [] (
 .done)
 (.stop))
 (.stop))
 (.stop))
 (.stop))
 (.stop))
 (.stop)))
 (.stop))))
 (.ev ⟨(some 13), none, .alloc [(.slice none 0 0), (.slice none 0 0)]⟩ [⟨(some 69), none, .load true 2 (.tmp 4)⟩, ⟨(some 68), none, .load true 2 (.tmp 4)⟩, ⟨(some 67), none, .load true 2 (.tmp 4)⟩, ⟨(some 66), none, .load true 2 (.tmp 4)⟩] (
 .ev ⟨(some 10), none, .alloc [(.slice none 0 0), (.slice none 0 0)]⟩ [⟨(some 69), none, .load true 2 (.tmp 4)⟩, ⟨(some 68), none, .load true 2 (.tmp 4)⟩, ⟨(some 67), none, .load true 2 (.tmp 4)⟩, ⟨(some 66), none, .load true 2 (.tmp 4)⟩] (
 .ev ⟨(some 11), none, .alloc [(.slice none 0 0), (.slice none 0 0)]⟩ [⟨(some 69), none, .load true 2 (.tmp 4)⟩, ⟨(some 68), none, .load true 2 (.tmp 4)⟩, ⟨(some 67), none, .load true 2 (.tmp 4)⟩, ⟨(some 66), none, .load true 2 (.tmp 4)⟩] (
 .ev ⟨(some 12), none, .alloc [(.slice none 0 0), (.slice none 0 0)]⟩ [⟨(some 69), none, .load true 2 (.tmp 4)⟩, ⟨(some 68), none, .load true 2 (.tmp 4)⟩, ⟨(some 67), none, .load true 2 (.tmp 4)⟩, ⟨(some 66), none, .load true 2 (.tmp 4)⟩] (
 .ev ⟨none, none, .store 2 (.tmp 10) (.tmp 66)⟩ [⟨(some 69), none, .load true 2 (.tmp 4)⟩, ⟨(some 68), none, .load true 2 (.tmp 4)⟩, ⟨(some 67), none, .load true 2 (.tmp 4)⟩] (
 .ev ⟨none, none, .store 2 (.tmp 11) (.tmp 67)⟩ [⟨(some 69), none, .load true 2 (.tmp 4)⟩, ⟨(some 68), none, .load true 2 (.tmp 4)⟩] (
 .ev ⟨none, none, .store 2 (.tmp 12) (.tmp 68)⟩ [⟨(some 69), none, .load true 2 (.tmp 4)⟩] (
 .ev ⟨none, none, .store 2 (.tmp 13) (.tmp 69)⟩ [] (
 .done)
 (.stop))
 (.stop))
 (.stop))
 (.stop))
 (.stop))
 (.ev ⟨(some 12), none, .alloc [(.slice none 0 0), (.slice none 0 0)]⟩ [⟨(some 69), none, .load true 2 (.tmp 4)⟩, ⟨(some 68), none, .load true 2 (.tmp 4)⟩, ⟨(some 67), none, .load true 2 (.tmp 4)⟩, ⟨(some 66), none, .load true 2 (.tmp 4)⟩] (
 .ev ⟨(some 11), none, .alloc [(.slice none 0 0), (.slice none 0 0)]⟩ [⟨(some 69), none, .load true 2 (.tmp 4)⟩, ⟨(some 68), none, .load true 2 (.tmp 4)⟩, ⟨(some 67), none, .load true 2 (.tmp 4)⟩, ⟨(some 66), none, .load true 2 (.tmp 4)⟩] (
 .ev ⟨none, none, .store 2 (.tmp 10) (.tmp 66)⟩ [⟨(some 69), none, .load true 2 (.tmp 4)⟩, ⟨(some 68), none, .load true 2 (.tmp 4)⟩, ⟨(some 67), none, .load true 2 (.tmp 4)⟩] (
 .ev ⟨none, none, .store 2 (.tmp 11) (.tmp 67)⟩ [⟨(some 69), none, .load true 2 (.tmp 4)⟩, ⟨(some 68), none, .load true 2 (.tmp 4)⟩] (
 .ev ⟨none, none, .store 2 (.tmp 12) (.tmp 68)⟩ [⟨(some 69), none, .load true 2 (.tmp 4)⟩] (
 .ev ⟨none, none, .store 2 (.tmp 13) (.tmp 69)⟩ [] (
 .done)
 (.stop))
 (.stop))
 (.stop))
 (.stop))
 (.stop))
 (.stop)))
 (.ev ⟨(some 11), none, .alloc [(.slice none 0 0), (.slice none 0 0)]⟩ [⟨(some 69), none, .load true 2 (.tmp 4)⟩, ⟨(some 68), none, .load true 2 (.tmp 4)⟩, ⟨(some 67), none, .load true 2 (.tmp 4)⟩, ⟨(some 66), none, .load true 2 (.tmp 4)⟩] (
 .ev ⟨(some 10), none, .alloc [(.slice none 0 0), (.slice none 0 0)]⟩ [⟨(some 69), none, .load true 2 (.tmp 4)⟩, ⟨(some 68), none, .load true 2 (.tmp 4)⟩, ⟨(some 67), none, .load true 2 (.tmp 4)⟩, ⟨(some 66), none, .load true 2 (.tmp 4)⟩] (
 .ev ⟨(some 12), none, .alloc [(.slice none 0 0), (.slice none 0 0)]⟩ [⟨(some 69), none, .load true 2 (.tmp 4)⟩, ⟨(some 68), none, .load true 2 (.tmp 4)⟩, ⟨(some 67), none, .load true 2 (.tmp 4)⟩, ⟨(some 66), none, .load true 2 (.tmp 4)⟩] (
 .ev ⟨none, none, .store 2 (.tmp 10) (.tmp 66)⟩ [⟨(some 69), none, .load true 2 (.tmp 4)⟩, ⟨(some 68), none, .load true 2 (.tmp 4)⟩, ⟨(some 67), none, .load true 2 (.tmp 4)⟩] (
 .ev ⟨none, none, .store 2 (.tmp 11) (.tmp 67)⟩ [⟨(some 69), none, .load true 2 (.tmp 4)⟩, ⟨(some 68), none, .load true 2 (.tmp 4)⟩] (
 .ev ⟨none, none, .store 2 (.tmp 12) (.tmp 68)⟩ [⟨(some 69), none, .load true 2 (.tmp 4)⟩] (
 .ev ⟨none, none, .store 2 (.tmp 13) (.tmp 69)⟩ [] (
 .done)
 (.stop))
 (.stop))
 (.stop))
 (.stop))
 (.stop))
 (.ev ⟨(some 12), none, .alloc [(.slice none 0 0), (.slice none 0 0)]⟩ [⟨(some 69), none, .load true 2 (.tmp 4)⟩, ⟨(some 68), none, .load true 2 (.tmp 4)⟩, ⟨(some 67), none, .load true 2 (.tmp 4)⟩, ⟨(some 66), none, .load true 2 (.tmp 4)⟩] (
 .ev ⟨(some 10), none, .alloc [(.slice none 0 0), (.slice none 0 0)]⟩ [⟨(some 69), none, .load true 2 (.tmp 4)⟩, ⟨(some 68), none, .load true 2 (.tmp 4)⟩, ⟨(some 67), none, .load true 2 (.tmp 4)⟩, ⟨(some 66), none, .load true 2 (.tmp 4)⟩] (
 .ev ⟨none, none, .store 2 (.tmp 10) (.tmp 66)⟩ [⟨(some 69), none, .load true 2 (.tmp 4)⟩, ⟨(some 68), none, .load true 2 (.tmp 4)⟩, ⟨(some 67), none, .load true 2 (.tmp 4)⟩] (
 .ev ⟨none, none, .store 2 (.tmp 11) (.tmp 67)⟩ [⟨(some 69), none, .load true 2 (.tmp 4)⟩, ⟨(some 68), none, .load true 2 (.tmp 4)⟩] (
 .ev ⟨none, none, .store 2 (.tmp 12) (.tmp 68)⟩ [⟨(some 69), none, .load true 2 (.tmp 4)⟩] (
 .ev ⟨none, none, .store 2 (.tmp 13) (.tmp 69)⟩ [] (
 .done)
 (.stop))
 (.stop))
 (.stop))
 (.stop))
 (.stop))
 (.stop)))
 (.ev ⟨(some 12), none, .alloc [(.slice none 0 0), (.slice none 0 0)]⟩ [⟨(some 69), none, .load true 2 (.tmp 4)⟩, ⟨(some 68), none, .load true 2 (.tmp 4)⟩, ⟨(some 67), none, .load true 2 (.tmp 4)⟩, ⟨(some 66), none, .load true 2 (.tmp 4)⟩] (
 .ev ⟨(some 10), none, .alloc [(.slice none 0 0), (.slice none 0 0)]⟩ [⟨(some 69), none, .load true 2 (.tmp 4)⟩, ⟨(some 68), none, .load true 2 (.tmp 4)⟩, ⟨(some 67), none, .load true 2 (.tmp 4)⟩, ⟨(some 66), none, .load true 2 (.tmp 4)⟩] (
 .ev ⟨(some 11), none, .alloc [(.slice none 0 0), (.slice none 0 0)]⟩ [⟨(some 69), none, .load true 2 (.tmp 4)⟩, ⟨(some 68), none, .load true 2 (.tmp 4)⟩, ⟨(some 67), none, .load true 2 (.tmp 4)⟩, ⟨(some 66), none, .load true 2 (.tmp 4)⟩] (
 .ev ⟨none, none, .store 2 (.tmp 10) (.tmp 66)⟩ [⟨(some 69), none, .load true 2 (.tmp 4)⟩, ⟨(some 68), none, .load true 2 (.tmp 4)⟩, ⟨(some 67), none, .load true 2 (.tmp 4)⟩] (
 .ev ⟨none, none, .store 2 (.tmp 11) (.tmp 67)⟩ [⟨(some 69), none, .load true 2 (.tmp 4)⟩, ⟨(some 68), none, .load true 2 (.tmp 4)⟩] (
 .ev ⟨none, none, .store 2 (.tmp 12) (.tmp 68)⟩ [⟨(some 69), none, .load true 2 (.tmp 4)⟩] (
 .ev ⟨none, none, .store 2 (.tmp 13) (.tmp 69)⟩ [] (
 .done)
 (.stop))
 (.stop))
 (.stop))
 (.stop))
 (.stop))
 (.ev ⟨(some 11), none, .alloc [(.slice none 0 0), (.slice none 0 0)]⟩ [⟨(some 69), none, .load true 2 (.tmp 4)⟩, ⟨(some 68), none, .load true 2 (.tmp 4)⟩, ⟨(some 67), none, .load true 2 (.tmp 4)⟩, ⟨(some 66), none, .load true 2 (.tmp 4)⟩] (
 .ev ⟨(some 10), none, .alloc [(.slice none 0 0), (.slice none 0 0)]⟩ [⟨(some 69), none, .load true 2 (.tmp 4)⟩, ⟨(some 68), none, .load true 2 (.tmp 4)⟩, ⟨(some 67), none, .load true 2 (.tmp 4)⟩, ⟨(some 66), none, .load true 2 (.tmp 4)⟩] (
 .ev ⟨none, none, .store 2 (.tmp 10) (.tmp 66)⟩ [⟨(some 69), none, .load true 2 (.tmp 4)⟩, ⟨(some 68), none, .load true 2 (.tmp 4)⟩, ⟨(some 67), none, .load true 2 (.tmp 4)⟩] (
 .ev ⟨none, none, .store 2 (.tmp 11) (.tmp 67)⟩ [⟨(some 69), none, .load true 2 (.tmp 4)⟩, ⟨(some 68), none, .load true 2 (.tmp 4)⟩] (
 .ev ⟨none, none, .store 2 (.tmp 12) (.tmp 68)⟩ [⟨(some 69), none, .load true 2 (.tmp 4)⟩] (
 .ev ⟨none, none, .store 2 (.tmp 13) (.tmp 69)⟩ [] (
 .done)
 (.stop))
 (.stop))
 (.stop))
 (.stop))
 (.stop))
 (.stop)))
 (.stop))))
 (.stop))))))))))
 (.seq (.drawI [⟨(some 70), none, .bslice 5 (.agg #[(.int .i64 0), (.int .i64 0), (.int .i64 0), (.int .i64 0), (.bool false)]) 0 []⟩,
 ⟨(some 71), none, .faddr 1 (.tmp 4)⟩,
 ⟨(some 72), none, .load false 1 (.tmp 71)⟩,
 ⟨(some 73), none, .app 5 40 (.tmp 70) (.tmp 72)⟩,
 ⟨(some 74), none, .load true 5 (.tmp 6)⟩,
 ⟨(some 75), none, .bslice 5 (.agg #[(.int .i64 0), (.int .i64 0), (.int .i64 0), (.int .i64 0), (.bool false)]) 1 [(0, (.tmp 74))]⟩,
 ⟨(some 76), none, .app 5 40 (.tmp 73) (.tmp 75)⟩,
 ⟨(some 77), none, .bslice 4 (.agg #[(.int .i64 0), (.int .i64 0), (.int .i64 0), (.int .i64 0)]) 0 []⟩,
 ⟨(some 78), none, .faddr 0 (.tmp 4)⟩,
 ⟨(some 79), none, .load false 1 (.tmp 78)⟩,
 ⟨(some 80), none, .app 4 32 (.tmp 77) (.tmp 79)⟩,
 ⟨(some 81), none, .load true 4 (.tmp 5)⟩,
 ⟨(some 82), none, .bslice 4 (.agg #[(.int .i64 0), (.int .i64 0), (.int .i64 0), (.int .i64 0)]) 1 [(0, (.tmp 81))]⟩,
 ⟨(some 83), none, .app 4 32 (.tmp 80) (.tmp 82)⟩,
 ⟨(some 84), none, .bslice 5 (.agg #[(.int .i64 0), (.int .i64 0), (.int .i64 0), (.int .i64 0), (.bool false)]) 0 []⟩,
 ⟨(some 85), none, .faddr 1 (.tmp 4)⟩,
 ⟨(some 86), none, .load false 1 (.tmp 85)⟩,
 ⟨(some 87), none, .app 5 40 (.tmp 84) (.tmp 86)⟩,
 ⟨(some 88), none, .faddr 1 (.tmp 10)⟩,
 ⟨none, none, .store 1 (.tmp 88) (.tmp 76)⟩,
 ⟨(some 89), none, .faddr 0 (.tmp 11)⟩,
 ⟨none, none, .store 1 (.tmp 89) (.tmp 83)⟩,
 ⟨(some 90), none, .faddr 1 (.tmp 12)⟩,
 ⟨none, none, .store 1 (.tmp 90) (.tmp 87)⟩] [[], [], [1], [0, 2], [], [4], [3, 5, 3], [], [], [8], [7, 9, 6], [], [11], [10, 12, 10], [], [], [15], [14, 16, 13], [0, 1, 2, 3, 4, 5, 6], [18, 6, 17, 0, 1, 2, 3, 4, 5, 6], [0, 1, 2, 3, 4, 5, 6, 7, 8, 9, 10, 11, 12, 13, 18, 19], [20, 13, 19, 0, 1, 2, 3, 4, 5, 6, 7, 8, 9, 10, 11, 12, 13, 18, 19], [0, 1, 2, 3, 4, 5, 6, 7, 8, 9, 10, 11, 12, 13, 14, 15, 16, 17, 18, 19, 20, 21], [22, 17, 21, 0, 1, 2, 3, 4, 5, 6, 7, 8, 9, 10, 11, 12, 13, 14, 15, 16, 17, 18, 19, 20, 21]])
 (.seq (.seq (.gcp)
 (.reg [⟨(some 91), none, .faddr 1 (.tmp 12)⟩,
 ⟨(some 92), none, .load false 1 (.tmp 91)⟩,
 ⟨(some 93), none, .mov (.tmp 9)⟩,
 ⟨(some 94), none, .iaddr 5 (.tmp 92) (.tmp 93)⟩,
 ⟨(some 95), none, .faddr 2 (.tmp 94)⟩,
 ⟨(some 14), none, .mov (.tmp 95)⟩]))
 (.seq (.draw (.step ⟨(some 96), none, .mov (.tmp 14)⟩ (
 .step ⟨(some 97), none, .mov (.tmp 14)⟩ (
 .step ⟨(some 98), none, .nilck (.tmp 97)⟩ (
 .step ⟨(some 99), none, .faddr 0 (.tmp 98)⟩ (
 .step ⟨(some 100), none, .load false 1 (.tmp 99)⟩ (
 .step ⟨(some 101), none, .bin .add (.tmp 100) (.lit (.int .i64 30))⟩ (
 .step ⟨(some 102), none, .mov (.tmp 14)⟩ (
 .step ⟨(some 103), none, .nilck (.tmp 102)⟩ (
 .step ⟨(some 104), none, .faddr 1 (.tmp 103)⟩ (
 .step ⟨(some 105), none, .load false 1 (.tmp 104)⟩ (
 .step ⟨(some 106), none, .bin .add (.tmp 105) (.lit (.int .i64 1))⟩ (
 .step ⟨(some 107), none, .mov (.tmp 3)⟩ (
 .step ⟨(some 108), none, .conv .i64 (.tmp 107)⟩ (
 .step ⟨(some 109), none, .bin .rem (.tmp 108) (.lit (.int .i64 7))⟩ (
 .step ⟨(some 110), none, .bin .add (.tmp 106) (.tmp 109)⟩ (
 .step ⟨(some 111), none, .mxmn false (.lit (.int .i64 719)) [(.tmp 101), (.tmp 110)]⟩ (
 .step ⟨(some 112), none, .nilck (.tmp 96)⟩ (
 .step ⟨(some 113), none, .faddr 1 (.tmp 112)⟩ (
 .ev ⟨none, none, .store 1 (.tmp 113) (.tmp 111)⟩ [⟨(some 112), none, .nilck (.tmp 96)⟩] (
 .done)
 (.stop)))))))))))))))))))))
 (.seq (.seq (.gcp)
 (.reg [⟨(some 114), none, .faddr 0 (.tmp 13)⟩,
 ⟨none, none, .store 1 (.tmp 114) (.lit (.slice none 0 0))⟩,
 ⟨(some 115), none, .faddr 1 (.tmp 13)⟩,
 ⟨none, none, .store 1 (.tmp 115) (.lit (.slice none 0 0))⟩]))
 (.seq (.reg [⟨(some 15), none, .mov (.lit (.bool true))⟩])
 (.seq (.seq (.reg [⟨(some 116), none, .faddr 0 (.tmp 4)⟩,
 ⟨(some 117), none, .load false 1 (.tmp 116)⟩,
 ⟨(some 118), none, .len (.tmp 117)⟩,
 ⟨(some 119), none, .mov (.lit (.int .i64 0))⟩])
 (.block 0 (.loop (.seq (.reg [⟨(some 120), none, .bin .lss (.tmp 119) (.tmp 118)⟩])
 (.seq (.cond (.tmp 120) (.skip)
 (.exit 0))
 (.seq (.block 1 (.seq (.reg [⟨(some 121), none, .iaddr 4 (.tmp 117) (.tmp 119)⟩,
 ⟨(some 122), none, .load true 4 (.tmp 121)⟩,
 ⟨(some 17), none, .alloc [(.int .i64 0), (.int .i64 0), (.int .i64 0), (.int .i64 0)]⟩,
 ⟨none, none, .store 4 (.tmp 17) (.tmp 122)⟩])
 (.seq (.draw (.step ⟨(some 123), none, .faddr 0 (.tmp 13)⟩ (
 .step ⟨(some 124), none, .load false 1 (.tmp 123)⟩ (
 .step ⟨(some 125), none, .faddr 0 (.tmp 17)⟩ (
 .step ⟨(some 126), none, .load false 1 (.tmp 125)⟩ (
 .step ⟨(some 127), none, .bin .add (.tmp 126) (.lit (.int .i64 720))⟩ (
 .step ⟨(some 128), none, .faddr 1 (.tmp 17)⟩ (
 .step ⟨(some 129), none, .faddr 0 (.tmp 128)⟩ (
 .step ⟨(some 130), none, .load false 1 (.tmp 129)⟩ (
 .step ⟨(some 131), none, .faddr 1 (.tmp 17)⟩ (
 .step ⟨(some 132), none, .faddr 1 (.tmp 131)⟩ (
 .step ⟨(some 133), none, .load false 1 (.tmp 132)⟩ (
 .step ⟨(some 134), none, .faddr 3 (.tmp 17)⟩ (
 .step ⟨(some 135), none, .load false 1 (.tmp 134)⟩ (
 .ev ⟨(some 136), none, .call (.fn 32) [(.tmp 127), (.tmp 130), (.tmp 133), (.tmp 135)]⟩ [⟨(some 134), none, .faddr 3 (.tmp 17)⟩, ⟨(some 132), none, .faddr 1 (.tmp 131)⟩, ⟨(some 131), none, .faddr 1 (.tmp 17)⟩, ⟨(some 129), none, .faddr 0 (.tmp 128)⟩, ⟨(some 128), none, .faddr 1 (.tmp 17)⟩, ⟨(some 126), none, .load false 1 (.tmp 125)⟩, ⟨(some 125), none, .faddr 0 (.tmp 17)⟩, ⟨(some 124), none, .load false 1 (.tmp 123)⟩, ⟨(some 123), none, .faddr 0 (.tmp 13)⟩] (
 .ev ⟨(some 137), none, .bslice 4 (.agg #[(.int .i64 0), (.int .i64 0), (.int .i64 0), (.int .i64 0)]) 1 [(0, (.tmp 136))]⟩ [⟨(some 135), none, .load false 1 (.tmp 134)⟩, ⟨(some 134), none, .faddr 3 (.tmp 17)⟩, ⟨(some 133), none, .load false 1 (.tmp 132)⟩, ⟨(some 132), none, .faddr 1 (.tmp 131)⟩, ⟨(some 131), none, .faddr 1 (.tmp 17)⟩, ⟨(some 130), none, .load false 1 (.tmp 129)⟩, ⟨(some 129), none, .faddr 0 (.tmp 128)⟩, ⟨(some 128), none, .faddr 1 (.tmp 17)⟩, ⟨(some 126), none, .load false 1 (.tmp 125)⟩, ⟨(some 125), none, .faddr 0 (.tmp 17)⟩, ⟨(some 124), none, .load false 1 (.tmp 123)⟩, ⟨(some 123), none, .faddr 0 (.tmp 13)⟩] (
 .ev ⟨(some 138), none, .app 4 32 (.tmp 124) (.tmp 137)⟩ [⟨(some 135), none, .load false 1 (.tmp 134)⟩, ⟨(some 134), none, .faddr 3 (.tmp 17)⟩, ⟨(some 133), none, .load false 1 (.tmp 132)⟩, ⟨(some 132), none, .faddr 1 (.tmp 131)⟩, ⟨(some 131), none, .faddr 1 (.tmp 17)⟩, ⟨(some 130), none, .load false 1 (.tmp 129)⟩, ⟨(some 129), none, .faddr 0 (.tmp 128)⟩, ⟨(some 128), none, .faddr 1 (.tmp 17)⟩, ⟨(some 126), none, .load false 1 (.tmp 125)⟩, ⟨(some 125), none, .faddr 0 (.tmp 17)⟩, ⟨(some 123), none, .faddr 0 (.tmp 13)⟩] (
 .step ⟨(some 139), none, .faddr 0 (.tmp 13)⟩ (
 .ev ⟨none, none, .store 1 (.tmp 139) (.tmp 138)⟩ [] (
 .done)
 (.stop)))
 (.stop))
 (.stop))
 (.stop))))))))))))))))
 (.reg [⟨(some 140), none, .mov (.tmp 15)⟩,
 ⟨(some 141), none, .mov (.tmp 140)⟩,
 ⟨(some 142), (some (141, true)), .faddr 0 (.tmp 17)⟩,
 ⟨(some 143), (some (141, true)), .load false 1 (.tmp 142)⟩,
 ⟨(some 144), (some (141, true)), .bin .add (.tmp 143) (.lit (.int .i64 720))⟩,
 ⟨(some 145), (some (141, true)), .bin .leq (.tmp 144) (.lit (.int .i64 1440))⟩,
 ⟨(some 146), none, .pick (.tmp 141) (.tmp 145) (.lit (.bool false))⟩,
 ⟨(some 15), none, .mov (.tmp 146)⟩]))))
 (.reg [⟨(some 147), none, .bin .add (.tmp 119) (.lit (.int .i64 1))⟩,
 ⟨(some 119), none, .mov (.tmp 147)⟩])))))))
 (.seq (.seq (.reg [⟨(some 148), none, .faddr 1 (.tmp 4)⟩,
 ⟨(some 149), none, .load false 1 (.tmp 148)⟩,
 ⟨(some 150), none, .len (.tmp 149)⟩,
 ⟨(some 151), none, .mov (.lit (.int .i64 0))⟩])
 (.block 2 (.loop (.seq (.reg [⟨(some 152), none, .bin .lss (.tmp 151) (.tmp 150)⟩])
 (.seq (.cond (.tmp 152) (.skip)
 (.exit 2))
 (.seq (.block 3 (.seq (.reg [⟨(some 153), none, .iaddr 5 (.tmp 149) (.tmp 151)⟩,
 ⟨(some 154), none, .load true 5 (.tmp 153)⟩,
 ⟨(some 19), none, .alloc [(.int .i64 0), (.int .i64 0), (.int .i64 0), (.int .i64 0), (.bool false)]⟩,
 ⟨none, none, .store 5 (.tmp 19) (.tmp 154)⟩])
 (.seq (.draw (.step ⟨(some 155), none, .faddr 1 (.tmp 13)⟩ (
 .step ⟨(some 156), none, .load false 1 (.tmp 155)⟩ (
 .step ⟨(some 157), none, .faddr 0 (.tmp 19)⟩ (
 .step ⟨(some 158), none, .load false 1 (.tmp 157)⟩ (
 .step ⟨(some 159), none, .faddr 1 (.tmp 19)⟩ (
 .step ⟨(some 160), none, .load false 1 (.tmp 159)⟩ (
 .step ⟨(some 161), none, .bin .add (.tmp 160) (.lit (.int .i64 720))⟩ (
 .step ⟨(some 162), none, .faddr 2 (.tmp 19)⟩ (
 .step ⟨(some 163), none, .faddr 0 (.tmp 162)⟩ (
 .step ⟨(some 164), none, .load false 1 (.tmp 163)⟩ (
 .step ⟨(some 165), none, .faddr 2 (.tmp 19)⟩ (
 .step ⟨(some 166), none, .faddr 1 (.tmp 165)⟩ (
 .step ⟨(some 167), none, .load false 1 (.tmp 166)⟩ (
 .step ⟨(some 168), none, .faddr 4 (.tmp 19)⟩ (
 .step ⟨(some 169), none, .load false 1 (.tmp 168)⟩ (
 .ev ⟨(some 170), none, .call (.fn 33) [(.tmp 158), (.tmp 161), (.tmp 164), (.tmp 167), (.tmp 169)]⟩ [⟨(some 168), none, .faddr 4 (.tmp 19)⟩, ⟨(some 166), none, .faddr 1 (.tmp 165)⟩, ⟨(some 165), none, .faddr 2 (.tmp 19)⟩, ⟨(some 163), none, .faddr 0 (.tmp 162)⟩, ⟨(some 162), none, .faddr 2 (.tmp 19)⟩, ⟨(some 160), none, .load false 1 (.tmp 159)⟩, ⟨(some 159), none, .faddr 1 (.tmp 19)⟩, ⟨(some 157), none, .faddr 0 (.tmp 19)⟩, ⟨(some 156), none, .load false 1 (.tmp 155)⟩, ⟨(some 155), none, .faddr 1 (.tmp 13)⟩] (
 .ev ⟨(some 171), none, .bslice 5 (.agg #[(.int .i64 0), (.int .i64 0), (.int .i64 0), (.int .i64 0), (.bool false)]) 1 [(0, (.tmp 170))]⟩ [⟨(some 169), none, .load false 1 (.tmp 168)⟩, ⟨(some 168), none, .faddr 4 (.tmp 19)⟩, ⟨(some 167), none, .load false 1 (.tmp 166)⟩, ⟨(some 166), none, .faddr 1 (.tmp 165)⟩, ⟨(some 165), none, .faddr 2 (.tmp 19)⟩, ⟨(some 164), none, .load false 1 (.tmp 163)⟩, ⟨(some 163), none, .faddr 0 (.tmp 162)⟩, ⟨(some 162), none, .faddr 2 (.tmp 19)⟩, ⟨(some 160), none, .load false 1 (.tmp 159)⟩, ⟨(some 159), none, .faddr 1 (.tmp 19)⟩, ⟨(some 158), none, .load false 1 (.tmp 157)⟩, ⟨(some 157), none, .faddr 0 (.tmp 19)⟩, ⟨(some 156), none, .load false 1 (.tmp 155)⟩, ⟨(some 155), none, .faddr 1 (.tmp 13)⟩] (
 .ev ⟨(some 172), none, .app 5 40 (.tmp 156) (.tmp 171)⟩ [⟨(some 169), none, .load false 1 (.tmp 168)⟩, ⟨(some 168), none, .faddr 4 (.tmp 19)⟩, ⟨(some 167), none, .load false 1 (.tmp 166)⟩, ⟨(some 166), none, .faddr 1 (.tmp 165)⟩, ⟨(some 165), none, .faddr 2 (.tmp 19)⟩, ⟨(some 164), none, .load false 1 (.tmp 163)⟩, ⟨(some 163), none, .faddr 0 (.tmp 162)⟩, ⟨(some 162), none, .faddr 2 (.tmp 19)⟩, ⟨(some 160), none, .load false 1 (.tmp 159)⟩, ⟨(some 159), none, .faddr 1 (.tmp 19)⟩, ⟨(some 158), none, .load false 1 (.tmp 157)⟩, ⟨(some 157), none, .faddr 0 (.tmp 19)⟩, ⟨(some 155), none, .faddr 1 (.tmp 13)⟩] (
 .step ⟨(some 173), none, .faddr 1 (.tmp 13)⟩ (
 .ev ⟨none, none, .store 1 (.tmp 173) (.tmp 172)⟩ [] (
 .done)
 (.stop)))
 (.stop))
 (.stop))
 (.stop))))))))))))))))))
 (.reg [⟨(some 174), none, .mov (.tmp 15)⟩,
 ⟨(some 175), none, .mov (.tmp 174)⟩,
 ⟨(some 176), (some (175, true)), .faddr 1 (.tmp 19)⟩,
 ⟨(some 177), (some (175, true)), .load false 1 (.tmp 176)⟩,
 ⟨(some 178), (some (175, true)), .bin .add (.tmp 177) (.lit (.int .i64 720))⟩,
 ⟨(some 179), (some (175, true)), .bin .leq (.tmp 178) (.lit (.int .i64 1440))⟩,
 ⟨(some 180), none, .pick (.tmp 175) (.tmp 179) (.lit (.bool false))⟩,
 ⟨(some 15), none, .mov (.tmp 180)⟩]))))
 (.reg [⟨(some 181), none, .bin .add (.tmp 151) (.lit (.int .i64 1))⟩,
 ⟨(some 151), none, .mov (.tmp 181)⟩])))))))
 (.seq (.seq (.gcp)
 (.reg [⟨(some 183), none, .load true 2 (.tmp 4)⟩,
 ⟨(some 184), none, .mov (.tmp 9)⟩,
 ⟨(some 185), none, .call (.fn 16) [(.tmp 183), (.tmp 184)]⟩,
 ⟨(some 182), none, .mov (.tmp 185)⟩,
 ⟨(some 186), none, .ext (.tmp 182) 0⟩,
 ⟨(some 187), none, .ext (.tmp 182) 1⟩,
 ⟨(some 20), none, .mov (.tmp 186)⟩,
 ⟨(some 21), none, .mov (.tmp 187)⟩]))
 (.seq (.reg [⟨(some 189), none, .load true 2 (.tmp 4)⟩,
 ⟨(some 190), none, .mov (.tmp 9)⟩,
 ⟨(some 191), none, .call (.fn 13) [(.tmp 189), (.tmp 190)]⟩,
 ⟨(some 188), none, .mov (.tmp 191)⟩,
 ⟨(some 192), none, .ext (.tmp 188) 0⟩,
 ⟨(some 193), none, .ext (.tmp 188) 1⟩,
 ⟨(some 22), none, .mov (.tmp 192)⟩,
 ⟨(some 23), none, .mov (.tmp 193)⟩])
 (.seq (.reg [⟨(some 195), none, .load true 2 (.tmp 4)⟩,
 ⟨(some 196), none, .call (.fn 15) [(.tmp 195)]⟩,
 ⟨(some 194), none, .mov (.tmp 196)⟩,
 ⟨(some 197), none, .ext (.tmp 194) 0⟩,
 ⟨(some 198), none, .ext (.tmp 194) 1⟩,
 ⟨(some 24), none, .mov (.tmp 197)⟩,
 ⟨(some 25), none, .mov (.tmp 198)⟩])
 (.seq (.seq (.reg [⟨(some 199), none, .mov (.tmp 23)⟩,
 ⟨(some 200), none, .bin .neq (.tmp 199) (.lit (.int .i64 0))⟩,
 ⟨(some 201), none, .mov (.tmp 200)⟩,
 ⟨(some 202), (some (201, false)), .mov (.tmp 25)⟩,
 ⟨(some 203), (some (201, false)), .bin .neq (.tmp 202) (.lit (.int .i64 0))⟩,
 ⟨(some 204), none, .pick (.tmp 201) (.lit (.bool true)) (.tmp 203)⟩])
 (.cond (.tmp 204) (.seq (.reg [⟨(some 8), none, .mov (.lit (.bool false))⟩])
 (.ret))
 (.skip)))
 (.seq (.seq (.reg [⟨(some 205), none, .load true 2 (.tmp 10)⟩,
 ⟨(some 206), none, .call (.fn 27) [(.tmp 205)]⟩])
 (.cond (.tmp 206) (.seq (.reg [⟨(some 208), none, .load true 2 (.tmp 10)⟩,
 ⟨(some 209), none, .mov (.tmp 9)⟩,
 ⟨(some 210), none, .call (.fn 16) [(.tmp 208), (.tmp 209)]⟩,
 ⟨(some 207), none, .mov (.tmp 210)⟩,
 ⟨(some 211), none, .ext (.tmp 207) 0⟩,
 ⟨(some 212), none, .ext (.tmp 207) 1⟩,
 ⟨(some 26), none, .mov (.tmp 211)⟩,
 ⟨(some 27), none, .mov (.tmp 212)⟩])
 (.seq (.reg [⟨(some 213), none, .mov (.tmp 27)⟩,
 ⟨(some 214), none, .bin .neq (.tmp 213) (.lit (.int .i64 0))⟩,
 ⟨(some 215), none, .mov (.tmp 214)⟩,
 ⟨(some 216), (some (215, true)), .mov (.tmp 27)⟩,
 ⟨(some 217), (some (215, true)), .bin .neq (.tmp 216) (.lit (.int .i64 10))⟩,
 ⟨(some 218), none, .pick (.tmp 215) (.tmp 217) (.lit (.bool false))⟩,
 ⟨(some 219), none, .mov (.tmp 218)⟩,
 ⟨(some 220), (some (219, false)), .mov (.tmp 27)⟩,
 ⟨(some 221), (some (219, false)), .bin .eql (.tmp 220) (.lit (.int .i64 0))⟩,
 ⟨(some 222), (some (219, false)), .mov (.tmp 221)⟩,
 ⟨(some 223), (some (222, true)), .mov (.tmp 21)⟩,
 ⟨(some 224), (some (222, true)), .bin .neq (.tmp 223) (.lit (.int .i64 0))⟩,
 ⟨(some 225), (some (222, true)), .mov (.tmp 224)⟩,
 ⟨(some 226), (some (225, false)), .mov (.tmp 26)⟩,
 ⟨(some 227), (some (225, false)), .mov (.tmp 20)⟩,
 ⟨(some 228), (some (225, false)), .bin .andNot (.tmp 226) (.tmp 227)⟩,
 ⟨(some 229), (some (225, false)), .bin .neq (.tmp 228) (.lit (.int .i64 0))⟩,
 ⟨(some 230), (some (222, true)), .pick (.tmp 225) (.lit (.bool true)) (.tmp 229)⟩,
 ⟨(some 231), (some (219, false)), .pick (.tmp 222) (.tmp 230) (.lit (.bool false))⟩,
 ⟨(some 232), none, .pick (.tmp 219) (.lit (.bool true)) (.tmp 231)⟩])
 (.cond (.tmp 232) (.seq (.reg [⟨(some 8), none, .mov (.lit (.bool false))⟩])
 (.ret))
 (.skip))))
 (.skip)))
 (.seq (.seq (.reg [⟨(some 233), none, .load true 2 (.tmp 11)⟩,
 ⟨(some 234), none, .call (.fn 27) [(.tmp 233)]⟩])
 (.cond (.tmp 234) (.seq (.reg [⟨(some 236), none, .load true 2 (.tmp 11)⟩,
 ⟨(some 237), none, .mov (.tmp 9)⟩,
 ⟨(some 238), none, .call (.fn 16) [(.tmp 236), (.tmp 237)]⟩,
 ⟨(some 235), none, .mov (.tmp 238)⟩,
 ⟨(some 239), none, .ext (.tmp 235) 0⟩,
 ⟨(some 240), none, .ext (.tmp 235) 1⟩,
 ⟨(some 28), none, .mov (.tmp 239)⟩,
 ⟨(some 29), none, .mov (.tmp 240)⟩])
 (.seq (.reg [⟨(some 242), none, .load true 2 (.tmp 11)⟩,
 ⟨(some 243), none, .call (.fn 15) [(.tmp 242)]⟩,
 ⟨(some 241), none, .mov (.tmp 243)⟩,
 ⟨(some 244), none, .ext (.tmp 241) 0⟩,
 ⟨(some 245), none, .ext (.tmp 241) 1⟩,
 ⟨(some 30), none, .mov (.tmp 244)⟩,
 ⟨(some 31), none, .mov (.tmp 245)⟩])
 (.seq (.reg [⟨(some 246), none, .mov (.tmp 31)⟩,
 ⟨(some 247), none, .bin .neq (.tmp 246) (.lit (.int .i64 0))⟩,
 ⟨(some 248), none, .mov (.tmp 247)⟩,
 ⟨(some 249), (some (248, false)), .mov (.tmp 30)⟩,
 ⟨(some 250), (some (248, false)), .mov (.tmp 24)⟩,
 ⟨(some 251), (some (248, false)), .bin .lss (.tmp 249) (.tmp 250)⟩,
 ⟨(some 252), none, .pick (.tmp 248) (.lit (.bool true)) (.tmp 251)⟩,
 ⟨(some 253), none, .mov (.tmp 252)⟩,
 ⟨(some 254), (some (253, false)), .mov (.tmp 21)⟩,
 ⟨(some 255), (some (253, false)), .bin .eql (.tmp 254) (.lit (.int .i64 0))⟩,
 ⟨(some 256), (some (253, false)), .mov (.tmp 255)⟩,
 ⟨(some 257), (some (256, true)), .mov (.tmp 29)⟩,
 ⟨(some 258), (some (256, true)), .bin .neq (.tmp 257) (.lit (.int .i64 0))⟩,
 ⟨(some 259), (some (256, true)), .mov (.tmp 258)⟩,
 ⟨(some 260), (some (259, false)), .mov (.tmp 20)⟩,
 ⟨(some 261), (some (259, false)), .mov (.tmp 28)⟩,
 ⟨(some 262), (some (259, false)), .bin .andNot (.tmp 260) (.tmp 261)⟩,
 ⟨(some 263), (some (259, false)), .bin .neq (.tmp 262) (.lit (.int .i64 0))⟩,
 ⟨(some 264), (some (256, true)), .pick (.tmp 259) (.lit (.bool true)) (.tmp 263)⟩,
 ⟨(some 265), (some (253, false)), .pick (.tmp 256) (.tmp 264) (.lit (.bool false))⟩,
 ⟨(some 266), none, .pick (.tmp 253) (.lit (.bool true)) (.tmp 265)⟩])
 (.cond (.tmp 266) (.seq (.reg [⟨(some 8), none, .mov (.lit (.bool false))⟩])
 (.ret))
 (.skip)))))
 (.skip)))
 (.seq (.reg [⟨(some 268), none, .load true 2 (.tmp 12)⟩,
 ⟨(some 269), none, .mov (.tmp 9)⟩,
 ⟨(some 270), none, .call (.fn 13) [(.tmp 268), (.tmp 269)]⟩,
 ⟨(some 267), none, .mov (.tmp 270)⟩,
 ⟨(some 271), none, .ext (.tmp 267) 0⟩,
 ⟨(some 272), none, .ext (.tmp 267) 1⟩,
 ⟨(some 32), none, .mov (.tmp 271)⟩,
 ⟨(some 33), none, .mov (.tmp 272)⟩])
 (.seq (.reg [⟨(some 274), none, .load true 2 (.tmp 12)⟩,
 ⟨(some 275), none, .call (.fn 15) [(.tmp 274)]⟩,
 ⟨(some 273), none, .mov (.tmp 275)⟩,
 ⟨(some 276), none, .ext (.tmp 273) 0⟩,
 ⟨(some 277), none, .ext (.tmp 273) 1⟩,
 ⟨(some 34), none, .mov (.tmp 276)⟩,
 ⟨(some 35), none, .mov (.tmp 277)⟩])
 (.seq (.seq (.reg [⟨(some 278), none, .mov (.tmp 33)⟩,
 ⟨(some 279), none, .bin .neq (.tmp 278) (.lit (.int .i64 0))⟩,
 ⟨(some 280), none, .mov (.tmp 279)⟩,
 ⟨(some 281), (some (280, false)), .mov (.tmp 35)⟩,
 ⟨(some 282), (some (280, false)), .bin .neq (.tmp 281) (.lit (.int .i64 0))⟩,
 ⟨(some 283), none, .pick (.tmp 280) (.lit (.bool true)) (.tmp 282)⟩,
 ⟨(some 284), none, .mov (.tmp 283)⟩,
 ⟨(some 285), (some (284, false)), .mov (.tmp 22)⟩,
 ⟨(some 286), (some (284, false)), .mov (.tmp 32)⟩,
 ⟨(some 287), (some (284, false)), .bin .andNot (.tmp 285) (.tmp 286)⟩,
 ⟨(some 288), (some (284, false)), .bin .neq (.tmp 287) (.lit (.int .i64 0))⟩,
 ⟨(some 289), none, .pick (.tmp 284) (.lit (.bool true)) (.tmp 288)⟩,
 ⟨(some 290), none, .mov (.tmp 289)⟩,
 ⟨(some 291), (some (290, false)), .mov (.tmp 34)⟩,
 ⟨(some 292), (some (290, false)), .mov (.tmp 24)⟩,
 ⟨(some 293), (some (290, false)), .bin .lss (.tmp 291) (.tmp 292)⟩,
 ⟨(some 294), none, .pick (.tmp 290) (.lit (.bool true)) (.tmp 293)⟩])
 (.cond (.tmp 294) (.seq (.reg [⟨(some 8), none, .mov (.lit (.bool false))⟩])
 (.ret))
 (.skip)))
 (.seq (.seq (.reg [⟨(some 295), none, .mov (.tmp 15)⟩,
 ⟨(some 296), none, .un .not (.tmp 295)⟩])
 (.cond (.tmp 296) (.seq (.reg [⟨(some 297), none, .call (.fn 20) []⟩,
 ⟨(some 8), none, .mov (.tmp 297)⟩])
 (.ret))
 (.skip)))
 (.seq (.reg [⟨(some 299), none, .load true 2 (.tmp 13)⟩,
 ⟨(some 300), none, .mov (.tmp 9)⟩,
 ⟨(some 301), none, .call (.fn 16) [(.tmp 299), (.tmp 300)]⟩,
 ⟨(some 298), none, .mov (.tmp 301)⟩,
 ⟨(some 302), none, .ext (.tmp 298) 0⟩,
 ⟨(some 303), none, .ext (.tmp 298) 1⟩,
 ⟨(some 36), none, .mov (.tmp 302)⟩,
 ⟨(some 37), none, .mov (.tmp 303)⟩])
 (.seq (.reg [⟨(some 305), none, .load true 2 (.tmp 13)⟩,
 ⟨(some 306), none, .call (.fn 15) [(.tmp 305)]⟩,
 ⟨(some 304), none, .mov (.tmp 306)⟩,
 ⟨(some 307), none, .ext (.tmp 304) 0⟩,
 ⟨(some 308), none, .ext (.tmp 304) 1⟩,
 ⟨(some 38), none, .mov (.tmp 307)⟩,
 ⟨(some 39), none, .mov (.tmp 308)⟩])
 (.seq (.seq (.reg [⟨(some 309), none, .mov (.tmp 36)⟩,
 ⟨(some 310), none, .mov (.tmp 20)⟩,
 ⟨(some 311), none, .bin .neq (.tmp 309) (.tmp 310)⟩,
 ⟨(some 312), none, .mov (.tmp 311)⟩,
 ⟨(some 313), (some (312, false)), .mov (.tmp 37)⟩,
 ⟨(some 314), (some (312, false)), .mov (.tmp 21)⟩,
 ⟨(some 315), (some (312, false)), .bin .neq (.tmp 313) (.tmp 314)⟩,
 ⟨(some 316), none, .pick (.tmp 312) (.lit (.bool true)) (.tmp 315)⟩,
 ⟨(some 317), none, .mov (.tmp 316)⟩,
 ⟨(some 318), (some (317, false)), .mov (.tmp 38)⟩,
 ⟨(some 319), (some (317, false)), .mov (.tmp 24)⟩,
 ⟨(some 320), (some (317, false)), .bin .neq (.tmp 318) (.tmp 319)⟩,
 ⟨(some 321), none, .pick (.tmp 317) (.lit (.bool true)) (.tmp 320)⟩,
 ⟨(some 322), none, .mov (.tmp 321)⟩,
 ⟨(some 323), (some (322, false)), .mov (.tmp 39)⟩,
 ⟨(some 324), (some (322, false)), .bin .neq (.tmp 323) (.lit (.int .i64 0))⟩,
 ⟨(some 325), none, .pick (.tmp 322) (.lit (.bool true)) (.tmp 324)⟩])
 (.cond (.tmp 325) (.seq (.reg [⟨(some 8), none, .mov (.lit (.bool false))⟩])
 (.ret))
 (.skip)))
 (.seq (.seq (.reg [⟨(some 326), none, .faddr 0 (.tmp 4)⟩,
 ⟨(some 327), none, .load false 1 (.tmp 326)⟩,
 ⟨(some 328), none, .len (.tmp 327)⟩,
 ⟨(some 329), none, .mov (.lit (.int .i64 0))⟩])
 (.block 4 (.loop (.seq (.reg [⟨(some 330), none, .bin .lss (.tmp 329) (.tmp 328)⟩])
 (.seq (.cond (.tmp 330) (.skip)
 (.exit 4))
 (.seq (.block 5 (.seq (.reg [⟨(some 331), none, .mov (.tmp 329)⟩,
 ⟨(some 40), none, .mov (.tmp 331)⟩])
 (.seq (.reg [⟨(some 333), none, .load true 2 (.tmp 4)⟩,
 ⟨(some 334), none, .mov (.tmp 9)⟩,
 ⟨(some 335), none, .mov (.tmp 40)⟩,
 ⟨(some 336), none, .call (.fn 14) [(.tmp 333), (.tmp 334), (.tmp 335)]⟩,
 ⟨(some 332), none, .mov (.tmp 336)⟩,
 ⟨(some 337), none, .ext (.tmp 332) 0⟩,
 ⟨(some 338), none, .ext (.tmp 332) 1⟩,
 ⟨(some 41), none, .mov (.tmp 337)⟩,
 ⟨(some 42), none, .mov (.tmp 338)⟩])
 (.seq (.reg [⟨(some 340), none, .load true 2 (.tmp 13)⟩,
 ⟨(some 341), none, .mov (.tmp 9)⟩,
 ⟨(some 342), none, .mov (.tmp 40)⟩,
 ⟨(some 343), none, .call (.fn 14) [(.tmp 340), (.tmp 341), (.tmp 342)]⟩,
 ⟨(some 339), none, .mov (.tmp 343)⟩,
 ⟨(some 344), none, .ext (.tmp 339) 0⟩,
 ⟨(some 345), none, .ext (.tmp 339) 1⟩,
 ⟨(some 43), none, .mov (.tmp 344)⟩,
 ⟨(some 44), none, .mov (.tmp 345)⟩])
 (.seq (.seq (.reg [⟨(some 346), none, .mov (.tmp 42)⟩,
 ⟨(some 347), none, .mov (.tmp 44)⟩,
 ⟨(some 348), none, .bin .neq (.tmp 346) (.tmp 347)⟩,
 ⟨(some 349), none, .mov (.tmp 348)⟩,
 ⟨(some 350), (some (349, false)), .mov (.tmp 41)⟩,
 ⟨(some 351), (some (349, false)), .len (.tmp 350)⟩,
 ⟨(some 352), (some (349, false)), .mov (.tmp 43)⟩,
 ⟨(some 353), (some (349, false)), .len (.tmp 352)⟩,
 ⟨(some 354), (some (349, false)), .bin .neq (.tmp 351) (.tmp 353)⟩,
 ⟨(some 355), none, .pick (.tmp 349) (.lit (.bool true)) (.tmp 354)⟩])
 (.cond (.tmp 355) (.seq (.reg [⟨(some 8), none, .mov (.lit (.bool false))⟩])
 (.ret))
 (.skip)))
 (.seq (.reg [⟨(some 356), none, .mov (.tmp 41)⟩,
 ⟨(some 357), none, .len (.tmp 356)⟩,
 ⟨(some 358), none, .mov (.lit (.int .i64 0))⟩])
 (.block 6 (.loop (.seq (.reg [⟨(some 359), none, .bin .lss (.tmp 358) (.tmp 357)⟩])
 (.seq (.cond (.tmp 359) (.skip)
 (.exit 6))
 (.seq (.block 7 (.seq (.reg [⟨(some 360), none, .mov (.tmp 358)⟩,
 ⟨(some 45), none, .mov (.tmp 360)⟩])
 (.seq (.draw (.step ⟨(some 361), none, .mov (.tmp 43)⟩ (
 .step ⟨(some 362), none, .mov (.tmp 45)⟩ (
 .step ⟨(some 363), none, .iaddr 2 (.tmp 361) (.tmp 362)⟩ (
 .step ⟨(some 364), none, .load true 2 (.tmp 363)⟩ (
 .step ⟨(some 365), none, .mov (.tmp 41)⟩ (
 .step ⟨(some 366), none, .mov (.tmp 45)⟩ (
 .step ⟨(some 367), none, .iaddr 2 (.tmp 365) (.tmp 366)⟩ (
 .step ⟨(some 368), none, .faddr 0 (.tmp 367)⟩ (
 .step ⟨(some 369), none, .load false 1 (.tmp 368)⟩ (
 .step ⟨(some 370), none, .bin .add (.tmp 369) (.lit (.int .i64 720))⟩ (
 .step ⟨(some 371), none, .mov (.tmp 41)⟩ (
 .step ⟨(some 372), none, .mov (.tmp 45)⟩ (
 .step ⟨(some 373), none, .iaddr 2 (.tmp 371) (.tmp 372)⟩ (
 .step ⟨(some 374), none, .faddr 1 (.tmp 373)⟩ (
 .step ⟨(some 375), none, .load false 1 (.tmp 374)⟩ (
 .step ⟨(some 376), none, .bin .add (.tmp 375) (.lit (.int .i64 720))⟩ (
 .ev ⟨(some 377), none, .call (.fn 34) [(.tmp 370), (.tmp 376)]⟩ [⟨(some 375), none, .load false 1 (.tmp 374)⟩, ⟨(some 374), none, .faddr 1 (.tmp 373)⟩, ⟨(some 373), none, .iaddr 2 (.tmp 371) (.tmp 372)⟩, ⟨(some 369), none, .load false 1 (.tmp 368)⟩, ⟨(some 368), none, .faddr 0 (.tmp 367)⟩, ⟨(some 367), none, .iaddr 2 (.tmp 365) (.tmp 366)⟩, ⟨(some 364), none, .load true 2 (.tmp 363)⟩, ⟨(some 363), none, .iaddr 2 (.tmp 361) (.tmp 362)⟩] (
 .step ⟨(some 378), none, .eqs true [(some .i64), (some .i64)] (.tmp 364) (.tmp 377)⟩ (
 .done))
 (.stop)))))))))))))))))))
 (.cond (.tmp 378) (.seq (.reg [⟨(some 8), none, .mov (.lit (.bool false))⟩])
 (.ret))
 (.skip)))))
 (.reg [⟨(some 379), none, .bin .add (.tmp 358) (.lit (.int .i64 1))⟩,
 ⟨(some 358), none, .mov (.tmp 379)⟩]))))))))))))
 (.reg [⟨(some 380), none, .bin .add (.tmp 329) (.lit (.int .i64 1))⟩,
 ⟨(some 329), none, .mov (.tmp 380)⟩])))))))
 (.seq (.reg [⟨(some 381), none, .call (.fn 20) []⟩,
 ⟨(some 8), none, .mov (.tmp 381)⟩])
 (.ret))))))))))))))))))))))))))
theorem k9 : FnC Tryd.prog 9 382 [] [2000005, 6, 8, 22] [.tmp 8] c9 4 := ⟨Tryd.f9, _, Tryd.func9, rfl, by decide, rfl, by decide, by kernel_rfl, by kernel_rfl⟩
end Go.Proofs.YtnmmhkkmejbckaaDoor

/- WatchMore: what is so of each operation of a drawn region that makes three lists. -/
namespace Go.Proofs.YtnmmhkkmejbckaaDoor
open Go Go.Ab

theorem specStopped_in {w : Wa} (hok : w.ok = true) {i k : Nat} {f : Fi} {o : Ow} (hi : w.fs[i]? = some f) (hk : w.os[k]? = some o) : specStopped w i k = if f.stopped then (if minsL o f = [] then ([], 4) else (spansL (minsL o f), 0)) else ([], 11) := by
  have h1 := (List.getElem?_eq_some_iff.1 hi).1
  have h2 := (List.getElem?_eq_some_iff.1 hk).1
  unfold specStopped
  rw [hok, if_pos rfl, isF_at h1, isO_at h2, Bool.true_and, if_pos rfl, Int.toNat_natCast, Int.toNat_natCast, hi, hk]
def mrD : List (List Nat) := [[], [], [1], [0, 2], [], [4], [3, 5, 3], [], [], [8], [7, 9, 6], [], [11], [10, 12, 10], [], [], [15], [14, 16, 13], [0, 1, 2, 3, 4, 5, 6], [18, 6, 17, 0, 1, 2, 3, 4, 5, 6], [0, 1, 2, 3, 4, 5, 6, 7, 8, 9, 10, 11, 12, 13, 18, 19], [20, 13, 19, 0, 1, 2, 3, 4, 5, 6, 7, 8, 9, 10, 11, 12, 13, 18, 19], [0, 1, 2, 3, 4, 5, 6, 7, 8, 9, 10, 11, 12, 13, 14, 15, 16, 17, 18, 19, 20, 21], [22, 17, 21, 0, 1, 2, 3, 4, 5, 6, 7, 8, 9, 10, 11, 12, 13, 14, 15, 16, 17, 18, 19, 20, 21]]
def mkOp : Nat → Nat
  | 0 => 0
  | 1 => 5
  | 2 => 7
  | 3 => 12
  | _ => 14
def mrRow (w : Wa) (o : Ow) (f : Fi) (L : Nat → Bool) : Nat → AO
  | 0 => .row 5 (((if L 6 then w.fs ++ [f] else if L 3 then w.fs else []).map tFi).map .t)
  | 1 => .row 5 (([f].map tFi).map .t)
  | 2 => .row 4 (((if L 13 then w.os ++ [o] else if L 10 then w.os else []).map tOw).map .t)
  | 3 => .row 4 (([o].map tOw).map .t)
  | _ => .row 5 (((if L 17 then w.fs else []).map tFi).map .t)
def mrVal (w : Wa) (o : Ow) (f : Fi) (a b c : Nat) (ix : Nat → Nat) : Nat → Option (Nat × E)
  | 0 => some (70, .loc (ix 0) 0)
  | 1 => some (71, .ptr 0 1)
  | 2 => some (72, .t (.slice 5 (w.fs.map tFi)))
  | 3 => some (73, .loc (ix 0) w.fs.length)
  | 4 => some (74, .t (tFi f))
  | 5 => some (75, .loc (ix 1) 1)
  | 6 => some (76, .loc (ix 0) (w.fs.length + 1))
  | 7 => some (77, .loc (ix 2) 0)
  | 8 => some (78, .ptr 0 0)
  | 9 => some (79, .t (.slice 4 (w.os.map tOw)))
  | 10 => some (80, .loc (ix 2) w.os.length)
  | 11 => some (81, .t (tOw o))
  | 12 => some (82, .loc (ix 3) 1)
  | 13 => some (83, .loc (ix 2) (w.os.length + 1))
  | 14 => some (84, .loc (ix 4) 0)
  | 15 => some (85, .ptr 0 1)
  | 16 => some (86, .t (.slice 5 (w.fs.map tFi)))
  | 17 => some (87, .loc (ix 4) w.fs.length)
  | 18 => some (88, .ptr a 1)
  | 20 => some (89, .ptr b 0)
  | 22 => some (90, .ptr c 1)
  | _ => none
def mrDst : List Nat := [70, 71, 72, 73, 74, 75, 76, 77, 78, 79, 80, 81, 82, 83, 84, 85, 86, 87, 88, 1000, 89, 1001, 90, 1002]
def mrGrp : Nat → Option Nat
  | 0 => some 0
  | 3 => some 0
  | 6 => some 0
  | 5 => some 1
  | 7 => some 2
  | 10 => some 2
  | 13 => some 2
  | 12 => some 3
  | 14 => some 4
  | 17 => some 4
  | _ => none
theorem mrVal_dst {w : Wa} {o : Ow} {f : Fi} {a b c : Nat} {ix : Nat → Nat} : ∀ {j d : Nat} {e : E}, mrVal w o f a b c ix j = some (d, e) → mrDst[j]? = some d := by
  intro j d e h
  unfold mrVal at h
  split at h <;> first | (cases h; rfl) | cases h
theorem mrDst_inj {j k d : Nat} (h1 : mrDst[j]? = some d) (h2 : mrDst[k]? = some d) : j = k := by
  have hnd : mrDst.Nodup := by decide
  obtain ⟨a1, a2⟩ := List.getElem?_eq_some_iff.1 h1
  obtain ⟨b1, b2⟩ := List.getElem?_eq_some_iff.1 h2
  exact (List.getElem_inj hnd).1 (a2.trans b2.symm)
theorem mrVal_ix {w : Wa} {o : Ow} {f : Fi} {a b c : Nat} {ix ix' : Nat → Nat} {j : Nat} (h : ∀ g, mrGrp j = some g → ix g = ix' g) : mrVal w o f a b c ix j = mrVal w o f a b c ix' j := by
  unfold mrVal
  unfold mrGrp at h
  split <;> first | rfl | (rw [h _ rfl])
/-- What is so. -/
structure MrI (w : Wa) (o : Ow) (f : Fi) (a b c d : Nat) (env0 : List (Nat × E)) (ix : Nat → Nat) (L : Nat → Bool) (s : St) : Prop where
  cl : ∀ j, L j = true → ∀ x ∈ mrD.getD j [], L x = true
  ids : ∀ g, g < 5 → L (mkOp g) = true → 7 ≤ ix g ∧ s.σ[ix g]? = some (mrRow w o f L g)
  ne : ∀ g h, g < 5 → h < 5 → L (mkOp g) = true → L (mkOp h) = true → ix g = ix h → g = h
  c0 : s.σ[0]? = some (.cells [.t (.slice 4 (w.os.map tOw)), .t (.slice 5 (w.fs.map tFi))])
  c1 : s.σ[1]? = some (.cells [.t (vi o.set_), .t (vi o.lo), .t (vi o.hi), .t (vi o.huts)])
  c2 : s.σ[2]? = some (.cells [.t (vi f.hut), .t (vi f.minute), .t (vi f.lo), .t (vi f.hi), .t (vb f.stopped)])
  ca : s.σ[a]? = some (.cells [.t (.slice 4 (w.os.map tOw)), if L 19 then .loc (ix 0) (w.fs.length + 1) else .t (.slice 5 (w.fs.map tFi))])
  cb : s.σ[b]? = some (.cells [if L 21 then .loc (ix 2) (w.os.length + 1) else .t (.slice 4 (w.os.map tOw)), .t (.slice 5 (w.fs.map tFi))])
  cc : s.σ[c]? = some (.cells [.t (.slice 4 (w.os.map tOw)), if L 23 then .loc (ix 4) w.fs.length else .t (.slice 5 (w.fs.map tFi))])
  cd : s.σ[d]? = some (.cells [.t (.slice 4 (w.os.map tOw)), .t (.slice 5 (w.fs.map tFi))])
  en : ∀ n, n < 70 → lk s.env n = lk env0 n
  ev : ∀ j, L j = true → ∀ x e, mrVal w o f a b c ix j = some (x, e) → lk s.env x = e
  df : s.df = []
  k : s.k = 0
structure MrD (a b c d : Nat) : Prop where
  a3 : 3 ≤ a ∧ a < 7
  b3 : 3 ≤ b ∧ b < 7
  c3 : 3 ≤ c ∧ c < 7
  d3 : 3 ≤ d ∧ d < 7
  ab : a ≠ b
  ac : a ≠ c
  ad : a ≠ d
  bc : b ≠ c
  bd : b ≠ d
  cd : c ≠ d
section
variable {w : Wa} {o : Ow} {f : Fi} {a b c d : Nat} {env0 : List (Nat × E)} {ix : Nat → Nat} {L : Nat → Bool} {env : List (Nat × E)} {σ : List AO}
theorem or_at {j x : Nat} (h : (x == j || L x) = true) : x = j ∨ L x = true := by
  rw [Bool.or_eq_true, beq_iff_eq] at h
  exact h
theorem or_ne {j x : Nat} (h : x ≠ j) : (x == j || L x) = L x := by
  rw [beq_false_of_ne h, Bool.false_or]
theorem cl_put (h : ∀ j, L j = true → ∀ x ∈ mrD.getD j [], L x = true) {j : Nat} (hd : ∀ x ∈ mrD.getD j [], L x = true) : ∀ i, (i == j || L i) = true → ∀ x ∈ mrD.getD i [], (x == j || L x) = true := by
  intro i hi x hx
  rw [Bool.or_eq_true]
  rcases or_at hi with rfl | hi
  · exact .inr (hd x hx)
  · exact .inr (h i hi x hx)
theorem en_put {n0 : Nat} (h : ∀ n, n < 70 → lk env n = lk env0 n) (hn : 70 ≤ n0) (e : E) : ∀ n, n < 70 → lk ((n0, e) :: env) n = lk env0 n := fun n hn' => by
  simp only [lk]
  rw [if_neg (by omega)]
  exact h n hn'
theorem dst_70 {j x : Nat} (h : mrDst[j]? = some x) : 70 ≤ x := by
  have : ∀ y ∈ mrDst, 70 ≤ y := by decide
  exact this x (List.mem_of_getElem? h)
theorem ev_put {ix' : Nat → Nat} (h : ∀ j, L j = true → ∀ x e, mrVal w o f a b c ix j = some (x, e) → lk env x = e) {j x0 : Nat} {e0 : E} (hv : mrVal w o f a b c ix' j = some (x0, e0)) (hix : ∀ i, L i = true → ∀ g, mrGrp i = some g → ix g = ix' g) : ∀ i, (i == j || L i) = true → ∀ x e, mrVal w o f a b c ix' i = some (x, e) → lk ((x0, e0) :: env) x = e := by
  intro i hi x e hx
  simp only [lk]
  by_cases hij : i = j
  · subst hij
    rw [hv] at hx
    cases hx
    rw [if_pos rfl]
  · rcases or_at hi with hi | hi
    · exact absurd hi hij
    · have hne : x ≠ x0 := fun e2 => hij (mrDst_inj (mrVal_dst hx) (e2 ▸ mrVal_dst hv))
      rw [if_neg hne]
      refine h i hi x e ?_
      rw [← hx]
      exact mrVal_ix (hix i hi)
theorem row_put {j : Nat} (h : j ≠ 3 ∧ j ≠ 6 ∧ j ≠ 10 ∧ j ≠ 13 ∧ j ≠ 17) (g : Nat) : mrRow w o f (fun x => x == j || L x) g = mrRow w o f L g := by
  unfold mrRow
  split <;> simp only [or_ne (L := L) (Ne.symm h.1), or_ne (L := L) (Ne.symm h.2.1), or_ne (L := L) (Ne.symm h.2.2.1), or_ne (L := L) (Ne.symm h.2.2.2.1), or_ne (L := L) (Ne.symm h.2.2.2.2)]
def plain : List Nat := [1, 2, 4, 8, 9, 11, 15, 16, 18, 20, 22]
/-- An operation that changes no object. -/
theorem MrI.pure (h : MrI w o f a b c d env0 ix L { env := env, σ := σ }) {j x0 : Nat} {e0 : E} (hj : j ∈ plain) (hd : ∀ x ∈ mrD.getD j [], L x = true) (hv : mrVal w o f a b c ix j = some (x0, e0)) : MrI w o f a b c d env0 ix (fun x => x == j || L x) { env := (x0, e0) :: env, σ := σ } := by
  have hn : ∀ y ∈ plain, (y ≠ 3 ∧ y ≠ 6 ∧ y ≠ 10 ∧ y ≠ 13 ∧ y ≠ 17) ∧ (y ≠ 19 ∧ y ≠ 21 ∧ y ≠ 23) ∧ ∀ g, g < 5 → mkOp g ≠ y := by decide
  obtain ⟨n1, n2, n3⟩ := hn j hj
  refine ⟨cl_put h.cl hd, fun g hg hc => ?_, fun g g' hg hg' hc hc' => ?_, h.c0, h.c1, h.c2, ?_, ?_, ?_, h.cd, en_put h.en (dst_70 (mrVal_dst hv)) _, ev_put h.ev hv (fun _ _ _ _ => rfl), h.df, h.k⟩
  · rw [row_put n1]
    rw [or_ne (n3 g hg)] at hc
    exact h.ids g hg hc
  · rw [or_ne (n3 g hg)] at hc
    rw [or_ne (n3 g' hg')] at hc'
    exact h.ne g g' hg hg' hc hc'
  · rw [or_ne (Ne.symm n2.1)]; exact h.ca
  · rw [or_ne (Ne.symm n2.2.1)]; exact h.cb
  · rw [or_ne (Ne.symm n2.2.2)]; exact h.cc
theorem grp_ok (h : MrI w o f a b c d env0 ix L { env := env, σ := σ }) : ∀ i, L i = true → ∀ g, mrGrp i = some g → g < 5 ∧ L (mkOp g) = true := by
  intro i hi g hg
  unfold mrGrp at hg
  have hc := h.cl
  split at hg
  all_goals first | (cases hg; done) | (cases hg)
  · exact ⟨by omega, hi⟩
  · exact ⟨by omega, hc 3 hi 0 (by decide)⟩
  · exact ⟨by omega, hc 3 (hc 6 hi 3 (by decide)) 0 (by decide)⟩
  · exact ⟨by omega, hi⟩
  · exact ⟨by omega, hi⟩
  · exact ⟨by omega, hc 10 hi 7 (by decide)⟩
  · exact ⟨by omega, hc 10 (hc 13 hi 10 (by decide)) 7 (by decide)⟩
  · exact ⟨by omega, hi⟩
  · exact ⟨by omega, hi⟩
  · exact ⟨by omega, hc 17 hi 14 (by decide)⟩
theorem app_at {o' p : AO} {i : Nat} (h : σ[i]? = some p) : (σ ++ [o'])[i]? = some p := by
  rw [List.getElem?_append_left (List.getElem?_eq_some_iff.1 h).1]; exact h
/-- A row is made. -/
theorem MrI.make (h : MrI w o f a b c d env0 ix L { env := env, σ := σ }) (hD : MrD a b c d) {g : Nat} (hg : g < 5) {x0 n : Nat} (hL : L (mkOp g) = false) (hd : ∀ x ∈ mrD.getD (mkOp g) [], L x = true) {r : AO} (hr : r = mrRow w o f L g) (hv : ∀ id, mrVal w o f a b c (fun x => if x = g then id else ix x) (mkOp g) = some (x0, .loc id n)) : ∃ ix', MrI w o f a b c d env0 ix' (fun x => x == mkOp g || L x) { env := (x0, .loc σ.length n) :: env, σ := σ ++ [r] } := by
  subst hr
  have hn : ∀ g', g' < 5 → (mkOp g' ≠ 3 ∧ mkOp g' ≠ 6 ∧ mkOp g' ≠ 10 ∧ mkOp g' ≠ 13 ∧ mkOp g' ≠ 17) ∧ (mkOp g' ≠ 19 ∧ mkOp g' ≠ 21 ∧ mkOp g' ≠ 23) := by decide
  have hi : ∀ g', g' < 5 → ∀ g'', g'' < 5 → mkOp g' = mkOp g'' → g' = g'' := by decide
  obtain ⟨n1, n2⟩ := hn g hg
  have hlen : 7 ≤ σ.length := by
    have h3 := hD.a3
    have h4 := hD.b3
    have h5 := hD.c3
    have h6 := hD.d3
    have k1 := (List.getElem?_eq_some_iff.1 h.ca).1
    have k2 := (List.getElem?_eq_some_iff.1 h.cb).1
    have k3 := (List.getElem?_eq_some_iff.1 h.cc).1
    have k4 := (List.getElem?_eq_some_iff.1 h.cd).1
    have := hD.ab
    have := hD.ac
    have := hD.ad
    have := hD.bc
    have := hD.bd
    have := hD.cd
    simp only at k1 k2 k3 k4
    omega
  have old : ∀ g', g' < 5 → L (mkOp g') = true → g' ≠ g := fun g' _ hc e => by rw [e, hL] at hc; cases hc
  have cell : ∀ g', g' < 5 → L (mkOp g') = true → (if g' = g then σ.length else ix g') = ix g' := fun g' h1 h2 => if_neg (old g' h1 h2)
  have c19 : L 19 = true → (if 0 = g then σ.length else ix 0) = ix 0 := fun hc => cell 0 (by omega) (h.cl 19 hc 0 (by decide))
  have c21 : L 21 = true → (if 2 = g then σ.length else ix 2) = ix 2 := fun hc => cell 2 (by omega) (h.cl 21 hc 7 (by decide))
  have c23 : L 23 = true → (if 4 = g then σ.length else ix 4) = ix 4 := fun hc => cell 4 (by omega) (h.cl 23 hc 14 (by decide))
  refine ⟨fun x => if x = g then σ.length else ix x, cl_put h.cl hd, fun g' hg' hc => ?_, fun g' g'' hg' hg'' hc hc' e => ?_, app_at h.c0, app_at h.c1, app_at h.c2, ?_, ?_, ?_, app_at h.cd, en_put h.en (dst_70 (mrVal_dst (hv 0))) _, ev_put h.ev (hv _) (fun i hi g' hg' => ?_), h.df, h.k⟩
  · rw [row_put n1]
    by_cases e : g' = g
    · subst e
      simp only [if_true]
      exact ⟨hlen, by simp⟩
    · have hne : mkOp g' ≠ mkOp g := fun e2 => e (hi g' hg' g hg e2)
      rw [or_ne hne] at hc
      simp only [if_neg e]
      exact ⟨(h.ids g' hg' hc).1, app_at (h.ids g' hg' hc).2⟩
  · have lt : ∀ y, y < 5 → L (mkOp y) = true → ix y < σ.length := fun y h1 h2 => (List.getElem?_eq_some_iff.1 (h.ids y h1 h2).2).1
    by_cases e1 : g' = g
    · by_cases e2 : g'' = g
      · rw [e1, e2]
      · have hne : mkOp g'' ≠ mkOp g := fun e3 => e2 (hi g'' hg'' g hg e3)
        rw [or_ne hne] at hc'
        simp only [e1, if_true, if_neg e2] at e
        have := lt g'' hg'' hc'
        omega
    · have hne : mkOp g' ≠ mkOp g := fun e3 => e1 (hi g' hg' g hg e3)
      rw [or_ne hne] at hc
      by_cases e2 : g'' = g
      · simp only [e2, if_true, if_neg e1] at e
        have := lt g' hg' hc
        omega
      · have hne' : mkOp g'' ≠ mkOp g := fun e3 => e2 (hi g'' hg'' g hg e3)
        rw [or_ne hne'] at hc'
        simp only [if_neg e1, if_neg e2] at e
        exact h.ne g' g'' hg' hg'' hc hc' e
  · rw [or_ne (Ne.symm n2.1)]
    have := h.ca
    cases hc : L 19
    · rw [hc] at this; exact app_at this
    · rw [hc] at this
      simp only [if_true] at this ⊢
      rw [c19 hc]; exact app_at this
  · rw [or_ne (Ne.symm n2.2.1)]
    have := h.cb
    cases hc : L 21
    · rw [hc] at this; exact app_at this
    · rw [hc] at this
      simp only [if_true] at this ⊢
      rw [c21 hc]; exact app_at this
  · rw [or_ne (Ne.symm n2.2.2)]
    have := h.cc
    cases hc : L 23
    · rw [hc] at this; exact app_at this
    · rw [hc] at this
      simp only [if_true] at this ⊢
      rw [c23 hc]; exact app_at this
  · obtain ⟨h1, h2⟩ := grp_ok h i hi g' hg'
    exact (cell g' h1 h2).symm
theorem set_at {o' p : AO} {i k : Nat} (h : σ[i]? = some p) (hne : k ≠ i) : (σ.set k o')[i]? = some p := by rw [List.getElem?_set_ne hne]; exact h
/-- A row grows. -/
theorem MrI.grow (h : MrI w o f a b c d env0 ix L { env := env, σ := σ }) (hD : MrD a b c d) {g j : Nat} (hg : g < 5) (hj : j ∈ ([3, 6, 10, 13, 17] : List Nat)) (hgr : mrGrp j = some g) {x0 n : Nat} (hc : L (mkOp g) = true) (hd : ∀ x ∈ mrD.getD j [], L x = true) {r : AO} (hr : r = mrRow w o f (fun x => x == j || L x) g) (hv : mrVal w o f a b c ix j = some (x0, .loc (ix g) n)) : MrI w o f a b c d env0 ix (fun x => x == j || L x) { env := (x0, .loc (ix g) n) :: env, σ := σ.set (ix g) r } := by
  subst hr
  have hn : ∀ y ∈ ([3, 6, 10, 13, 17] : List Nat), (y ≠ 19 ∧ y ≠ 21 ∧ y ≠ 23) ∧ ∀ g', g' < 5 → mkOp g' ≠ y := by decide
  have hrow : ∀ g', g' < 5 → g' ≠ g → mrRow w o f (fun x => x == j || L x) g' = mrRow w o f L g' := by
    intro g' hg' hne
    have key : ∀ y ∈ ([3, 6, 10, 13, 17] : List Nat), (mrGrp y ≠ some 0 → y ≠ 3 ∧ y ≠ 6) ∧ (mrGrp y ≠ some 2 → y ≠ 10 ∧ y ≠ 13) ∧ (mrGrp y ≠ some 4 → y ≠ 17) := by decide
    obtain ⟨k1, k2, k3⟩ := key j hj
    have hng : mrGrp j ≠ some g' := fun e => hne (Option.some.inj (e.symm.trans hgr))
    have : g' = 0 ∨ g' = 1 ∨ g' = 2 ∨ g' = 3 ∨ g' = 4 := by omega
    rcases this with rfl | rfl | rfl | rfl | rfl
    · unfold mrRow
      simp only [or_ne (L := L) (Ne.symm (k1 hng).1), or_ne (L := L) (Ne.symm (k1 hng).2)]
    · rfl
    · unfold mrRow
      simp only [or_ne (L := L) (Ne.symm (k2 hng).1), or_ne (L := L) (Ne.symm (k2 hng).2)]
    · rfl
    · unfold mrRow
      simp only [or_ne (L := L) (Ne.symm (k3 hng))]
  obtain ⟨n2, n3⟩ := hn j hj
  obtain ⟨i7, isg⟩ := h.ids g hg hc
  have hlt := (List.getElem?_eq_some_iff.1 isg).1
  have ha := hD.a3
  have hb := hD.b3
  have hcc := hD.c3
  have hdd := hD.d3
  refine ⟨cl_put h.cl hd, fun g' hg' hc' => ?_, fun g' g'' hg' hg'' k1 k2 => ?_, set_at h.c0 (by omega), set_at h.c1 (by omega), set_at h.c2 (by omega), ?_, ?_, ?_, set_at h.cd (by omega), en_put h.en (dst_70 (mrVal_dst hv)) _, ev_put h.ev hv (fun _ _ _ _ => rfl), h.df, h.k⟩
  · rw [or_ne (n3 g' hg')] at hc'
    by_cases e : g' = g
    · subst e
      exact ⟨i7, List.getElem?_set_self hlt⟩
    · rw [hrow g' hg' e]
      obtain ⟨q1, q2⟩ := h.ids g' hg' hc'
      exact ⟨q1, set_at q2 (fun e2 => e (h.ne g' g hg' hg hc' hc e2.symm))⟩
  · rw [or_ne (n3 g' hg')] at k1
    rw [or_ne (n3 g'' hg'')] at k2
    exact h.ne g' g'' hg' hg'' k1 k2
  · rw [or_ne (Ne.symm n2.1)]; exact set_at h.ca (by omega)
  · rw [or_ne (Ne.symm n2.2.1)]; exact set_at h.cb (by omega)
  · rw [or_ne (Ne.symm n2.2.2)]; exact set_at h.cc (by omega)
/-- A row is stored. -/
theorem MrI.sto (h : MrI w o f a b c d env0 ix L { env := env, σ := σ }) (hD : MrD a b c d) {j id : Nat} {cs : List E} (hd : ∀ x ∈ mrD.getD j [], L x = true)
    (hj : (j = 19 ∧ id = a ∧ cs = [.t (.slice 4 (w.os.map tOw)), .loc (ix 0) (w.fs.length + 1)]) ∨ (j = 21 ∧ id = b ∧ cs = [.loc (ix 2) (w.os.length + 1), .t (.slice 5 (w.fs.map tFi))]) ∨ (j = 23 ∧ id = c ∧ cs = [.t (.slice 4 (w.os.map tOw)), .loc (ix 4) w.fs.length])) : MrI w o f a b c d env0 ix (fun x => x == j || L x) { env := env, σ := σ.set id (.cells cs) } := by
  have hjn : j = 19 ∨ j = 21 ∨ j = 23 := by
    rcases hj with ⟨e, -⟩ | ⟨e, -⟩ | ⟨e, -⟩ <;> simp [e]
  have hid : id = a ∨ id = b ∨ id = c := by
    rcases hj with ⟨-, e, -⟩ | ⟨-, e, -⟩ | ⟨-, e, -⟩ <;> simp [e]
  have n1 : j ≠ 3 ∧ j ≠ 6 ∧ j ≠ 10 ∧ j ≠ 13 ∧ j ≠ 17 := by omega
  have n3 : ∀ g, g < 5 → mkOp g ≠ j := by
    have : ∀ g, g < 5 → mkOp g ≠ 19 ∧ mkOp g ≠ 21 ∧ mkOp g ≠ 23 := by decide
    intro g hg e
    have := this g hg
    omega
  have ha := hD.a3
  have hb := hD.b3
  have hcc := hD.c3
  have hdd := hD.d3
  have x1 := hD.ab
  have x2 := hD.ac
  have x3 := hD.ad
  have x4 := hD.bc
  have x5 := hD.bd
  have x6 := hD.cd
  have hnone : mrVal w o f a b c ix j = none := by rcases hjn with rfl | rfl | rfl <;> rfl
  refine ⟨cl_put h.cl hd, fun g' hg' hc' => ?_, fun g' g'' hg' hg'' k1 k2 => ?_, set_at h.c0 (by omega), set_at h.c1 (by omega), set_at h.c2 (by omega), ?_, ?_, ?_, set_at h.cd (by omega), h.en, fun i hi x e hx => ?_, h.df, h.k⟩
  · rw [or_ne (n3 g' hg')] at hc'
    rw [row_put n1]
    obtain ⟨q1, q2⟩ := h.ids g' hg' hc'
    exact ⟨q1, set_at q2 (by omega)⟩
  · rw [or_ne (n3 g' hg')] at k1
    rw [or_ne (n3 g'' hg'')] at k2
    exact h.ne g' g'' hg' hg'' k1 k2
  · rcases hj with ⟨rfl, rfl, rfl⟩ | ⟨rfl, rfl, rfl⟩ | ⟨rfl, rfl, rfl⟩
    · exact List.getElem?_set_self (List.getElem?_eq_some_iff.1 h.ca).1
    · rw [or_ne (by decide)]; exact set_at h.ca (by omega)
    · rw [or_ne (by decide)]; exact set_at h.ca (by omega)
  · rcases hj with ⟨rfl, rfl, rfl⟩ | ⟨rfl, rfl, rfl⟩ | ⟨rfl, rfl, rfl⟩
    · rw [or_ne (by decide)]; exact set_at h.cb (by omega)
    · exact List.getElem?_set_self (List.getElem?_eq_some_iff.1 h.cb).1
    · rw [or_ne (by decide)]; exact set_at h.cb (by omega)
  · rcases hj with ⟨rfl, rfl, rfl⟩ | ⟨rfl, rfl, rfl⟩ | ⟨rfl, rfl, rfl⟩
    · rw [or_ne (by decide)]; exact set_at h.cc (by omega)
    · rw [or_ne (by decide)]; exact set_at h.cc (by omega)
    · exact List.getElem?_set_self (List.getElem?_eq_some_iff.1 h.cc).1
  · rcases or_at hi with rfl | hi
    · rw [hnone] at hx; cases hx
    · exact h.ev i hi x e hx
end
end Go.Proofs.YtnmmhkkmejbckaaDoor

/- WatchMore. -/
namespace Go.Proofs.YtnmmhkkmejbckaaDoor
open Go Go.Ab

def owC (o : Ow) : AO := .cells [.t (vi o.set_), .t (vi o.lo), .t (vi o.hi), .t (vi o.huts)]
def fiC (f : Fi) : AO := .cells [.t (vi f.hut), .t (vi f.minute), .t (vi f.lo), .t (vi f.hi), .t (vb f.stopped)]
def waC (w : Wa) : AO := .cells [.t (.slice 4 (w.os.map tOw)), .t (.slice 5 (w.fs.map tFi))]
def M3 (w : Wa) (o : Ow) (f : Fi) (u i : Nat) (st : St) : Prop := lk st.env 3 = .t (.lit (.int .u8 u)) ∧ lk st.env 4 = .ptr 0 0 ∧ lk st.env 5 = .ptr 1 0 ∧ lk st.env 6 = .ptr 2 0 ∧ lk st.env 9 = .t (vi i) ∧ st.σ = [waC w, owC o, fiC f] ∧ st.df = [] ∧ st.k = 0
def M4 (w : Wa) (o : Ow) (f : Fi) (u i a b c d : Nat) (st : St) : Prop := MrD a b c d ∧ lk st.env 3 = .t (.lit (.int .u8 u)) ∧ lk st.env 4 = .ptr 0 0 ∧ lk st.env 5 = .ptr 1 0 ∧ lk st.env 6 = .ptr 2 0 ∧ lk st.env 9 = .t (vi i) ∧ lk st.env 10 = .ptr a 0 ∧ lk st.env 11 = .ptr b 0 ∧ lk st.env 12 = .ptr c 0 ∧ lk st.env 13 = .ptr d 0 ∧ st.σ = [waC w, owC o, fiC f, waC w, waC w, waC w, waC w] ∧ st.df = [] ∧ st.k = 0
/-- The state behind the drawn region, what is dead struck. -/
def S6m (w : Wa) (o : Ow) (f : Fi) (u i : Nat) : St := { env := [(3, .t (.lit (.int .u8 u))), (4, .t (.ptr (tWa w) 0)), (9, .t (vi i)), (10, .t (.ptr (tWa (addF w f)) 0)), (11, .t (.ptr (tWa (addO w o)) 0)), (12, .ptr 0 0), (13, .ptr 1 0)], σ := [.cells [.t (.slice 4 (w.os.map tOw)), .loc 2 w.fs.length], waC w, .row 5 ((w.fs.map tFi).map .t)] }
theorem gc_cellsT {kp : List Nat} {σ : List AO} {id : Nat} {ts : List T} (h : pos? kp id = none) (hc : σ[id]? = some (.cells (ts.map .t))) : E.gc kp σ 12 (.ptr id 0) = .t (.ptr (.agg ts) 0) := by
  rw [E.gc]
  simp only [h, hc, gc_row, allT_t]
theorem gc_keep {kp : List Nat} {σ : List AO} {id j off : Nat} (h : pos? kp id = some j) : E.gc kp σ 12 (.ptr id off) = .ptr j off := by
  rw [E.gc]
  simp only [h]
theorem mr_strike {w : Wa} {o : Ow} {f : Fi} {u i a b c d : Nat} {env0 : List (Nat × E)} {ix : Nat → Nat} {L : Nat → Bool} {s : St} (hD : MrD a b c d) (h : MrI w o f a b c d env0 ix L s) (hL : ∀ j, j < 24 → L j = true)
    (e3 : lk env0 3 = .t (.lit (.int .u8 u))) (e4 : lk env0 4 = .ptr 0 0) (e9 : lk env0 9 = .t (vi i)) (e10 : lk env0 10 = .ptr a 0) (e11 : lk env0 11 = .ptr b 0) (e12 : lk env0 12 = .ptr c 0) (e13 : lk env0 13 = .ptr d 0) :
    s.gc [c, d, ix 4] [3, 4, 9, 10, 11, 12, 13] = S6m w o f u i ∧ gcOK [c, d, ix 4] s.σ = true := by
  have ha := hD.a3
  have hb := hD.b3
  have hcc := hD.c3
  have hdd := hD.d3
  have x1 := hD.ab
  have x2 := hD.ac
  have x3 := hD.ad
  have x4 := hD.bc
  have x5 := hD.bd
  have x6 := hD.cd
  have mk : ∀ g, g < 5 → mkOp g < 24 := by decide
  obtain ⟨z7, z⟩ := h.ids 4 (by omega) (hL _ (by decide))
  obtain ⟨y7, y⟩ := h.ids 2 (by omega) (hL _ (by decide))
  obtain ⟨v7, v⟩ := h.ids 0 (by omega) (hL _ (by decide))
  have n1 : ix 0 ≠ ix 4 := fun e => by have := h.ne 0 4 (by omega) (by omega) (hL _ (by decide)) (hL _ (by decide)) e; omega
  have n2 : ix 2 ≠ ix 4 := fun e => by have := h.ne 2 4 (by omega) (by omega) (hL _ (by decide)) (hL _ (by decide)) e; omega
  have hp : ∀ id, id ≠ c → id ≠ d → id ≠ ix 4 → pos? [c, d, ix 4] id = none := fun id k1 k2 k3 => by
    simp only [pos?, if_neg (Ne.symm k1), if_neg (Ne.symm k2), if_neg (Ne.symm k3), Option.map_none]
  have hpc : pos? [c, d, ix 4] c = some 0 := by simp [pos?]
  have hpd : pos? [c, d, ix 4] d = some 1 := by simp [pos?, x6]
  have hpz : pos? [c, d, ix 4] (ix 4) = some 2 := by
    simp only [pos?]
    rw [if_neg (by omega), if_neg (by omega)]
    rfl
  have hca := h.ca
  have hcb := h.cb
  have hcz := h.cc
  have hcd := h.cd
  have hc0 := h.c0
  have hen := h.en
  rw [hL 19 (by decide)] at hca
  rw [hL 21 (by decide)] at hcb
  rw [hL 23 (by decide)] at hcz
  simp only [if_true] at hca hcb hcz
  have vr : mrRow w o f L 0 = .row 5 (((w.fs ++ [f]).map tFi).map .t) := by unfold mrRow; simp only [hL 6 (by decide), if_true]
  have yr : mrRow w o f L 2 = .row 4 (((w.os ++ [o]).map tOw).map .t) := by unfold mrRow; simp only [hL 13 (by decide), if_true]
  have zr : mrRow w o f L 4 = .row 5 ((w.fs.map tFi).map .t) := by unfold mrRow; simp only [hL 17 (by decide), if_true]
  rw [vr] at v
  rw [yr] at y
  rw [zr] at z
  refine ⟨?_, ?_⟩
  · refine St.gc_mk ?_ ?_ (by rw [h.df]; rfl) h.k
    · simp only [List.map_cons, List.map_nil]
      rw [hen 3 (by omega), hen 4 (by omega), hen 9 (by omega), hen 10 (by omega), hen 11 (by omega), hen 12 (by omega), hen 13 (by omega), e3, e4, e9, e10, e11, e12, e13]
      rw [gc_cellsT (ts := [.slice 4 (w.os.map tOw), .slice 5 (w.fs.map tFi)]) (hp 0 (by omega) (by omega) (by omega)) hc0, gc_keep hpc, gc_keep hpd]
      have g1 : E.gc [c, d, ix 4] s.σ 12 (.ptr a 0) = .t (.ptr (tWa (addF w f)) 0) := by
        rw [E.gc]
        simp only [hp a (by omega) (by omega) (by omega), hca, List.map_cons, List.map_nil]
        rw [gc_loc (n := 9) (hp (ix 0) (by omega) (by omega) n1) v (by simp)]
        rfl
      have g2 : E.gc [c, d, ix 4] s.σ 12 (.ptr b 0) = .t (.ptr (tWa (addO w o)) 0) := by
        rw [E.gc]
        simp only [hp b (by omega) (by omega) (by omega), hcb, List.map_cons, List.map_nil]
        rw [gc_loc (n := 9) (hp (ix 2) (by omega) (by omega) n2) y (by simp)]
        rfl
      rw [g1, g2]
      rfl
    · unfold σgc
      simp only [List.map_cons, List.map_nil, List.getD_eq_getElem?_getD]
      rw [hcz, hcd, z]
      simp only [Option.getD_some, AO.gc, gc_row, List.map_cons, List.map_nil]
      have g3 : E.gc [c, d, ix 4] s.σ 12 (.loc (ix 4) w.fs.length) = .loc 2 w.fs.length := by
        rw [E.gc]
        simp only [hpz]
      rw [g3]
      rfl
  · have l1 := (List.getElem?_eq_some_iff.1 hcz).1
    have l2 := (List.getElem?_eq_some_iff.1 hcd).1
    have l3 := (List.getElem?_eq_some_iff.1 z).1
    unfold gcOK
    have hnd : [c, d, ix 4].Nodup := by
      simp only [List.nodup_cons, List.mem_cons, List.not_mem_nil, or_false, not_or, not_false_eq_true, List.nodup_nil, and_true]
      omega
    simp only [List.all_cons, List.all_nil, Bool.and_true, decide_eq_true l1, decide_eq_true l2, decide_eq_true l3, decide_eq_true hnd]

theorem can_at {W : Wa} (hw : W.OK) {i : Nat} (hi : i < W.fs.length) : ∃ C : Nat, C < 64 ∧ specCan W i = ((C : Int), if waysN W.fits = 0 then 10 else 0) ∧ ∀ o, C.testBit o = true ↔ waysN W.fits ≠ 0 ∧ ((whoseL W.fits).getD i 0).testBit o = true := by
  have hok := (W.ok_iff).2 hw
  have h4 := hw.nf
  rw [specCan_at hok hi]
  by_cases hz : waysN W.fits = 0
  · refine ⟨0, by omega, by rw [if_pos hz, if_pos hz]; rfl, fun o => ?_⟩
    rw [Nat.zero_testBit]
    exact ⟨(fun h => by cases h), fun h => absurd hz h.1⟩
  · have hs := whose_small W.fits hz
    refine ⟨_, ?_, by rw [if_neg hz, if_neg hz], fun o => ⟨fun h => ⟨hz, h⟩, fun h => h.2⟩⟩
    rw [List.getD_eq_getElem?_getD, List.getElem?_eq_getElem (by rw [hs.1]; omega)]
    exact hs.2 _ (List.getElem_mem _)
theorem toKey2W (a b : Int) : toKey (some [some .i64, some .i64], none) (.t (.agg [vi a, vi b])) = some [a, b] := rfl
theorem kEq2W (a b : Int) : kEq [some .i64, some .i64] [a, b] [a, b] = true := by simp [kEq, cellEq]
/-- When it stopped, all later. -/
theorem stop_sh {w : Wa} (hw : w.OK) (hs : (shW w).OK) {i j : Nat} {g : Fi} {x : Ow} (hg : w.fs[i]? = some g) (hx : w.os[j]? = some x) : ∃ (S : List (Int × Int)) (e : Int), specStopped w i j = (S, e) ∧ specStopped (shW w) i j = (S.map shS, e) ∧ (e ≠ 0 → S = []) ∧ S.length ≤ 1441 ∧ ∀ p ∈ S, (0 ≤ p.1 ∧ p.1 ≤ 1440) ∧ 0 ≤ p.2 ∧ p.2 ≤ 1440 := by
  have hok := (w.ok_iff).2 hw
  have hsk := ((shW w).ok_iff).2 hs
  have hg2 : (shW w).fs[i]? = some (shF g) := by unfold shW; rw [List.getElem?_map, hg]; rfl
  have hx2 : (shW w).os[j]? = some (shO x) := by unfold shW; rw [List.getElem?_map, hx]; rfl
  have hgo := hw.fs g (List.mem_of_getElem? hg)
  have hxo := hw.os x (List.mem_of_getElem? hx)
  rw [specStopped_in hok hg hx, specStopped_in hsk hg2 hx2, mins_sh, spans_sh, show (shF g).stopped = g.stopped from rfl]
  cases hst : g.stopped
  · exact ⟨[], 11, rfl, rfl, fun _ => rfl, by simp, by simp⟩
  by_cases he : minsL x g = []
  · rw [he]
    exact ⟨[], 4, rfl, rfl, fun _ => rfl, by simp, by simp⟩
  · have hP := spans_P (minsL_pw x g)
    refine ⟨spansL (minsL x g), 0, ?_, ?_, fun h => absurd rfl h, Nat.le_trans (spansL_len _) (minsL_len x hxo g hgo), fun p hp => ?_⟩
    · rw [if_pos rfl, if_neg he]
    · rw [if_pos rfl, if_neg (by simpa using he)]
    · obtain ⟨a1, a2, -, -⟩ := hP.each p hp
      have b1 := minsL_bd hxo hgo (a2 p.1 (by omega) a1)
      have b2 := minsL_bd hxo hgo (a2 p.2 a1 (by omega))
      exact ⟨b1, b2⟩
/-- The span that is wider. -/
def wideI (f : Fi) (u : Nat) : Int := min (min 719 (f.lo + 30)) (f.hi + 1 + ((u % 7 : Nat) : Int))
def wideF (f : Fi) (u : Nat) : Fi := { f with hi := wideI f u }
def T8 (w : Wa) (o : Ow) (f : Fi) (u i : Nat) (g : Fi) (st : St) : Prop := lk st.env 4 = .t (.ptr (tWa w) 0) ∧ lk st.env 9 = .t (vi i) ∧ lk st.env 10 = .t (.ptr (tWa (addF w f)) 0) ∧ lk st.env 11 = .t (.ptr (tWa (addO w o)) 0) ∧ lk st.env 12 = .t (.ptr (tWa (setF w i (wideF g u))) 0) ∧ lk st.env 13 = .ptr 0 0 ∧ st.σ = [.cells [.t (.lit (.slice none 0 0)), .t (.lit (.slice none 0 0))]] ∧ st.df = [] ∧ st.k = 0

set_option maxRecDepth 8000 in
set_option maxHeartbeats 8000000 in
theorem WatchMore_ok (w : Wa) (hL : Lens w) (o : Ow) (f : Fi) (u : Nat) (hu : u < 256) : ACall Tryd.prog 9 [.t (tWa w), .t (tOw o), .t (tFi f), .t (.lit (.int .u8 u))] [] (res (.ret (.t (vb true)))) := by
  refine ACall.walk k9 ?_
  have h26 := long_ok w
  have h27 := rwatches_ok w hL
  unfold c9
  refine awpL_chop 3 (c1 := ?a1) (c2 := ?a2) (fun st => w.OK ∧ ∃ (i : Nat) (g : Fi), w.fs[i]? = some g ∧ M3 w o f u i st) ?hc ?_ ?_
  case hc => simp only [chop]; rfl
  · have hto : tOw o = .agg [vi o.set_, vi o.lo, vi o.hi, vi o.huts] := rfl
    have htf : tFi f = .agg [vi f.hut, vi f.minute, vi f.lo, vi f.hi, vb f.stopped] := rfl
    rw [hto, htf]
    unfold tWa wa2 at h26 h27 ⊢
    simp only [go_sem, Nat.reduceEqDiff, Nat.reduceAdd]
    refine ACallL.quiet1 h26 rfl rfl rfl ?_
    cases hlg : w.long
    rotate_left
    · simp only [go_sem, Nat.reduceEqDiff, Bool.not_true, undef]
      refine ACallL.quiet1 alive_ok rfl rfl rfl ?_
      simp only [go_sem, Nat.reduceEqDiff]
      exact finL_ret [] ⟨rfl, rfl, rfl, rfl, _, rfl, res_mk rfl⟩
    simp only [go_sem, Nat.reduceEqDiff, Nat.reduceAdd, beq_self_eq_true]
    refine ACallL.quiet1 h27 rfl rfl rfl ?_
    cases hok : w.ok
    · simp only [go_sem, Nat.reduceEqDiff, Bool.not_true, Bool.not_false, undef, beq_self_eq_true]
      refine ACallL.quiet1 alive_ok rfl rfl rfl ?_
      simp only [go_sem, Nat.reduceEqDiff]
      exact finL_ret [] ⟨rfl, rfl, rfl, rfl, _, rfl, res_mk rfl⟩
    have hw := (w.ok_iff).1 hok
    simp only [go_sem, Nat.reduceEqDiff, Nat.reduceAdd, Bool.not_true, beq_self_eq_true, List.length_map]
    cases h1 : ((w.fs.length : Int) == 0)
    rotate_left
    · simp only [go_sem]
      refine ACallL.quiet1 alive_ok rfl rfl rfl ?_
      simp only [go_sem, Nat.reduceEqDiff]
      exact finL_ret [] ⟨rfl, rfl, rfl, rfl, _, rfl, res_mk rfl⟩
    have n1 : ((w.fs.length : Int) = 0) = False := eq_false (by simpa using h1)
    have hnf : 0 < w.fs.length := by have : ¬ ((w.fs.length : Int) = 0) := by simpa using h1
                                     omega
    have ha : u % w.fs.length < w.fs.length := Nat.mod_lt _ hnf
    have t1 := mod_nat u w.fs.length
    have w0 : IntKind.i64.wrap (u : Int) = u := wrap_id (by omega) (by omega)
    have hn4 := hw.nf
    have w2 : IntKind.i64.wrap ((u % w.fs.length : Nat) : Int) = ((u % w.fs.length : Nat) : Int) := wrap_id (by omega) (by omega)
    generalize u % w.fs.length = i at *
    simp only [go_sem, Nat.reduceEqDiff, Nat.reduceAdd, List.length_map, n1, t1, w0]
    exact ⟨hw, i, _, List.getElem?_eq_getElem ha, rfl, rfl, rfl, rfl, rfl, rfl, rfl, rfl⟩
  clear h26 h27
  rintro ⟨env, σ, df, dk⟩ ⟨hw, i, g, hg, p3, p4, p5, p6, p9, hσ, hdf, hk⟩
  simp only at p3 p4 p5 p6 p9 hσ hdf hk
  subst hσ hdf hk
  have hn5 := hw.no
  have hn4 := hw.nf
  have hil := (List.getElem?_eq_some_iff.1 hg).1
  have hgo := hw.fs g (List.mem_of_getElem? hg)
  refine awpL_chop 1 (c1 := ?b1) (c2 := ?b2) (fun st => ∃ a b c d, M4 w o f u i a b c d st) ?hc2 ?_ ?_
  case hc2 => simp only [chop]; rfl
  · unfold waC owC fiC
    simp only [go_sem, Nat.reduceEqDiff, Nat.reduceAdd, p4]
    repeat' (first | refine AndL.mk ?_ ?_ | simp only [go_sem, Nat.reduceEqDiff, Nat.reduceAdd, undef, p4])
    all_goals exact ⟨_, _, _, _, ⟨by decide, by decide, by decide, by decide, by decide, by decide, by decide, by decide, by decide, by decide⟩, p3, p4, p5, p6, p9, rfl, rfl, rfl, rfl, rfl, rfl, rfl⟩
  clear p3 p4 p5 p6 p9 env
  rintro ⟨env, σ, df, dk⟩ ⟨a, b, c, d, hD, p3, p4, p5, p6, p9, p10, p11, p12, p13, hσ, hdf, hk⟩
  simp only at p3 p4 p5 p6 p9 p10 p11 p12 p13 hσ hdf hk
  subst hσ hdf hk
  refine awpL_chop 1 (c1 := ?d1) (c2 := ?d2) (fun st => st.gc [c, d, 0] [] = st.gc [c, d, 0] [] ∧ ∃ ix L, MrI w o f a b c d env ix L st ∧ ∀ j, j < 24 → L j = true) ?hc3 ?_ ?_
  case hc3 => simp only [chop]; rfl
  · refine awpL_drawI (fun L s => ∃ ix, MrI w o f a b c d env ix L s) ?_ ?_ ?_
    · have hset : ∀ k, 3 ≤ k ∧ k < 7 → ([waC w, owC o, fiC f, waC w, waC w, waC w, waC w] : List AO)[k]? = some (waC w) := fun k hk => by
        have : k = 3 ∨ k = 4 ∨ k = 5 ∨ k = 6 := by omega
        rcases this with rfl | rfl | rfl | rfl <;> rfl
      exact ⟨fun x => x, ⟨(fun _ h => by cases h), (fun _ _ h => by cases h), (fun _ _ _ _ h => by cases h), rfl, rfl, rfl, hset a hD.a3, hset b hD.b3, hset c hD.c3, hset d hD.d3, (fun _ _ => rfl), (fun _ h => by cases h), rfl, rfl⟩⟩
    · rintro L ⟨env', σ', df', dk'⟩ j ai ⟨ix, hI⟩ hi hL hd
      have hdf := hI.df
      have hk := hI.k
      simp only at hdf hk
      subst hdf hk
      have q3 : lk env' 3 = _ := (hI.en 3 (by omega)).trans p3
      have q4 : lk env' 4 = _ := (hI.en 4 (by omega)).trans p4
      have q5 : lk env' 5 = _ := (hI.en 5 (by omega)).trans p5
      have q6 : lk env' 6 = _ := (hI.en 6 (by omega)).trans p6
      have q10 : lk env' 10 = _ := (hI.en 10 (by omega)).trans p10
      have q11 : lk env' 11 = _ := (hI.en 11 (by omega)).trans p11
      have q12 : lk env' 12 = _ := (hI.en 12 (by omega)).trans p12
      have c0 : σ'[0]? = _ := hI.c0
      have c1 : σ'[1]? = _ := hI.c1
      have c2 : σ'[2]? = _ := hI.c2
      have at_ : ∀ (y x : Nat) (e : E), L y = true → mrVal w o f a b c ix y = some (x, e) → lk env' x = e := fun y x e h1 h2 => hI.ev y h1 x e h2
      have x1 : (w.fs.length ≤ maxLen) = True := eq_true (by unfold maxLen; omega)
      have x2 : (w.fs.length * 40 ≤ 140737488355328) = True := eq_true (by omega)
      have x3 : (w.fs.length + 1 ≤ maxLen) = True := eq_true (by unfold maxLen; omega)
      have x4 : ((w.fs.length + 1) * 40 ≤ 140737488355328) = True := eq_true (by omega)
      have x5 : (w.os.length ≤ maxLen) = True := eq_true (by unfold maxLen; omega)
      have x6 : (w.os.length * 32 ≤ 140737488355328) = True := eq_true (by omega)
      have x7 : (w.os.length + 1 ≤ maxLen) = True := eq_true (by unfold maxLen; omega)
      have x8 : ((w.os.length + 1) * 32 ≤ 140737488355328) = True := eq_true (by omega)
      match j, hi, hL, hd with
      | 0, hi, hL, hd =>
        cases hi
        have hl6 : L 6 = false := by
          cases h : L 6
          · rfl
          · have := hI.cl 3 (hI.cl 6 h 3 (by decide)) 0 (by decide); rw [hL] at this; cases this
        have hl3 : L 3 = false := by
          cases h : L 3
          · rfl
          · have := hI.cl 3 h 0 (by decide); rw [hL] at this; cases this
        simp only [go_sem]
        exact hI.make hD (g := 0) (by omega) hL hd (by unfold mrRow; simp only [hl6, hl3]; rfl) (fun id => rfl)
      | 1, hi, hL, hd =>
        cases hi
        simp only [go_sem, q4]
        exact ⟨ix, hI.pure (by decide) hd rfl⟩
      | 2, hi, hL, hd =>
        cases hi
        have q := at_ 1 _ _ (hd 1 (by decide)) rfl
        simp only [go_sem, Nat.reduceAdd, q, c0]
        exact ⟨ix, hI.pure (by decide) hd rfl⟩
      | 3, hi, hL, hd =>
        cases hi
        have qa := at_ 0 _ _ (hd 0 (by decide)) rfl
        have qb := at_ 2 _ _ (hd 2 (by decide)) rfl
        have hl6 : L 6 = false := by
          cases h : L 6
          · rfl
          · have := hI.cl 6 h 3 (by decide); rw [hL] at this; cases this
        obtain ⟨-, r⟩ := hI.ids 0 (by omega) (hd 0 (by decide))
        have hr : mrRow w o f L 0 = .row 5 [] := by unfold mrRow; simp only [hl6, hL]; rfl
        rw [hr] at r
        simp only at r
        simp only [go_sem, qa, qb, r, List.length_map, x1, x2]
        exact ⟨ix, hI.grow hD (g := 0) (by omega) (by decide) rfl (hd 0 (by decide)) hd (by unfold mrRow; simp [hl6]) rfl⟩
      | 4, hi, hL, hd =>
        cases hi
        simp only [go_sem, Nat.reduceAdd, q6, c2]
        exact ⟨ix, hI.pure (by decide) hd rfl⟩
      | 5, hi, hL, hd =>
        cases hi
        have qa := at_ 4 _ _ (hd 4 (by decide)) rfl
        simp only [go_sem, Nat.reduceAdd, Nat.reduceLT, qa, tFi]
        exact hI.make hD (g := 1) (by omega) hL hd (by unfold mrRow; rfl) (fun id => rfl)
      | 6, hi, hL, hd =>
        cases hi
        have qa := at_ 3 _ _ (hd 3 (by decide)) rfl
        have qb := at_ 5 _ _ (hd 5 (by decide)) rfl
        have hm := hI.cl 3 (hd 3 (by decide)) 0 (by decide)
        obtain ⟨-, r⟩ := hI.ids 0 (by omega) hm
        obtain ⟨-, r2⟩ := hI.ids 1 (by omega) (hd 5 (by decide))
        have hl3 := hd 3 (by decide)
        have hr : mrRow w o f L 0 = .row 5 (((w.fs).map tFi).map .t) := by unfold mrRow; simp only [hL, hl3]; rfl
        have hr2 : mrRow w o f L 1 = .row 5 (([f].map tFi).map .t) := rfl
        rw [hr] at r
        rw [hr2] at r2
        simp only at r r2
        simp only [go_sem, qa, qb, r, r2, List.length_map, x3, x4]
        exact ⟨ix, hI.grow hD (g := 0) (by omega) (by decide) rfl hm hd (by unfold mrRow; simp) rfl⟩
      | 7, hi, hL, hd =>
        cases hi
        have hl13 : L 13 = false := by
          cases h : L 13
          · rfl
          · have := hI.cl 10 (hI.cl 13 h 10 (by decide)) 7 (by decide); rw [hL] at this; cases this
        have hl10 : L 10 = false := by
          cases h : L 10
          · rfl
          · have := hI.cl 10 h 7 (by decide); rw [hL] at this; cases this
        simp only [go_sem]
        exact hI.make hD (g := 2) (by omega) hL hd (by unfold mrRow; simp only [hl13, hl10]; rfl) (fun id => rfl)
      | 8, hi, hL, hd =>
        cases hi
        simp only [go_sem, q4]
        exact ⟨ix, hI.pure (by decide) hd rfl⟩
      | 9, hi, hL, hd =>
        cases hi
        have q := at_ 8 _ _ (hd 8 (by decide)) rfl
        simp only [go_sem, Nat.reduceAdd, Nat.reduceLeDiff, q, c0]
        exact ⟨ix, hI.pure (by decide) hd rfl⟩
      | 10, hi, hL, hd =>
        cases hi
        have qa := at_ 7 _ _ (hd 7 (by decide)) rfl
        have qb := at_ 9 _ _ (hd 9 (by decide)) rfl
        have hl13 : L 13 = false := by
          cases h : L 13
          · rfl
          · have := hI.cl 13 h 10 (by decide); rw [hL] at this; cases this
        obtain ⟨-, r⟩ := hI.ids 2 (by omega) (hd 7 (by decide))
        have hr : mrRow w o f L 2 = .row 4 [] := by unfold mrRow; simp only [hl13, hL]; rfl
        rw [hr] at r
        simp only at r
        simp only [go_sem, qa, qb, r, List.length_map, x5, x6]
        exact ⟨ix, hI.grow hD (g := 2) (by omega) (by decide) rfl (hd 7 (by decide)) hd (by unfold mrRow; simp [hl13]) rfl⟩
      | 11, hi, hL, hd =>
        cases hi
        simp only [go_sem, Nat.reduceAdd, q5, c1]
        exact ⟨ix, hI.pure (by decide) hd rfl⟩
      | 12, hi, hL, hd =>
        cases hi
        have qa := at_ 11 _ _ (hd 11 (by decide)) rfl
        simp only [go_sem, Nat.reduceAdd, Nat.reduceLT, qa, tOw]
        exact hI.make hD (g := 3) (by omega) hL hd (by unfold mrRow; rfl) (fun id => rfl)
      | 13, hi, hL, hd =>
        cases hi
        have qa := at_ 10 _ _ (hd 10 (by decide)) rfl
        have qb := at_ 12 _ _ (hd 12 (by decide)) rfl
        have hm := hI.cl 10 (hd 10 (by decide)) 7 (by decide)
        obtain ⟨-, r⟩ := hI.ids 2 (by omega) hm
        obtain ⟨-, r2⟩ := hI.ids 3 (by omega) (hd 12 (by decide))
        have hl10 := hd 10 (by decide)
        have hr : mrRow w o f L 2 = .row 4 (((w.os).map tOw).map .t) := by unfold mrRow; simp only [hL, hl10]; rfl
        have hr2 : mrRow w o f L 3 = .row 4 (([o].map tOw).map .t) := rfl
        rw [hr] at r
        rw [hr2] at r2
        simp only at r r2
        simp only [go_sem, qa, qb, r, r2, List.length_map, x7, x8]
        exact ⟨ix, hI.grow hD (g := 2) (by omega) (by decide) rfl hm hd (by unfold mrRow; simp) rfl⟩
      | 14, hi, hL, hd =>
        cases hi
        have hl17 : L 17 = false := by
          cases h : L 17
          · rfl
          · have := hI.cl 17 h 14 (by decide); rw [hL] at this; cases this
        simp only [go_sem]
        exact hI.make hD (g := 4) (by omega) hL hd (by unfold mrRow; simp only [hl17]; rfl) (fun id => rfl)
      | 15, hi, hL, hd =>
        cases hi
        simp only [go_sem, q4]
        exact ⟨ix, hI.pure (by decide) hd rfl⟩
      | 16, hi, hL, hd =>
        cases hi
        have q := at_ 15 _ _ (hd 15 (by decide)) rfl
        simp only [go_sem, Nat.reduceAdd, q, c0]
        exact ⟨ix, hI.pure (by decide) hd rfl⟩
      | 17, hi, hL, hd =>
        cases hi
        have qa := at_ 14 _ _ (hd 14 (by decide)) rfl
        have qb := at_ 16 _ _ (hd 16 (by decide)) rfl
        obtain ⟨-, r⟩ := hI.ids 4 (by omega) (hd 14 (by decide))
        have hr : mrRow w o f L 4 = .row 5 [] := by unfold mrRow; simp only [hL]; rfl
        rw [hr] at r
        simp only at r
        simp only [go_sem, qa, qb, r, List.length_map, x1, x2]
        exact ⟨ix, hI.grow hD (g := 4) (by omega) (by decide) rfl (hd 14 (by decide)) hd (by unfold mrRow; simp) rfl⟩
      | 18, hi, hL, hd =>
        cases hi
        simp only [go_sem, q10]
        exact ⟨ix, hI.pure (by decide) hd rfl⟩
      | 19, hi, hL, hd =>
        cases hi
        have qa := at_ 18 _ _ (hd 18 (by decide)) rfl
        have qb := at_ 6 _ _ (hd 6 (by decide)) rfl
        have cz := hI.ca
        rw [hL] at cz
        simp only [Bool.false_eq_true, if_false] at cz
        simp only [go_sem, Nat.reduceAdd, undef, qa, qb, cz]
        exact ⟨ix, hI.sto hD hd (.inl ⟨rfl, rfl, rfl⟩)⟩
      | 20, hi, hL, hd =>
        cases hi
        simp only [go_sem, q11]
        exact ⟨ix, hI.pure (by decide) hd rfl⟩
      | 21, hi, hL, hd =>
        cases hi
        have qa := at_ 20 _ _ (hd 20 (by decide)) rfl
        have qb := at_ 13 _ _ (hd 13 (by decide)) rfl
        have cz := hI.cb
        rw [hL] at cz
        simp only [Bool.false_eq_true, if_false] at cz
        simp only [go_sem, Nat.reduceAdd, Nat.reduceLeDiff, undef, qa, qb, cz]
        exact ⟨ix, hI.sto hD hd (.inr (.inl ⟨rfl, rfl, rfl⟩))⟩
      | 22, hi, hL, hd =>
        cases hi
        simp only [go_sem, q12]
        exact ⟨ix, hI.pure (by decide) hd rfl⟩
      | 23, hi, hL, hd =>
        cases hi
        have qa := at_ 22 _ _ (hd 22 (by decide)) rfl
        have qb := at_ 17 _ _ (hd 17 (by decide)) rfl
        have cz := hI.cc
        rw [hL] at cz
        simp only [Bool.false_eq_true, if_false] at cz
        simp only [go_sem, Nat.reduceAdd, undef, qa, qb, cz]
        exact ⟨ix, hI.sto hD hd (.inr (.inr ⟨rfl, rfl, rfl⟩))⟩
      | n + 24, hi, _, _ => cases hi
    · rintro L s ⟨ix, hI⟩ hall
      exact ⟨rfl, ix, L, hI, fun j hj => hall j (by simpa using hj)⟩
  rintro st ⟨-, ix, L, hI, hall⟩
  obtain ⟨g1, g2⟩ := mr_strike hD hI hall p3 p4 p9 p10 p11 p12 p13
  refine awpL_chop 3 (c1 := ?e1) (c2 := ?e2) (T8 w o f u i g) ?hc4 ?_ ?_
  case hc4 => simp only [chop]; rfl
  · simp only [go_sem]
    refine awpL_gcpE [c, d, ix 4] [3, 4, 9, 10, 11, 12, 13] (S6m w o f u i) g1 g2 rfl ?_
    clear g1 g2 hI hall p3 p4 p5 p6 p9 p10 p11 p12 p13 hD
    have hto : tFi g = .agg [vi g.hut, vi g.minute, vi g.lo, vi g.hi, vb g.stopped] := rfl
    have hi0 : ((i : Int) < 0) = False := eq_false (by omega)
    have hil2 : ((i : Int) < (w.fs.length : Int)) = True := eq_true (by omega)
    have hgs := hgo.shows
    have w30 : IntKind.i64.wrap (g.lo + 30) = g.lo + 30 := wrap_id (by omega) (by omega)
    have w1 : IntKind.i64.wrap (g.hi + 1) = g.hi + 1 := wrap_id (by omega) (by omega)
    have t7 : (u : Int).tmod 7 = ((u % 7 : Nat) : Int) := mod_nat u 7
    have wu : IntKind.i64.wrap (u : Int) = u := wrap_id (by omega) (by omega)
    have hu7 : u % 7 < 7 := Nat.mod_lt _ (by omega)
    have w7 : IntKind.i64.wrap ((u % 7 : Nat) : Int) = ((u % 7 : Nat) : Int) := wrap_id (by omega) (by omega)
    have w8 : IntKind.i64.wrap (g.hi + 1 + ((u % 7 : Nat) : Int)) = g.hi + 1 + ((u % 7 : Nat) : Int) := wrap_id (by omega) (by omega)
    have hfin : ∀ env : List (Nat × E), lk env 4 = .t (.ptr (tWa w) 0) → lk env 9 = .t (vi i) → lk env 10 = .t (.ptr (tWa (addF w f)) 0) → lk env 11 = .t (.ptr (tWa (addO w o)) 0) → lk env 12 = .t (.ptr (tWa (setF w i (wideF g u))) 0) → lk env 13 = .ptr 0 0 → T8 w o f u i g { env := env, σ := [.cells [.t (.lit (.slice none 0 0)), .t (.lit (.slice none 0 0))]] } := fun env a b c d e h => ⟨a, b, c, d, e, h, rfl, rfl, rfl⟩
    unfold S6m
    generalize tWa (addF w f) = X at *
    generalize tWa (addO w o) = Y at *
    unfold waC
    simp only [go_sem, Nat.reduceEqDiff, Nat.reduceAdd, Nat.reduceLeDiff, Bool.not_false, Int.reduceEq, undef, hil2, List.length_map, List.length_set, List.getElem?_map, hg, Option.map_some, hto, w30, w1, wu, t7, w8]
    have hset : ((w.fs.map tFi).map E.t).set i (E.t (.agg [vi g.hut, vi g.minute, vi g.lo, .lit (.int .i64 (min (min 719 (g.lo + 30)) (g.hi + 1 + ((u % 7 : Nat) : Int)))), vb g.stopped])) = (((setF w i (wideF g u)).fs).map tFi).map E.t := by
      unfold setF
      rw [List.map_set, List.map_set]; rfl
    have hlz : (setF w i (wideF g u)).fs.length = w.fs.length := by unfold setF; simp
    rw [hset]
    refine awpL_gcpE [1] [4, 9, 10, 11, 12, 13] { env := [(4, .t (.ptr (tWa w) 0)), (9, .t (vi i)), (10, .t (.ptr X 0)), (11, .t (.ptr Y 0)), (12, .t (.ptr (tWa (setF w i (wideF g u))) 0)), (13, .ptr 0 0)], σ := [waC w] } (St.gc_mk (by
      have g3 : ∀ σ : List AO, σ[0]? = some (.cells [.t (.slice 4 (w.os.map tOw)), .loc 2 w.fs.length]) → σ[2]? = some (.row 5 ((((setF w i (wideF g u)).fs).map tFi).map E.t)) → E.gc [1] σ 12 (.ptr 0 0) = .t (.ptr (tWa (setF w i (wideF g u))) 0) := fun σ h1 h2 => by
        rw [E.gc]
        simp only [pos?, h1, List.map_cons, List.map_nil]
        rw [gc_loc (n := 9) rfl h2 (by rw [List.length_map, hlz])]
        rfl
      simp only [List.map_cons, List.map_nil, lk, Nat.reduceEqDiff, reduceIte]
      rw [g3 _ rfl rfl]
      rfl) rfl rfl rfl) rfl rfl ?_
    generalize tWa (setF w i (wideF g u)) = Z at *
    unfold waC
    simp only [go_sem, Nat.reduceEqDiff, Nat.reduceAdd, Nat.reduceLeDiff, undef]
    exact hfin _ rfl rfl rfl rfl rfl rfl
  clear g1 g2 hI hall p3 p4 p5 p6 p9 p10 p11 p12 p13 hD
  rintro ⟨env, σ, df, dk⟩ ⟨p4, p9, p10, p11, p12, p13, hσ, hdf, hk⟩
  simp only at p4 p9 p10 p11 p12 p13 hσ hdf hk
  subst hσ hdf hk
  have hgs := hgo.shows
  have hwide : g.hi ≤ wideI g u := by
    unfold wideI
    omega
  have hwOK : (wideF g u).OK := ⟨hgo.hut, hgo.minute, by
    unfold wideF wideI
    simp only
    omega⟩
  generalize hgw : wideF g u = gw at *
  generalize hX : tWa (addF w f) = XX at *
  generalize hY : tWa (addO w o) = YY at *
  generalize hZ : tWa (setF w i gw) = ZZ at *
  refine awpL_chop 3 (c1 := ?f1) (c2 := ?f2) (fun st => lk st.env 4 = .t (.ptr (tWa w) 0) ∧ lk st.env 9 = .t (vi i) ∧ lk st.env 10 = .t (.ptr XX 0) ∧ lk st.env 11 = .t (.ptr YY 0) ∧ lk st.env 12 = .t (.ptr ZZ 0) ∧ lk st.env 13 = .ptr 0 0 ∧ lk st.env 15 = .t (vb (w.os.all (fun o => decide (o.set_ + 720 ≤ 1440)) && w.fs.all (fun f => decide (f.minute + 720 ≤ 1440)))) ∧ st.σ = [.cells [.loc 1 w.os.length, .loc 2 w.fs.length], .row 4 (((w.os.map shO).map tOw).map .t), .row 5 (((w.fs.map shF).map tFi).map .t)] ∧ st.df = [] ∧ st.k = 0) ?hc5 ?_ ?_
  case hc5 => simp only [chop]; rfl
  · unfold tWa wa2 at p4 ⊢
    simp only [go_sem, Nat.reduceEqDiff, p4, List.length_map]
    refine awpL_loopK w.os.length (fun j s => s = { env := [(119, .t (vi j)), (4, .t (.ptr (.agg [.slice 4 (w.os.map tOw), .slice 5 (w.fs.map tFi)]) 0)), (9, .t (vi i)), (10, .t (.ptr XX 0)), (11, .t (.ptr YY 0)), (12, .t (.ptr ZZ 0)), (13, .ptr 0 0), (15, .t (vb ((w.os.take j).all (fun o => decide (o.set_ + 720 ≤ 1440))))), (117, .t (.slice 4 (w.os.map tOw))), (118, .t (vi w.os.length))], σ := [.cells [.loc 1 j, .t (.lit (.slice none 0 0))], .row 4 ((((w.os.take j).map shO).map tOw).map .t)] })
      ⟨_, (Sub.ghostC 0 0 4 (by decide) rfl rfl).trans (Sub.gc [0, 1] [119, 4, 9, 10, 11, 12, 13, 15, 117, 118] rfl rfl), ?_⟩ ?_
    · exact St.gc_mk (by simp only [List.map_cons, List.map_nil, lk, Nat.reduceEqDiff, reduceIte, p4, p9, p10, p11, p12, p13]; rfl) rfl rfl rfl
    rintro j s hj rfl
    have hj0 : ((j : Int) < 0) = False := eq_false (by omega)
    have hlt : (w.os.take j).length = j := by rw [List.length_take]; omega
    cases c : decide ((j : Int) < w.os.length)
    rotate_left
    · have hjl : j < w.os.length := by have := of_decide_eq_true c; omega
      have hx : w.os[j]? = some w.os[j] := List.getElem?_eq_getElem hjl
      have tx : w.os.take (j + 1) = w.os.take j ++ [w.os[j]] := by rw [List.take_add_one, hx]; rfl
      have hxo := hw.os _ (List.getElem_mem hjl)
      rw [tx, List.all_append]
      generalize w.os[j] = x at *
      generalize w.os.take j = P at *
      have hs := hxo.set_
      have hto : tOw x = .agg [vi x.set_, vi x.lo, vi x.hi, vi x.huts] := rfl
      have w7 : IntKind.i64.wrap (x.set_ + 720) = x.set_ + 720 := wrap_id (by omega) (by omega)
      have h32 := owner_ok (x.set_ + 720) x.lo x.hi x.huts
      have happ : ((P.map shO).map tOw).map E.t ++ [.t (.agg [vi (x.set_ + 720), vi x.lo, vi x.hi, vi x.huts])] = (((P ++ [x]).map shO).map tOw).map E.t := by rw [List.map_append, List.map_append, List.map_append]; rfl
      have hwj : IntKind.i64.wrap ((j : Int) + 1) = ((j + 1 : Nat) : Int) := by rw [wrap_id (by omega) (by omega)]; omega
      have x1 : (j + 1 ≤ maxLen) = True := eq_true (by unfold maxLen; omega)
      have x2 : ((j + 1) * 32 ≤ 140737488355328) = True := eq_true (by omega)
      have hall1 : [x].all (fun o => decide (o.set_ + 720 ≤ 1440)) = decide (x.set_ + 720 ≤ 1440) := by simp
      rw [hall1]
      cases hP : P.all (fun o => decide (o.set_ + 720 ≤ 1440))
      · simp only [go_sem, Nat.reduceEqDiff, Nat.reduceAdd, Nat.reduceLeDiff, undef, c, List.getElem?_map, hx, Option.map_some, hto, w7]
        refine ACallL.quiet1 h32 rfl rfl rfl ?_
        simp only [go_sem, Nat.reduceEqDiff, Nat.reduceAdd, Nat.reduceLT, Nat.reduceLeDiff, undef, Bool.false_and, List.length_map, hlt, x1, x2, happ, hwj]
        exact ⟨hjl, _, Sub.gc [0, 1] [119, 4, 9, 10, 11, 12, 13, 15, 117, 118] rfl rfl, St.gc_mk rfl (by unfold σgc; simp only [List.map_cons, List.map_nil, List.getD_cons_zero, List.getD_cons_succ, AO.gc, gc_row]; rfl) rfl rfl⟩
      · simp only [go_sem, Nat.reduceEqDiff, Nat.reduceAdd, Nat.reduceLeDiff, undef, c, List.getElem?_map, hx, Option.map_some, hto, w7]
        refine ACallL.quiet1 h32 rfl rfl rfl ?_
        simp only [go_sem, Nat.reduceEqDiff, Nat.reduceAdd, Nat.reduceLT, Nat.reduceLeDiff, undef, beq_self_eq_true, Bool.true_and, List.length_map, hlt, x1, x2, happ, hwj, w7]
        exact ⟨hjl, _, Sub.gc [0, 1] [119, 4, 9, 10, 11, 12, 13, 15, 117, 118] rfl rfl, St.gc_mk rfl (by unfold σgc; simp only [List.map_cons, List.map_nil, List.getD_cons_zero, List.getD_cons_succ, AO.gc, gc_row]; rfl) rfl rfl⟩
    have hje : j = w.os.length := by have := of_decide_eq_false c; omega
    rw [hje] at c ⊢
    rw [List.take_length]
    clear hlt hje hj0 hj j
    generalize hA : w.os.all (fun o => decide (o.set_ + 720 ≤ 1440)) = A at *
    simp only [go_sem, Nat.reduceEqDiff, Nat.reduceAdd, c, List.length_map]
    refine awpL_loopK w.fs.length (fun j s => s = { env := [(151, .t (vi j)), (4, .t (.ptr (.agg [.slice 4 (w.os.map tOw), .slice 5 (w.fs.map tFi)]) 0)), (9, .t (vi i)), (10, .t (.ptr XX 0)), (11, .t (.ptr YY 0)), (12, .t (.ptr ZZ 0)), (13, .ptr 0 0), (15, .t (vb (A && (w.fs.take j).all (fun f => decide (f.minute + 720 ≤ 1440))))), (149, .t (.slice 5 (w.fs.map tFi))), (150, .t (vi w.fs.length))], σ := [.cells [.loc 1 w.os.length, .loc 2 j], .row 4 (((w.os.map shO).map tOw).map .t), .row 5 ((((w.fs.take j).map shF).map tFi).map .t)] })
      ⟨_, (Sub.ghostC 0 1 5 (by decide) rfl rfl).trans (Sub.gc [0, 1, 2] [151, 4, 9, 10, 11, 12, 13, 15, 149, 150] rfl rfl), ?_⟩ ?_
    · exact St.gc_mk (by simp only [List.map_cons, List.map_nil, lk, Nat.reduceEqDiff, reduceIte, List.take_zero, List.all_nil, Bool.and_true]; rfl) (by unfold σgc; simp only [List.map_cons, List.map_nil, List.getD_cons_zero, List.getD_cons_succ, List.set_cons_zero, List.set_cons_succ, List.cons_append, List.nil_append, AO.gc, gc_row]; rfl) rfl rfl
    rintro j s hj rfl
    have hj0 : ((j : Int) < 0) = False := eq_false (by omega)
    have hlt : (w.fs.take j).length = j := by rw [List.length_take]; omega
    cases c : decide ((j : Int) < w.fs.length)
    · have hje : j = w.fs.length := by have := of_decide_eq_false c; omega
      rw [hje] at c ⊢
      rw [List.take_length]
      simp only [go_sem, Nat.reduceEqDiff, c]
    have hjl : j < w.fs.length := by have := of_decide_eq_true c; omega
    have hx : w.fs[j]? = some w.fs[j] := List.getElem?_eq_getElem hjl
    have tx : w.fs.take (j + 1) = w.fs.take j ++ [w.fs[j]] := by rw [List.take_add_one, hx]; rfl
    have hxo := hw.fs _ (List.getElem_mem hjl)
    rw [tx, List.all_append, ← Bool.and_assoc]
    generalize w.fs[j] = x at *
    generalize w.fs.take j = P at *
    have hs := hxo.minute
    have hto : tFi x = .agg [vi x.hut, vi x.minute, vi x.lo, vi x.hi, vb x.stopped] := rfl
    have w7 : IntKind.i64.wrap (x.minute + 720) = x.minute + 720 := wrap_id (by omega) (by omega)
    have h33 := find_ok x.hut (x.minute + 720) x.lo x.hi x.stopped
    have happ : ((P.map shF).map tFi).map E.t ++ [.t (.agg [vi x.hut, vi (x.minute + 720), vi x.lo, vi x.hi, vb x.stopped])] = (((P ++ [x]).map shF).map tFi).map E.t := by rw [List.map_append, List.map_append, List.map_append]; rfl
    have hwj : IntKind.i64.wrap ((j : Int) + 1) = ((j + 1 : Nat) : Int) := by rw [wrap_id (by omega) (by omega)]; omega
    have x1 : (j + 1 ≤ maxLen) = True := eq_true (by unfold maxLen; omega)
    have x2 : ((j + 1) * 40 ≤ 140737488355328) = True := eq_true (by omega)
    have hall1 : [x].all (fun f => decide (f.minute + 720 ≤ 1440)) = decide (x.minute + 720 ≤ 1440) := by simp
    rw [hall1]
    generalize (A && P.all (fun f => decide (f.minute + 720 ≤ 1440))) = B at *
    cases B
    · simp only [go_sem, Nat.reduceEqDiff, Nat.reduceAdd, Nat.reduceLeDiff, undef, c, List.getElem?_map, hx, Option.map_some, hto, w7]
      refine ACallL.quiet1 h33 rfl rfl rfl ?_
      simp only [go_sem, Nat.reduceEqDiff, Nat.reduceAdd, Nat.reduceLT, Nat.reduceLeDiff, undef, Bool.false_and, List.length_map, hlt, x1, x2, happ, hwj]
      exact ⟨hjl, _, Sub.gc [0, 1, 2] [151, 4, 9, 10, 11, 12, 13, 15, 149, 150] rfl rfl, St.gc_mk rfl (by unfold σgc; simp only [List.map_cons, List.map_nil, List.getD_cons_zero, List.getD_cons_succ, AO.gc, gc_row]; rfl) rfl rfl⟩
    · simp only [go_sem, Nat.reduceEqDiff, Nat.reduceAdd, Nat.reduceLeDiff, undef, c, List.getElem?_map, hx, Option.map_some, hto, w7]
      refine ACallL.quiet1 h33 rfl rfl rfl ?_
      simp only [go_sem, Nat.reduceEqDiff, Nat.reduceAdd, Nat.reduceLT, Nat.reduceLeDiff, undef, beq_self_eq_true, Bool.true_and, List.length_map, hlt, x1, x2, happ, hwj, w7]
      exact ⟨hjl, _, Sub.gc [0, 1, 2] [151, 4, 9, 10, 11, 12, 13, 15, 149, 150] rfl rfl, St.gc_mk rfl (by unfold σgc; simp only [List.map_cons, List.map_nil, List.getD_cons_zero, List.getD_cons_succ, AO.gc, gc_row]; rfl) rfl rfl⟩
  clear p4 p9 p10 p11 p12 p13 env
  rintro ⟨env, σ, df, dk⟩ ⟨p4, p9, p10, p11, p12, p13, p15, hσ, hdf, hk⟩
  simp only at p4 p9 p10 p11 p12 p13 p15 hσ hdf hk
  subst hσ hdf hk
  generalize hB : (w.os.all (fun o => decide (o.set_ + 720 ≤ 1440)) && w.fs.all (fun f => decide (f.minute + 720 ≤ 1440))) = B at *
  have hok := (w.ok_iff).2 hw
  have hlf : w.fits.length = w.fs.length := by unfold Wa.fits; simp
  obtain ⟨C, hC64, hC, hCb⟩ := can_at hw hil
  have hwl : waysN w.fits ≤ 625 := ways_bd (by omega)
  obtain ⟨-, fs2⟩ := fits_small hw
  have hF := specFits_in hok hg
  have hF64 : fitN w.os g < 64 := fs2 _ (by unfold Wa.fits; exact List.mem_map.2 ⟨g, List.mem_of_getElem? hg, rfl⟩)
  have hEE : ∀ a : Int, (a != a) = false := fun a => by simp
  have c1 := Can_ok w i hL
  have c2 := Fits_ok w i hL
  have c3 := Count_ok w hL
  rw [hC] at c1
  rw [hF] at c2
  rw [specCount_at hok] at c3
  simp only [oneE] at c1 c2 c3
  have hLL : ∀ σ : List AO, σ[0]? = some (.cells [.loc 1 w.os.length, .loc 2 w.fs.length]) → σ[1]? = some (.row 4 (((w.os.map shO).map tOw).map .t)) → σ[2]? = some (.row 5 (((w.fs.map shF).map tFi).map .t)) → E.gc [] σ 12 (.ptr 0 0) = .t (.ptr (tWa (shW w)) 0) := fun σ h1 h2 h3 => by
    rw [E.gc]
    simp only [pos?, h1, List.map_cons, List.map_nil]
    rw [gc_loc (n := 9) rfl h2 (by simp), gc_loc (n := 9) rfl h3 (by simp)]
    rfl
  generalize hEr : (if waysN w.fits = 0 then (10 : Int) else 0) = Er at *
  generalize hLW : tWa (shW w) = LL at *
  generalize hN : waysN w.fits = N at *
  generalize hFt : fitN w.os g = Ft at *
  refine awpL_chop 4 (c1 := ?h1) (c2 := ?h2) (fun st => lk st.env 4 = .t (.ptr (tWa w) 0) ∧ lk st.env 9 = .t (vi i) ∧ lk st.env 10 = .t (.ptr XX 0) ∧ lk st.env 11 = .t (.ptr YY 0) ∧ lk st.env 12 = .t (.ptr ZZ 0) ∧ lk st.env 13 = .t (.ptr LL 0) ∧ lk st.env 15 = .t (vb B) ∧ lk st.env 20 = .t (vi C) ∧ lk st.env 21 = .t (vi Er) ∧ lk st.env 22 = .t (vi Ft) ∧ lk st.env 24 = .t (vi N) ∧ st.σ = [] ∧ st.df = [] ∧ st.k = 0) ?hc6 ?_ ?_
  case hc6 => simp only [chop]; rfl
  · have hfin : ∀ env : List (Nat × E), lk env 4 = .t (.ptr (tWa w) 0) → lk env 4 = .t (.ptr (tWa w) 0) := fun _ h => h
    unfold tWa wa2 at p4 c1 c2 c3 ⊢
    simp only [go_sem]
    refine awpL_gcpE [] [4, 9, 10, 11, 12, 13, 15] { env := [(4, .t (.ptr (.agg [.slice 4 (w.os.map tOw), .slice 5 (w.fs.map tFi)]) 0)), (9, .t (vi i)), (10, .t (.ptr XX 0)), (11, .t (.ptr YY 0)), (12, .t (.ptr ZZ 0)), (13, .t (.ptr LL 0)), (15, .t (vb B))], σ := [] } (St.gc_mk (by
      simp only [List.map_cons, List.map_nil, p4, p9, p10, p11, p12, p13, p15]
      rw [hLL _ rfl rfl rfl]
      rfl) rfl rfl rfl) rfl rfl ?_
    simp only [go_sem, Nat.reduceEqDiff, Nat.reduceAdd]
    refine ACallL.quiet1 c1 rfl rfl rfl ?_
    simp only [go_sem, Nat.reduceEqDiff, Nat.reduceAdd]
    refine ACallL.quiet1 c2 rfl rfl rfl ?_
    simp only [go_sem, Nat.reduceEqDiff, Nat.reduceAdd]
    refine ACallL.quiet1 c3 rfl rfl rfl ?_
    simp only [go_sem, Nat.reduceEqDiff, beq_self_eq_true, bne_self_eq_false]
  clear p4 p9 p10 p11 p12 p13 p15 env c1 c2 c3 hLL
  rintro ⟨env, σ, df, dk⟩ ⟨p4, p9, p10, p11, p12, p13, p15, p20, p21, p22, p24, hσ, hdf, hk⟩
  simp only at p4 p9 p10 p11 p12 p13 p15 p20 p21 p22 p24 hσ hdf hk
  subst hσ hdf hk
  -- a find more
  refine awpL_chop 1 (c1 := ?i1) (c2 := ?i2) (fun st => lk st.env 4 = .t (.ptr (tWa w) 0) ∧ lk st.env 9 = .t (vi i) ∧ lk st.env 11 = .t (.ptr YY 0) ∧ lk st.env 12 = .t (.ptr ZZ 0) ∧ lk st.env 13 = .t (.ptr LL 0) ∧ lk st.env 15 = .t (vb B) ∧ lk st.env 20 = .t (vi C) ∧ lk st.env 21 = .t (vi Er) ∧ lk st.env 22 = .t (vi Ft) ∧ lk st.env 24 = .t (vi N) ∧ st.σ = [] ∧ st.df = [] ∧ st.k = 0) ?hc7 ?_ ?_
  case hc7 => simp only [chop]; rfl
  · have hfl : (addF w f).fs.length = w.fs.length + 1 := by unfold addF; simp
    have hLx : Lens (addF w f) := ⟨by unfold addF; simp only; omega, by omega⟩
    have hil3 : i < (addF w f).fs.length := by omega
    have r1 := rwatches_ok (addF w f) hLx
    have r2 := Can_ok (addF w f) i hLx
    have key : (addF w f).ok = true → ∃ Cx : Nat, Cx < 64 ∧ ∃ Ex : Int, specCan (addF w f) i = ((Cx : Int), Ex) ∧ (Ex = 10 ∨ (Ex = 0 ∧ Er = 0 ∧ ndiff Cx C = 0)) := fun hxok => by
      have hx := ((addF w f).ok_iff).1 hxok
      obtain ⟨Cx, q1, q2, q3⟩ := can_at hx hil3
      refine ⟨Cx, q1, _, q2, ?_⟩
      by_cases hz : waysN (addF w f).fits = 0
      · exact .inl (if_pos hz)
      · refine .inr ⟨if_neg hz, ?_, ndiff_nil fun o ho => ?_⟩
        · rw [addF_fits] at hz
          have := ways_drop hz
          rw [← hEr, if_neg (by omega)]
        · obtain ⟨-, k2⟩ := (q3 o).1 ho
          rw [addF_fits] at k2 hz
          refine (hCb o).2 ⟨?_, whose_drop (by omega) (by omega) o k2⟩
          have := ways_drop hz
          omega
    subst hX
    generalize addF w f = x at *
    unfold tWa wa2 at p10 r1 r2
    simp only [go_sem, Nat.reduceAdd, p10]
    refine ACallL.quiet1 r1 rfl rfl rfl ?_
    cases hxok : x.ok
    · simp only [go_sem, Nat.reduceEqDiff]
      (repeat' (first | assumption | rfl | refine ⟨?_, ?_⟩))
    obtain ⟨Cx, q1, Ex, q2, q3⟩ := key hxok
    rw [q2] at r2
    simp only [oneE] at r2
    simp only [go_sem, Nat.reduceEqDiff, Nat.reduceAdd, p9, p10]
    refine ACallL.quiet1 r2 rfl rfl rfl ?_
    rcases q3 with rfl | ⟨rfl, rfl, q3⟩
    · simp only [go_sem, Nat.reduceEqDiff, Int.reduceBEq, Int.reduceBNe, undef, beq_self_eq_true, bne_self_eq_false]
      (repeat' (first | assumption | rfl | refine ⟨?_, ?_⟩))
    · have hand : bits .andNot .i64 (Cx : Int) (C : Int) = ((ndiff Cx C : Nat) : Int) := bits_andNot (by omega) (by omega)
      rw [q3] at hand
      simp only [go_sem, Nat.reduceEqDiff, undef, beq_self_eq_true, bne_self_eq_false, p20, p21, hand]
      (repeat' (first | assumption | rfl | refine ⟨?_, ?_⟩))
  clear p4 p9 p10 p11 p12 p13 p15 p20 p21 p22 p24 env
  rintro ⟨env, σ, df, dk⟩ ⟨p4, p9, p11, p12, p13, p15, p20, p21, p22, p24, hσ, hdf, hk⟩
  simp only at p4 p9 p11 p12 p13 p15 p20 p21 p22 p24 hσ hdf hk
  subst hσ hdf hk
  -- an owner more
  refine awpL_chop 1 (c1 := ?j1) (c2 := ?j2) (fun st => lk st.env 4 = .t (.ptr (tWa w) 0) ∧ lk st.env 9 = .t (vi i) ∧ lk st.env 12 = .t (.ptr ZZ 0) ∧ lk st.env 13 = .t (.ptr LL 0) ∧ lk st.env 15 = .t (vb B) ∧ lk st.env 20 = .t (vi C) ∧ lk st.env 21 = .t (vi Er) ∧ lk st.env 22 = .t (vi Ft) ∧ lk st.env 24 = .t (vi N) ∧ st.σ = [] ∧ st.df = [] ∧ st.k = 0) ?hc8 ?_ ?_
  case hc8 => simp only [chop]; rfl
  · have hLx : Lens (addO w o) := ⟨by unfold addO; simp only [List.length_append, List.length_cons, List.length_nil]; omega, by unfold addO; simp only; omega⟩
    have hil3 : i < (addO w o).fs.length := hil
    have r1 := rwatches_ok (addO w o) hLx
    have r2 := Can_ok (addO w o) i hLx
    have r3 := Count_ok (addO w o) hLx
    have key : (addO w o).ok = true → ∃ Cx : Nat, Cx < 64 ∧ ∃ Ex : Int, specCan (addO w o) i = ((Cx : Int), Ex) ∧ N ≤ waysN (addO w o).fits ∧ (Er = 10 ∨ (Er = 0 ∧ Ex = 0 ∧ ndiff C Cx = 0)) := fun hxok => by
      have hx := ((addO w o).ok_iff).1 hxok
      obtain ⟨Cx, q1, q2, q3⟩ := can_at hx hil3
      have hle := ways_sub (addO_len w o) (addO_sub w o)
      rw [hN] at hle
      refine ⟨Cx, q1, _, q2, hle, ?_⟩
      by_cases hz : N = 0
      · exact .inl (by rw [← hEr, if_pos hz])
      · have hz2 : waysN (addO w o).fits ≠ 0 := by omega
        refine .inr ⟨by rw [← hEr, if_neg hz], if_neg hz2, ndiff_nil fun b hb => ?_⟩
        obtain ⟨-, k2⟩ := (hCb b).1 hb
        exact (q3 b).2 ⟨hz2, whose_sub (addO_len w o) (addO_sub w o) (by omega) b k2⟩
    subst hY
    generalize addO w o = x at *
    unfold tWa wa2 at p11 r1 r2 r3
    simp only [go_sem, Nat.reduceAdd, p11]
    refine ACallL.quiet1 r1 rfl rfl rfl ?_
    cases hxok : x.ok
    · simp only [go_sem, Nat.reduceEqDiff]
      (repeat' (first | assumption | rfl | refine ⟨?_, ?_⟩))
    obtain ⟨Cx, q1, Ex, q2, qn, q3⟩ := key hxok
    rw [q2] at r2
    rw [specCount_at hxok] at r3
    simp only [oneE] at r2 r3
    have gn : decide (((waysN x.fits : Nat) : Int) < (N : Int)) = false := decide_eq_false (by omega)
    simp only [go_sem, Nat.reduceEqDiff, Nat.reduceAdd, p9, p11]
    refine ACallL.quiet1 r2 rfl rfl rfl ?_
    simp only [go_sem, Nat.reduceEqDiff, Nat.reduceAdd, p11]
    refine ACallL.quiet1 r3 rfl rfl rfl ?_
    rcases q3 with rfl | ⟨rfl, rfl, q3⟩
    · simp only [go_sem, Nat.reduceEqDiff, Int.reduceBEq, undef, beq_self_eq_true, bne_self_eq_false, p24, p21, gn]
      (repeat' (first | assumption | rfl | refine ⟨?_, ?_⟩))
    · have hand : bits .andNot .i64 (C : Int) (Cx : Int) = ((ndiff C Cx : Nat) : Int) := bits_andNot (by omega) (by omega)
      rw [q3] at hand
      simp only [go_sem, Nat.reduceEqDiff, beq_self_eq_true, bne_self_eq_false, p20, p21, p24, gn, hand]
      (repeat' (first | assumption | rfl | refine ⟨?_, ?_⟩))
  clear p4 p9 p11 p12 p13 p15 p20 p21 p22 p24 env
  rintro ⟨env, σ, df, dk⟩ ⟨p4, p9, p12, p13, p15, p20, p21, p22, p24, hσ, hdf, hk⟩
  simp only at p4 p9 p12 p13 p15 p20 p21 p22 p24 hσ hdf hk
  subst hσ hdf hk
  -- a wider span
  refine awpL_chop 3 (c1 := ?l1) (c2 := ?l2) (fun st => lk st.env 4 = .t (.ptr (tWa w) 0) ∧ lk st.env 9 = .t (vi i) ∧ lk st.env 13 = .t (.ptr LL 0) ∧ lk st.env 15 = .t (vb B) ∧ lk st.env 20 = .t (vi C) ∧ lk st.env 21 = .t (vi Er) ∧ lk st.env 24 = .t (vi N) ∧ st.σ = [] ∧ st.df = [] ∧ st.k = 0) ?hc9 ?_ ?_
  case hc9 => simp only [chop]; rfl
  · have hzO : (setF w i gw).OK := ⟨hw.no, by unfold setF; simp only [List.length_set]; exact hw.nf, hw.os, fun y hy => by
      unfold setF at hy
      rcases List.mem_or_eq_of_mem_set hy with hy | rfl
      · exact hw.fs y hy
      · exact hwOK⟩
    have hzk := ((setF w i gw).ok_iff).2 hzO
    have hLz : Lens (setF w i gw) := ⟨by have := hzO.no; omega, by have := hzO.nf; omega⟩
    have hgz : (setF w i gw).fs[i]? = some gw := by unfold setF; rw [List.getElem?_set_self hil]
    have r1 := Fits_ok (setF w i gw) i hLz
    have r2 := Count_ok (setF w i gw) hLz
    rw [specFits_in hzk hgz] at r1
    rw [specCount_at hzk] at r2
    have hle : N ≤ waysN (setF w i gw).fits := by
      rw [← hN, ← hgw]
      exact ways_sub (setF_len w i _) (setF_sub hg hwide)
    have hsub : ndiff Ft (fitN (setF w i gw).os gw) = 0 := ndiff_nil fun b hb => by
      have k1 : (w.fits.getD i 0).testBit b = true := by
        rw [fits_getD, hg]
        show (fitN w.os g).testBit b = true
        rw [hFt]
        exact hb
      have k2 := setF_sub hg hwide i b k1
      have k3 : ({ g with hi := wideI g u } : Fi) = gw := hgw
      rw [k3, fits_getD, hgz] at k2
      exact k2
    have hFz : fitN (setF w i gw).os gw < 64 := by
      obtain ⟨-, fz⟩ := fits_small hzO
      exact fz _ (by unfold Wa.fits; exact List.mem_map.2 ⟨gw, List.mem_of_getElem? hgz, rfl⟩)
    subst hZ
    generalize setF w i gw = x at *
    generalize fitN x.os gw = Fz at *
    have hand : bits .andNot .i64 (Ft : Int) (Fz : Int) = ((ndiff Ft Fz : Nat) : Int) := bits_andNot (by omega) (by omega)
    rw [hsub] at hand
    have gn : decide (((waysN x.fits : Nat) : Int) < (N : Int)) = false := decide_eq_false (by omega)
    unfold tWa wa2 at p12 r1 r2
    simp only [oneE] at r1 r2
    simp only [go_sem, Nat.reduceEqDiff, Nat.reduceAdd, p9, p12]
    refine ACallL.quiet1 r1 rfl rfl rfl ?_
    simp only [go_sem, Nat.reduceEqDiff, Nat.reduceAdd, p12]
    refine ACallL.quiet1 r2 rfl rfl rfl ?_
    simp only [go_sem, Nat.reduceEqDiff, beq_self_eq_true, bne_self_eq_false, p22, p24, gn, hand]
    (repeat' (first | assumption | rfl | refine ⟨?_, ?_⟩))
  clear p4 p9 p12 p13 p15 p20 p21 p22 p24 env
  rintro ⟨env, σ, df, dk⟩ ⟨p4, p9, p13, p15, p20, p21, p24, hσ, hdf, hk⟩
  simp only at p4 p9 p13 p15 p20 p21 p24 hσ hdf hk
  subst hσ hdf hk
  cases B
  · simp only [go_sem, Nat.reduceEqDiff, Bool.not_false, p15]
    refine ACallL.quiet1 alive_ok rfl rfl rfl ?_
    simp only [go_sem, Nat.reduceEqDiff]
    exact finL_ret [] ⟨rfl, rfl, rfl, rfl, _, rfl, res_mk rfl⟩
  -- all later
  rw [Bool.and_eq_true, List.all_eq_true, List.all_eq_true] at hB
  have hsO : (shW w).OK := shW_OK hw (fun o ho => of_decide_eq_true (hB.1 o ho)) (fun f hf => of_decide_eq_true (hB.2 f hf))
  have hsk := ((shW w).ok_iff).2 hsO
  have hLs : Lens (shW w) := ⟨by have := hsO.no; omega, by have := hsO.nf; omega⟩
  have hils : i < (shW w).fs.length := by unfold shW; simpa using hil
  have r1 := Can_ok (shW w) i hLs
  have r2 := Count_ok (shW w) hLs
  have hCs : specCan (shW w) i = ((C : Int), Er) := by
    rw [← hC, specCan_at hsk hils, specCan_at hok hil, fits_sh]
  rw [hCs] at r1
  rw [specCount_at hsk, fits_sh, hN] at r2
  have st1 := fun j : Nat => Stopped_ok w (i : Int) (j : Int) hL
  have st2 := fun j : Nat => Stopped_ok (shW w) (i : Int) (j : Int) hLs
  have hss := fun {j : Nat} {x : Ow} => stop_sh hw hsO (i := i) (j := j) (g := g) (x := x) hg
  have hsl : (shW w).os.length = w.os.length := by unfold shW; simp
  subst hLW
  generalize shW w = z at *
  unfold tWa wa2 at p4 p13 r1 r2 st1 st2
  simp only [oneE] at r1 r2
  simp only [go_sem, Nat.reduceEqDiff, Nat.reduceAdd, Bool.not_true, p9, p13, p15]
  refine ACallL.quiet1 r1 rfl rfl rfl ?_
  simp only [go_sem, Nat.reduceEqDiff, Nat.reduceAdd, p13]
  refine ACallL.quiet1 r2 rfl rfl rfl ?_
  simp only [go_sem, Nat.reduceEqDiff, beq_self_eq_true, bne_self_eq_false, p4, p20, p21, p24, List.length_map]
  refine awpL_loopK w.os.length (fun j s => s = { env := [(329, .t (vi j)), (4, .t (.ptr (.agg [.slice 4 (w.os.map tOw), .slice 5 (w.fs.map tFi)]) 0)), (9, .t (vi i)), (13, .t (.ptr (.agg [.slice 4 (z.os.map tOw), .slice 5 (z.fs.map tFi)]) 0)), (328, .t (vi w.os.length))], σ := [] })
    ⟨_, Sub.gc [] [329, 4, 9, 13, 328] rfl rfl, ?_⟩ ?_
  · exact St.gc_mk (by simp only [List.map_cons, List.map_nil, lk, Nat.reduceEqDiff, reduceIte, p4, p9, p13]; rfl) rfl rfl rfl
  clear p4 p9 p13 p15 p20 p21 p24 env
  rintro j s hj rfl
  have hj0 : ((j : Int) < 0) = False := eq_false (by omega)
  cases c : decide ((j : Int) < w.os.length)
  · simp only [go_sem, Nat.reduceEqDiff, c]
    refine ACallL.quiet1 alive_ok rfl rfl rfl ?_
    simp only [go_sem, Nat.reduceEqDiff]
    exact finL_ret [] ⟨rfl, rfl, rfl, rfl, _, rfl, res_mk rfl⟩
  have hjl : j < w.os.length := by have := of_decide_eq_true c; omega
  obtain ⟨S, e, k1, k2, k3, k4, k5⟩ := hss (List.getElem?_eq_getElem hjl)
  have a1 := st1 j
  have a2 := st2 j
  rw [k1] at a1
  rw [k2] at a2
  have hwj : IntKind.i64.wrap ((j : Int) + 1) = ((j + 1 : Nat) : Int) := by rw [wrap_id (by omega) (by omega)]; omega
  by_cases he : e = 0
  rotate_left
  · have hS := k3 he
    subst hS
    have hef : (e = 0) = False := eq_false he
    simp only [spsE, hef, if_false] at a1 a2
    simp only [go_sem, Nat.reduceEqDiff, Nat.reduceAdd, c]
    refine ACallL.fresh1 a1 rfl ?_
    simp only [go_sem, Nat.reduceEqDiff, Nat.reduceAdd]
    refine ACallL.fresh1 a2 rfl ?_
    simp only [go_sem, Nat.reduceEqDiff, beq_self_eq_true, bne_self_eq_false]
    refine awpL_loopK 0 (fun k s => s = { env := [(358, .t (vi k)), (4, .t (.ptr (.agg [.slice 4 (w.os.map tOw), .slice 5 (w.fs.map tFi)]) 0)), (9, .t (vi i)), (13, .t (.ptr (.agg [.slice 4 (z.os.map tOw), .slice 5 (z.fs.map tFi)]) 0)), (328, .t (vi w.os.length)), (329, .t (vi j)), (357, .t (vi 0))], σ := [] })
      ⟨_, Sub.gc [] [358, 4, 9, 13, 328, 329, 357] rfl rfl, rfl⟩ ?_
    rintro k s hk rfl
    obtain rfl : k = 0 := by omega
    simp only [go_sem, Nat.reduceEqDiff, Int.reduceLT, decide_false, hwj]
    exact ⟨hjl, _, Sub.gc [] [329, 4, 9, 13, 328] rfl rfl, rfl⟩
  subst he
  simp only [spsE, if_true] at a1 a2
  have hl1 : (tSps S).length = S.length := by unfold tSps; simp
  have hl2 : (tSps (S.map shS)).length = S.length := by unfold tSps; simp
  simp only [go_sem, Nat.reduceEqDiff, Nat.reduceAdd, c]
  refine ACallL.fresh1 a1 rfl ?_
  simp only [go_sem, Nat.reduceEqDiff, Nat.reduceAdd]
  refine ACallL.fresh1 a2 rfl ?_
  simp only [go_sem, Nat.reduceEqDiff, beq_self_eq_true, bne_self_eq_false, hl1, hl2]
  refine awpL_loopK S.length (fun k s => s = { env := [(358, .t (vi k)), (4, .t (.ptr (.agg [.slice 4 (w.os.map tOw), .slice 5 (w.fs.map tFi)]) 0)), (9, .t (vi i)), (13, .t (.ptr (.agg [.slice 4 (z.os.map tOw), .slice 5 (z.fs.map tFi)]) 0)), (41, .t (.slice 2 (tSps S))), (43, .t (.slice 2 (tSps (S.map shS)))), (328, .t (vi w.os.length)), (329, .t (vi j)), (357, .t (vi S.length))], σ := [] })
    ⟨_, Sub.gc [] [358, 4, 9, 13, 41, 43, 328, 329, 357] rfl rfl, rfl⟩ ?_
  rintro k s hk rfl
  have hk0 : ((k : Int) < 0) = False := eq_false (by omega)
  cases c2 : decide ((k : Int) < S.length)
  · simp only [go_sem, Nat.reduceEqDiff, c2, hwj]
    exact ⟨hjl, _, Sub.gc [] [329, 4, 9, 13, 328] rfl rfl, rfl⟩
  have hkl : k < S.length := by have := of_decide_eq_true c2; omega
  have hwk : IntKind.i64.wrap ((k : Int) + 1) = ((k + 1 : Nat) : Int) := by rw [wrap_id (by omega) (by omega)]; omega
  have hxk : S[k]? = some S[k] := List.getElem?_eq_getElem hkl
  have hb := k5 _ (List.getElem_mem hkl)
  generalize S[k] = p at *
  have e1 : (tSps S)[k]? = some (.agg [vi p.1, vi p.2]) := by unfold tSps; rw [List.getElem?_map, hxk]; rfl
  have e2 : (tSps (S.map shS))[k]? = some (.agg [vi (p.1 + 720), vi (p.2 + 720)]) := by unfold tSps; rw [List.getElem?_map, List.getElem?_map, hxk]; rfl
  have w1 : IntKind.i64.wrap (p.1 + 720) = p.1 + 720 := wrap_id (by omega) (by omega)
  have w2 : IntKind.i64.wrap (p.2 + 720) = p.2 + 720 := wrap_id (by omega) (by omega)
  have h34 := span2_ok (p.1 + 720) (p.2 + 720)
  unfold tSp at h34
  simp only [go_sem, Nat.reduceEqDiff, Nat.reduceAdd, c2, e1, e2, w1, w2]
  refine ACallL.quiet1 h34 rfl rfl rfl ?_
  simp only [go_sem, Nat.reduceEqDiff, Nat.reduceAdd, Bool.not_true, e1, e2, toKey2W, kEq2W, hwk]
  exact ⟨hkl, _, Sub.gc [] [358, 4, 9, 13, 41, 43, 328, 329, 357] rfl rfl, rfl⟩
end Go.Proofs.YtnmmhkkmejbckaaDoor
