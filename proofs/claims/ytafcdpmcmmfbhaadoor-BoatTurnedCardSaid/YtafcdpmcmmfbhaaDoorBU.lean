/- Proved here: laws that the statements need (BoC313, BoXF). No conditions but those that each law states. -/
import Derived.Test.YtafcdpmcmmfbhaaDoorFL
import Derived.Test.YtafcdpmcmmfbhaaDoorProg
import Derived.Test.YtafcdpmcmmfbhaaDoorBT

set_option linter.unusedSimpArgs false
set_option linter.unusedVariables false

/- Compiled code of functions, printed by program; each is checked to be the program's. No conditions. -/
namespace Go.Proofs.YtafcdpmcmmfbhaaDoor
open Go Go.Ab
/-- dipworks/dipworkslaw12.BoatTurned -/
def c13 : AC :=
 .seq (.reg [⟨(some 3), none, .box (.tmp 0)⟩,
 ⟨(some 6), none, .mov (.lit (.bool false))⟩])
 (.seq (.seq (.reg [⟨(some 45), none, .load true 5 (.tmp 3)⟩,
 ⟨(some 46), none, .call (.fn 32) [(.tmp 45)]⟩,
 ⟨(some 47), none, .un .not (.tmp 46)⟩,
 ⟨(some 48), none, .mov (.tmp 47)⟩,
 ⟨(some 49), (some (48, false)), .faddr 4 (.tmp 3)⟩,
 ⟨(some 50), (some (48, false)), .load false 1 (.tmp 49)⟩,
 ⟨(some 51), (some (48, false)), .len (.tmp 50)⟩,
 ⟨(some 52), (some (48, false)), .bin .eql (.tmp 51) (.lit (.int .i64 0))⟩,
 ⟨(some 53), none, .pick (.tmp 48) (.lit (.bool true)) (.tmp 52)⟩])
 (.cond (.tmp 53) (.seq (.reg [⟨(some 54), none, .call (.fn 15) []⟩,
 ⟨(some 6), none, .mov (.tmp 54)⟩])
 (.ret))
 (.skip)))
 (.seq (.draw (.step ⟨(some 55), none, .mov (.tmp 1)⟩ (
 .step ⟨(some 56), none, .conv .i64 (.tmp 55)⟩ (
 .step ⟨(some 57), none, .faddr 4 (.tmp 3)⟩ (
 .step ⟨(some 58), none, .load false 1 (.tmp 57)⟩ (
 .step ⟨(some 59), none, .len (.tmp 58)⟩ (
 .step ⟨(some 60), none, .bin .rem (.tmp 56) (.tmp 59)⟩ (
 .step ⟨(some 61), none, .mov (.tmp 2)⟩ (
 .step ⟨(some 62), none, .conv .i64 (.tmp 61)⟩ (
 .step ⟨(some 63), none, .faddr 3 (.tmp 3)⟩ (
 .step ⟨(some 64), none, .load false 1 (.tmp 63)⟩ (
 .step ⟨(some 65), none, .bin .add (.tmp 64) (.lit (.int .i64 1))⟩ (
 .step ⟨(some 66), none, .bin .rem (.tmp 62) (.tmp 65)⟩ (
 .step ⟨(some 7), none, .mov (.tmp 60)⟩ (
 .step ⟨(some 8), none, .mov (.tmp 66)⟩ (
 .done))))))))))))))))
 (.seq (.draw (.step ⟨(some 67), none, .load true 5 (.tmp 3)⟩ (
 .step ⟨(some 68), none, .load true 5 (.tmp 3)⟩ (
 .step ⟨(some 69), none, .load true 5 (.tmp 3)⟩ (
 .ev ⟨(some 9), none, .alloc [(.int .i64 0), (.int .i64 0), (.int .i64 0), (.int .i64 0), (.slice none 0 0)]⟩ [⟨(some 69), none, .load true 5 (.tmp 3)⟩, ⟨(some 68), none, .load true 5 (.tmp 3)⟩, ⟨(some 67), none, .load true 5 (.tmp 3)⟩] (
 .ev ⟨(some 10), none, .alloc [(.int .i64 0), (.int .i64 0), (.int .i64 0), (.int .i64 0), (.slice none 0 0)]⟩ [⟨(some 69), none, .load true 5 (.tmp 3)⟩, ⟨(some 68), none, .load true 5 (.tmp 3)⟩, ⟨(some 67), none, .load true 5 (.tmp 3)⟩] (
 .ev ⟨(some 11), none, .alloc [(.int .i64 0), (.int .i64 0), (.int .i64 0), (.int .i64 0), (.slice none 0 0)]⟩ [⟨(some 69), none, .load true 5 (.tmp 3)⟩, ⟨(some 68), none, .load true 5 (.tmp 3)⟩, ⟨(some 67), none, .load true 5 (.tmp 3)⟩] (
 .ev ⟨none, none, .store 5 (.tmp 9) (.tmp 67)⟩ [⟨(some 69), none, .load true 5 (.tmp 3)⟩, ⟨(some 68), none, .load true 5 (.tmp 3)⟩] (
 .ev ⟨none, none, .store 5 (.tmp 10) (.tmp 68)⟩ [⟨(some 69), none, .load true 5 (.tmp 3)⟩] (
 .ev ⟨none, none, .store 5 (.tmp 11) (.tmp 69)⟩ [] (
 .done)
 (.stop))
 (.stop))
 (.stop))
 (.stop))
 (.ev ⟨(some 11), none, .alloc [(.int .i64 0), (.int .i64 0), (.int .i64 0), (.int .i64 0), (.slice none 0 0)]⟩ [⟨(some 69), none, .load true 5 (.tmp 3)⟩, ⟨(some 68), none, .load true 5 (.tmp 3)⟩, ⟨(some 67), none, .load true 5 (.tmp 3)⟩] (
 .ev ⟨(some 10), none, .alloc [(.int .i64 0), (.int .i64 0), (.int .i64 0), (.int .i64 0), (.slice none 0 0)]⟩ [⟨(some 69), none, .load true 5 (.tmp 3)⟩, ⟨(some 68), none, .load true 5 (.tmp 3)⟩, ⟨(some 67), none, .load true 5 (.tmp 3)⟩] (
 .ev ⟨none, none, .store 5 (.tmp 9) (.tmp 67)⟩ [⟨(some 69), none, .load true 5 (.tmp 3)⟩, ⟨(some 68), none, .load true 5 (.tmp 3)⟩] (
 .ev ⟨none, none, .store 5 (.tmp 10) (.tmp 68)⟩ [⟨(some 69), none, .load true 5 (.tmp 3)⟩] (
 .ev ⟨none, none, .store 5 (.tmp 11) (.tmp 69)⟩ [] (
 .done)
 (.stop))
 (.stop))
 (.stop))
 (.stop))
 (.stop)))
 (.ev ⟨(some 10), none, .alloc [(.int .i64 0), (.int .i64 0), (.int .i64 0), (.int .i64 0), (.slice none 0 0)]⟩ [⟨(some 69), none, .load true 5 (.tmp 3)⟩, ⟨(some 68), none, .load true 5 (.tmp 3)⟩, ⟨(some 67), none, .load true 5 (.tmp 3)⟩] (
 .ev ⟨(some 9), none, .alloc [(.int .i64 0), (.int .i64 0), (.int .i64 0), (.int .i64 0), (.slice none 0 0)]⟩ [⟨(some 69), none, .load true 5 (.tmp 3)⟩, ⟨(some 68), none, .load true 5 (.tmp 3)⟩, ⟨(some 67), none, .load true 5 (.tmp 3)⟩] (
 .ev ⟨(some 11), none, .alloc [(.int .i64 0), (.int .i64 0), (.int .i64 0), (.int .i64 0), (.slice none 0 0)]⟩ [⟨(some 69), none, .load true 5 (.tmp 3)⟩, ⟨(some 68), none, .load true 5 (.tmp 3)⟩, ⟨(some 67), none, .load true 5 (.tmp 3)⟩] (
 .ev ⟨none, none, .store 5 (.tmp 9) (.tmp 67)⟩ [⟨(some 69), none, .load true 5 (.tmp 3)⟩, ⟨(some 68), none, .load true 5 (.tmp 3)⟩] (
 .ev ⟨none, none, .store 5 (.tmp 10) (.tmp 68)⟩ [⟨(some 69), none, .load true 5 (.tmp 3)⟩] (
 .ev ⟨none, none, .store 5 (.tmp 11) (.tmp 69)⟩ [] (
 .done)
 (.stop))
 (.stop))
 (.stop))
 (.stop))
 (.ev ⟨(some 11), none, .alloc [(.int .i64 0), (.int .i64 0), (.int .i64 0), (.int .i64 0), (.slice none 0 0)]⟩ [⟨(some 69), none, .load true 5 (.tmp 3)⟩, ⟨(some 68), none, .load true 5 (.tmp 3)⟩, ⟨(some 67), none, .load true 5 (.tmp 3)⟩] (
 .ev ⟨(some 9), none, .alloc [(.int .i64 0), (.int .i64 0), (.int .i64 0), (.int .i64 0), (.slice none 0 0)]⟩ [⟨(some 69), none, .load true 5 (.tmp 3)⟩, ⟨(some 68), none, .load true 5 (.tmp 3)⟩, ⟨(some 67), none, .load true 5 (.tmp 3)⟩] (
 .ev ⟨none, none, .store 5 (.tmp 9) (.tmp 67)⟩ [⟨(some 69), none, .load true 5 (.tmp 3)⟩, ⟨(some 68), none, .load true 5 (.tmp 3)⟩] (
 .ev ⟨none, none, .store 5 (.tmp 10) (.tmp 68)⟩ [⟨(some 69), none, .load true 5 (.tmp 3)⟩] (
 .ev ⟨none, none, .store 5 (.tmp 11) (.tmp 69)⟩ [] (
 .done)
 (.stop))
 (.stop))
 (.stop))
 (.stop))
 (.stop)))
 (.ev ⟨(some 11), none, .alloc [(.int .i64 0), (.int .i64 0), (.int .i64 0), (.int .i64 0), (.slice none 0 0)]⟩ [⟨(some 69), none, .load true 5 (.tmp 3)⟩, ⟨(some 68), none, .load true 5 (.tmp 3)⟩, ⟨(some 67), none, .load true 5 (.tmp 3)⟩] (
 .ev ⟨(some 9), none, .alloc [(.int .i64 0), (.int .i64 0), (.int .i64 0), (.int .i64 0), (.slice none 0 0)]⟩ [⟨(some 69), none, .load true 5 (.tmp 3)⟩, ⟨(some 68), none, .load true 5 (.tmp 3)⟩, ⟨(some 67), none, .load true 5 (.tmp 3)⟩] (
 .ev ⟨(some 10), none, .alloc [(.int .i64 0), (.int .i64 0), (.int .i64 0), (.int .i64 0), (.slice none 0 0)]⟩ [⟨(some 69), none, .load true 5 (.tmp 3)⟩, ⟨(some 68), none, .load true 5 (.tmp 3)⟩, ⟨(some 67), none, .load true 5 (.tmp 3)⟩] (
 .ev ⟨none, none, .store 5 (.tmp 9) (.tmp 67)⟩ [⟨(some 69), none, .load true 5 (.tmp 3)⟩, ⟨(some 68), none, .load true 5 (.tmp 3)⟩] (
 .ev ⟨none, none, .store 5 (.tmp 10) (.tmp 68)⟩ [⟨(some 69), none, .load true 5 (.tmp 3)⟩] (
 .ev ⟨none, none, .store 5 (.tmp 11) (.tmp 69)⟩ [] (
 .done)
 (.stop))
 (.stop))
 (.stop))
 (.stop))
 (.ev ⟨(some 10), none, .alloc [(.int .i64 0), (.int .i64 0), (.int .i64 0), (.int .i64 0), (.slice none 0 0)]⟩ [⟨(some 69), none, .load true 5 (.tmp 3)⟩, ⟨(some 68), none, .load true 5 (.tmp 3)⟩, ⟨(some 67), none, .load true 5 (.tmp 3)⟩] (
 .ev ⟨(some 9), none, .alloc [(.int .i64 0), (.int .i64 0), (.int .i64 0), (.int .i64 0), (.slice none 0 0)]⟩ [⟨(some 69), none, .load true 5 (.tmp 3)⟩, ⟨(some 68), none, .load true 5 (.tmp 3)⟩, ⟨(some 67), none, .load true 5 (.tmp 3)⟩] (
 .ev ⟨none, none, .store 5 (.tmp 9) (.tmp 67)⟩ [⟨(some 69), none, .load true 5 (.tmp 3)⟩, ⟨(some 68), none, .load true 5 (.tmp 3)⟩] (
 .ev ⟨none, none, .store 5 (.tmp 10) (.tmp 68)⟩ [⟨(some 69), none, .load true 5 (.tmp 3)⟩] (
 .ev ⟨none, none, .store 5 (.tmp 11) (.tmp 69)⟩ [] (
 .done)
 (.stop))
 (.stop))
 (.stop))
 (.stop))
 (.stop)))
 (.stop))))))))
 (.seq (.seq (.gcp)
 (.reg [⟨(some 12), none, .mov (.lit (.slice none 0 0))⟩,
 ⟨(some 13), none, .mov (.lit (.slice none 0 0))⟩]))
 (.seq (.reg [⟨(some 70), none, .faddr 4 (.tmp 3)⟩,
 ⟨(some 71), none, .load false 1 (.tmp 70)⟩,
 ⟨(some 72), none, .mov (.tmp 7)⟩,
 ⟨(some 73), none, .iaddr 1 (.tmp 71) (.tmp 72)⟩,
 ⟨(some 74), none, .load false 1 (.tmp 73)⟩,
 ⟨(some 75), none, .len (.tmp 74)⟩,
 ⟨(some 14), none, .mov (.tmp 75)⟩])
 (.seq (.seq (.reg [⟨(some 76), none, .faddr 4 (.tmp 3)⟩,
 ⟨(some 77), none, .load false 1 (.tmp 76)⟩,
 ⟨(some 78), none, .mov (.tmp 7)⟩,
 ⟨(some 79), none, .iaddr 1 (.tmp 77) (.tmp 78)⟩,
 ⟨(some 80), none, .load false 1 (.tmp 79)⟩,
 ⟨(some 81), none, .len (.tmp 80)⟩,
 ⟨(some 82), none, .mov (.lit (.int .i64 0))⟩])
 (.block 0 (.loop (.seq (.reg [⟨(some 83), none, .bin .lss (.tmp 82) (.tmp 81)⟩])
 (.seq (.cond (.tmp 83) (.skip)
 (.exit 0))
 (.seq (.block 1 (.seq (.reg [⟨(some 84), none, .mov (.tmp 82)⟩,
 ⟨(some 85), none, .iaddr 5 (.tmp 80) (.tmp 82)⟩,
 ⟨(some 86), none, .load true 5 (.tmp 85)⟩,
 ⟨(some 16), none, .alloc [(.int .i64 0), (.int .i64 0), (.int .i64 0), (.int .i64 0), (.int .i64 0)]⟩,
 ⟨(some 15), none, .mov (.tmp 84)⟩,
 ⟨none, none, .store 5 (.tmp 16) (.tmp 86)⟩])
 (.seq (.reg [⟨(some 87), none, .faddr 4 (.tmp 3)⟩,
 ⟨(some 88), none, .load false 1 (.tmp 87)⟩,
 ⟨(some 89), none, .mov (.tmp 7)⟩,
 ⟨(some 90), none, .iaddr 1 (.tmp 88) (.tmp 89)⟩,
 ⟨(some 91), none, .load false 1 (.tmp 90)⟩,
 ⟨(some 92), none, .mov (.tmp 14)⟩,
 ⟨(some 93), none, .bin .sub (.tmp 92) (.lit (.int .i64 1))⟩,
 ⟨(some 94), none, .mov (.tmp 15)⟩,
 ⟨(some 95), none, .bin .sub (.tmp 93) (.tmp 94)⟩,
 ⟨(some 96), none, .iaddr 5 (.tmp 91) (.tmp 95)⟩,
 ⟨(some 97), none, .load true 5 (.tmp 96)⟩,
 ⟨(some 17), none, .alloc [(.int .i64 0), (.int .i64 0), (.int .i64 0), (.int .i64 0), (.int .i64 0)]⟩,
 ⟨none, none, .store 5 (.tmp 17) (.tmp 97)⟩])
 (.seq (.reg [⟨(some 98), none, .faddr 3 (.tmp 3)⟩,
 ⟨(some 99), none, .load false 1 (.tmp 98)⟩,
 ⟨(some 100), none, .faddr 0 (.tmp 17)⟩,
 ⟨(some 101), none, .load false 1 (.tmp 100)⟩,
 ⟨(some 102), none, .bin .sub (.tmp 99) (.tmp 101)⟩,
 ⟨(some 103), none, .faddr 0 (.tmp 17)⟩,
 ⟨none, none, .store 1 (.tmp 103) (.tmp 102)⟩])
 (.seq (.reg [⟨(some 104), none, .faddr 0 (.tmp 3)⟩,
 ⟨(some 105), none, .load false 1 (.tmp 104)⟩,
 ⟨(some 106), none, .bin .sub (.tmp 105) (.lit (.int .i64 1))⟩,
 ⟨(some 107), none, .faddr 1 (.tmp 16)⟩,
 ⟨(some 108), none, .faddr 1 (.tmp 107)⟩,
 ⟨(some 109), none, .load false 1 (.tmp 108)⟩,
 ⟨(some 110), none, .bin .sub (.tmp 106) (.tmp 109)⟩,
 ⟨(some 111), none, .faddr 0 (.tmp 3)⟩,
 ⟨(some 112), none, .load false 1 (.tmp 111)⟩,
 ⟨(some 113), none, .bin .sub (.tmp 112) (.lit (.int .i64 1))⟩,
 ⟨(some 114), none, .faddr 1 (.tmp 16)⟩,
 ⟨(some 115), none, .faddr 0 (.tmp 114)⟩,
 ⟨(some 116), none, .load false 1 (.tmp 115)⟩,
 ⟨(some 117), none, .bin .sub (.tmp 113) (.tmp 116)⟩,
 ⟨(some 118), none, .call (.fn 45) [(.tmp 110), (.tmp 117)]⟩,
 ⟨(some 119), none, .faddr 1 (.tmp 16)⟩,
 ⟨none, none, .store 2 (.tmp 119) (.tmp 118)⟩])
 (.draw (.step ⟨(some 120), none, .mov (.tmp 12)⟩ (
 .step ⟨(some 121), none, .load true 5 (.tmp 16)⟩ (
 .step ⟨(some 124), none, .mov (.tmp 13)⟩ (
 .step ⟨(some 125), none, .load true 5 (.tmp 17)⟩ (
 .ev ⟨(some 122), none, .bslice 5 (.agg #[(.int .i64 0), (.int .i64 0), (.int .i64 0), (.int .i64 0), (.int .i64 0)]) 1 [(0, (.tmp 121))]⟩ [⟨(some 125), none, .load true 5 (.tmp 17)⟩] (
 .ev ⟨(some 123), none, .app 5 40 (.tmp 120) (.tmp 122)⟩ [⟨(some 125), none, .load true 5 (.tmp 17)⟩, ⟨(some 121), none, .load true 5 (.tmp 16)⟩] (
 .ev ⟨(some 126), none, .bslice 5 (.agg #[(.int .i64 0), (.int .i64 0), (.int .i64 0), (.int .i64 0), (.int .i64 0)]) 1 [(0, (.tmp 125))]⟩ [⟨(some 121), none, .load true 5 (.tmp 16)⟩] (
 .ev ⟨(some 127), none, .app 5 40 (.tmp 124) (.tmp 126)⟩ [⟨(some 125), none, .load true 5 (.tmp 17)⟩, ⟨(some 121), none, .load true 5 (.tmp 16)⟩] (
 .step ⟨(some 12), none, .mov (.tmp 123)⟩ (
 .step ⟨(some 13), none, .mov (.tmp 127)⟩ (
 .done)))
 (.stop))
 (.stop))
 (.ev ⟨(some 126), none, .bslice 5 (.agg #[(.int .i64 0), (.int .i64 0), (.int .i64 0), (.int .i64 0), (.int .i64 0)]) 1 [(0, (.tmp 125))]⟩ [⟨(some 121), none, .load true 5 (.tmp 16)⟩] (
 .ev ⟨(some 123), none, .app 5 40 (.tmp 120) (.tmp 122)⟩ [⟨(some 125), none, .load true 5 (.tmp 17)⟩, ⟨(some 121), none, .load true 5 (.tmp 16)⟩] (
 .ev ⟨(some 127), none, .app 5 40 (.tmp 124) (.tmp 126)⟩ [⟨(some 125), none, .load true 5 (.tmp 17)⟩, ⟨(some 121), none, .load true 5 (.tmp 16)⟩] (
 .step ⟨(some 12), none, .mov (.tmp 123)⟩ (
 .step ⟨(some 13), none, .mov (.tmp 127)⟩ (
 .done)))
 (.stop))
 (.stop))
 (.stop)))
 (.ev ⟨(some 126), none, .bslice 5 (.agg #[(.int .i64 0), (.int .i64 0), (.int .i64 0), (.int .i64 0), (.int .i64 0)]) 1 [(0, (.tmp 125))]⟩ [⟨(some 121), none, .load true 5 (.tmp 16)⟩] (
 .ev ⟨(some 122), none, .bslice 5 (.agg #[(.int .i64 0), (.int .i64 0), (.int .i64 0), (.int .i64 0), (.int .i64 0)]) 1 [(0, (.tmp 121))]⟩ [⟨(some 125), none, .load true 5 (.tmp 17)⟩] (
 .ev ⟨(some 123), none, .app 5 40 (.tmp 120) (.tmp 122)⟩ [⟨(some 125), none, .load true 5 (.tmp 17)⟩, ⟨(some 121), none, .load true 5 (.tmp 16)⟩] (
 .ev ⟨(some 127), none, .app 5 40 (.tmp 124) (.tmp 126)⟩ [⟨(some 125), none, .load true 5 (.tmp 17)⟩, ⟨(some 121), none, .load true 5 (.tmp 16)⟩] (
 .step ⟨(some 12), none, .mov (.tmp 123)⟩ (
 .step ⟨(some 13), none, .mov (.tmp 127)⟩ (
 .done)))
 (.stop))
 (.stop))
 (.stop))
 (.stop)))))))))))))
 (.reg [⟨(some 128), none, .bin .add (.tmp 82) (.lit (.int .i64 1))⟩,
 ⟨(some 82), none, .mov (.tmp 128)⟩])))))))
 (.seq (.seq (.gcp)
 (.draw (.step ⟨(some 129), none, .mov (.tmp 12)⟩ (
 .step ⟨(some 131), none, .mov (.tmp 13)⟩ (
 .step ⟨(some 133), none, .faddr 4 (.tmp 3)⟩ (
 .step ⟨(some 134), none, .load false 1 (.tmp 133)⟩ (
 .step ⟨(some 135), none, .mov (.tmp 7)⟩ (
 .step ⟨(some 136), none, .iaddr 1 (.tmp 134) (.tmp 135)⟩ (
 .step ⟨(some 137), none, .load false 1 (.tmp 136)⟩ (
 .ev ⟨(some 130), none, .bslice 1 (.slice none 0 0) 2 [(0, (.lit (.slice none 0 0))), (1, (.tmp 129))]⟩ [⟨(some 137), none, .load false 1 (.tmp 136)⟩, ⟨(some 136), none, .iaddr 1 (.tmp 134) (.tmp 135)⟩, ⟨(some 134), none, .load false 1 (.tmp 133)⟩, ⟨(some 133), none, .faddr 4 (.tmp 3)⟩] (
 .step ⟨(some 139), none, .faddr 4 (.tmp 9)⟩ (
 .ev ⟨(some 132), none, .bslice 1 (.slice none 0 0) 1 [(0, (.tmp 131))]⟩ [⟨(some 139), none, .faddr 4 (.tmp 9)⟩, ⟨(some 137), none, .load false 1 (.tmp 136)⟩, ⟨(some 136), none, .iaddr 1 (.tmp 134) (.tmp 135)⟩, ⟨(some 134), none, .load false 1 (.tmp 133)⟩, ⟨(some 133), none, .faddr 4 (.tmp 3)⟩] (
 .ev ⟨(some 138), none, .bslice 1 (.slice none 0 0) 3 [(0, (.tmp 137)), (1, (.lit (.slice none 0 0))), (2, (.lit (.slice none 0 0)))]⟩ [⟨(some 139), none, .faddr 4 (.tmp 9)⟩, ⟨(some 136), none, .iaddr 1 (.tmp 134) (.tmp 135)⟩, ⟨(some 134), none, .load false 1 (.tmp 133)⟩, ⟨(some 133), none, .faddr 4 (.tmp 3)⟩] (
 .ev ⟨none, none, .store 1 (.tmp 139) (.tmp 130)⟩ [⟨(some 137), none, .load false 1 (.tmp 136)⟩, ⟨(some 136), none, .iaddr 1 (.tmp 134) (.tmp 135)⟩, ⟨(some 134), none, .load false 1 (.tmp 133)⟩, ⟨(some 133), none, .faddr 4 (.tmp 3)⟩] (
 .step ⟨(some 140), none, .faddr 4 (.tmp 10)⟩ (
 .ev ⟨none, none, .store 1 (.tmp 140) (.tmp 132)⟩ [⟨(some 137), none, .load false 1 (.tmp 136)⟩, ⟨(some 136), none, .iaddr 1 (.tmp 134) (.tmp 135)⟩, ⟨(some 134), none, .load false 1 (.tmp 133)⟩, ⟨(some 133), none, .faddr 4 (.tmp 3)⟩] (
 .step ⟨(some 141), none, .faddr 4 (.tmp 11)⟩ (
 .ev ⟨none, none, .store 1 (.tmp 141) (.tmp 138)⟩ [] (
 .done)
 (.stop)))
 (.stop)))
 (.stop))
 (.ev ⟨none, none, .store 1 (.tmp 139) (.tmp 130)⟩ [⟨(some 137), none, .load false 1 (.tmp 136)⟩, ⟨(some 136), none, .iaddr 1 (.tmp 134) (.tmp 135)⟩, ⟨(some 134), none, .load false 1 (.tmp 133)⟩, ⟨(some 133), none, .faddr 4 (.tmp 3)⟩] (
 .step ⟨(some 140), none, .faddr 4 (.tmp 10)⟩ (
 .ev ⟨(some 138), none, .bslice 1 (.slice none 0 0) 3 [(0, (.tmp 137)), (1, (.lit (.slice none 0 0))), (2, (.lit (.slice none 0 0)))]⟩ [⟨(some 140), none, .faddr 4 (.tmp 10)⟩, ⟨(some 139), none, .faddr 4 (.tmp 9)⟩, ⟨(some 136), none, .iaddr 1 (.tmp 134) (.tmp 135)⟩, ⟨(some 134), none, .load false 1 (.tmp 133)⟩, ⟨(some 133), none, .faddr 4 (.tmp 3)⟩] (
 .ev ⟨none, none, .store 1 (.tmp 140) (.tmp 132)⟩ [⟨(some 137), none, .load false 1 (.tmp 136)⟩, ⟨(some 136), none, .iaddr 1 (.tmp 134) (.tmp 135)⟩, ⟨(some 134), none, .load false 1 (.tmp 133)⟩, ⟨(some 133), none, .faddr 4 (.tmp 3)⟩] (
 .step ⟨(some 141), none, .faddr 4 (.tmp 11)⟩ (
 .ev ⟨none, none, .store 1 (.tmp 141) (.tmp 138)⟩ [] (
 .done)
 (.stop)))
 (.stop))
 (.ev ⟨none, none, .store 1 (.tmp 140) (.tmp 132)⟩ [⟨(some 137), none, .load false 1 (.tmp 136)⟩, ⟨(some 136), none, .iaddr 1 (.tmp 134) (.tmp 135)⟩, ⟨(some 134), none, .load false 1 (.tmp 133)⟩, ⟨(some 133), none, .faddr 4 (.tmp 3)⟩] (
 .ev ⟨(some 138), none, .bslice 1 (.slice none 0 0) 3 [(0, (.tmp 137)), (1, (.lit (.slice none 0 0))), (2, (.lit (.slice none 0 0)))]⟩ [⟨(some 140), none, .faddr 4 (.tmp 10)⟩, ⟨(some 139), none, .faddr 4 (.tmp 9)⟩, ⟨(some 136), none, .iaddr 1 (.tmp 134) (.tmp 135)⟩, ⟨(some 134), none, .load false 1 (.tmp 133)⟩, ⟨(some 133), none, .faddr 4 (.tmp 3)⟩] (
 .step ⟨(some 141), none, .faddr 4 (.tmp 11)⟩ (
 .ev ⟨none, none, .store 1 (.tmp 141) (.tmp 138)⟩ [] (
 .done)
 (.stop)))
 (.stop))
 (.stop))))
 (.stop)))
 (.ev ⟨(some 138), none, .bslice 1 (.slice none 0 0) 3 [(0, (.tmp 137)), (1, (.lit (.slice none 0 0))), (2, (.lit (.slice none 0 0)))]⟩ [⟨(some 139), none, .faddr 4 (.tmp 9)⟩, ⟨(some 136), none, .iaddr 1 (.tmp 134) (.tmp 135)⟩, ⟨(some 134), none, .load false 1 (.tmp 133)⟩, ⟨(some 133), none, .faddr 4 (.tmp 3)⟩] (
 .ev ⟨(some 132), none, .bslice 1 (.slice none 0 0) 1 [(0, (.tmp 131))]⟩ [⟨(some 139), none, .faddr 4 (.tmp 9)⟩, ⟨(some 137), none, .load false 1 (.tmp 136)⟩, ⟨(some 136), none, .iaddr 1 (.tmp 134) (.tmp 135)⟩, ⟨(some 134), none, .load false 1 (.tmp 133)⟩, ⟨(some 133), none, .faddr 4 (.tmp 3)⟩] (
 .ev ⟨none, none, .store 1 (.tmp 139) (.tmp 130)⟩ [⟨(some 137), none, .load false 1 (.tmp 136)⟩, ⟨(some 136), none, .iaddr 1 (.tmp 134) (.tmp 135)⟩, ⟨(some 134), none, .load false 1 (.tmp 133)⟩, ⟨(some 133), none, .faddr 4 (.tmp 3)⟩] (
 .step ⟨(some 140), none, .faddr 4 (.tmp 10)⟩ (
 .ev ⟨none, none, .store 1 (.tmp 140) (.tmp 132)⟩ [⟨(some 137), none, .load false 1 (.tmp 136)⟩, ⟨(some 136), none, .iaddr 1 (.tmp 134) (.tmp 135)⟩, ⟨(some 134), none, .load false 1 (.tmp 133)⟩, ⟨(some 133), none, .faddr 4 (.tmp 3)⟩] (
 .step ⟨(some 141), none, .faddr 4 (.tmp 11)⟩ (
 .ev ⟨none, none, .store 1 (.tmp 141) (.tmp 138)⟩ [] (
 .done)
 (.stop)))
 (.stop)))
 (.stop))
 (.ev ⟨none, none, .store 1 (.tmp 139) (.tmp 130)⟩ [⟨(some 137), none, .load false 1 (.tmp 136)⟩, ⟨(some 136), none, .iaddr 1 (.tmp 134) (.tmp 135)⟩, ⟨(some 134), none, .load false 1 (.tmp 133)⟩, ⟨(some 133), none, .faddr 4 (.tmp 3)⟩] (
 .ev ⟨(some 132), none, .bslice 1 (.slice none 0 0) 1 [(0, (.tmp 131))]⟩ [⟨(some 139), none, .faddr 4 (.tmp 9)⟩, ⟨(some 137), none, .load false 1 (.tmp 136)⟩, ⟨(some 136), none, .iaddr 1 (.tmp 134) (.tmp 135)⟩, ⟨(some 134), none, .load false 1 (.tmp 133)⟩, ⟨(some 133), none, .faddr 4 (.tmp 3)⟩] (
 .step ⟨(some 140), none, .faddr 4 (.tmp 10)⟩ (
 .ev ⟨none, none, .store 1 (.tmp 140) (.tmp 132)⟩ [⟨(some 137), none, .load false 1 (.tmp 136)⟩, ⟨(some 136), none, .iaddr 1 (.tmp 134) (.tmp 135)⟩, ⟨(some 134), none, .load false 1 (.tmp 133)⟩, ⟨(some 133), none, .faddr 4 (.tmp 3)⟩] (
 .step ⟨(some 141), none, .faddr 4 (.tmp 11)⟩ (
 .ev ⟨none, none, .store 1 (.tmp 141) (.tmp 138)⟩ [] (
 .done)
 (.stop)))
 (.stop)))
 (.stop))
 (.stop)))
 (.ev ⟨none, none, .store 1 (.tmp 139) (.tmp 130)⟩ [⟨(some 137), none, .load false 1 (.tmp 136)⟩, ⟨(some 136), none, .iaddr 1 (.tmp 134) (.tmp 135)⟩, ⟨(some 134), none, .load false 1 (.tmp 133)⟩, ⟨(some 133), none, .faddr 4 (.tmp 3)⟩] (
 .ev ⟨(some 132), none, .bslice 1 (.slice none 0 0) 1 [(0, (.tmp 131))]⟩ [⟨(some 139), none, .faddr 4 (.tmp 9)⟩, ⟨(some 137), none, .load false 1 (.tmp 136)⟩, ⟨(some 136), none, .iaddr 1 (.tmp 134) (.tmp 135)⟩, ⟨(some 134), none, .load false 1 (.tmp 133)⟩, ⟨(some 133), none, .faddr 4 (.tmp 3)⟩] (
 .step ⟨(some 140), none, .faddr 4 (.tmp 10)⟩ (
 .ev ⟨(some 138), none, .bslice 1 (.slice none 0 0) 3 [(0, (.tmp 137)), (1, (.lit (.slice none 0 0))), (2, (.lit (.slice none 0 0)))]⟩ [⟨(some 140), none, .faddr 4 (.tmp 10)⟩, ⟨(some 139), none, .faddr 4 (.tmp 9)⟩, ⟨(some 136), none, .iaddr 1 (.tmp 134) (.tmp 135)⟩, ⟨(some 134), none, .load false 1 (.tmp 133)⟩, ⟨(some 133), none, .faddr 4 (.tmp 3)⟩] (
 .ev ⟨none, none, .store 1 (.tmp 140) (.tmp 132)⟩ [⟨(some 137), none, .load false 1 (.tmp 136)⟩, ⟨(some 136), none, .iaddr 1 (.tmp 134) (.tmp 135)⟩, ⟨(some 134), none, .load false 1 (.tmp 133)⟩, ⟨(some 133), none, .faddr 4 (.tmp 3)⟩] (
 .step ⟨(some 141), none, .faddr 4 (.tmp 11)⟩ (
 .ev ⟨none, none, .store 1 (.tmp 141) (.tmp 138)⟩ [] (
 .done)
 (.stop)))
 (.stop))
 (.ev ⟨none, none, .store 1 (.tmp 140) (.tmp 132)⟩ [⟨(some 137), none, .load false 1 (.tmp 136)⟩, ⟨(some 136), none, .iaddr 1 (.tmp 134) (.tmp 135)⟩, ⟨(some 134), none, .load false 1 (.tmp 133)⟩, ⟨(some 133), none, .faddr 4 (.tmp 3)⟩] (
 .ev ⟨(some 138), none, .bslice 1 (.slice none 0 0) 3 [(0, (.tmp 137)), (1, (.lit (.slice none 0 0))), (2, (.lit (.slice none 0 0)))]⟩ [⟨(some 140), none, .faddr 4 (.tmp 10)⟩, ⟨(some 139), none, .faddr 4 (.tmp 9)⟩, ⟨(some 136), none, .iaddr 1 (.tmp 134) (.tmp 135)⟩, ⟨(some 134), none, .load false 1 (.tmp 133)⟩, ⟨(some 133), none, .faddr 4 (.tmp 3)⟩] (
 .step ⟨(some 141), none, .faddr 4 (.tmp 11)⟩ (
 .ev ⟨none, none, .store 1 (.tmp 141) (.tmp 138)⟩ [] (
 .done)
 (.stop)))
 (.stop))
 (.stop))))
 (.ev ⟨(some 138), none, .bslice 1 (.slice none 0 0) 3 [(0, (.tmp 137)), (1, (.lit (.slice none 0 0))), (2, (.lit (.slice none 0 0)))]⟩ [⟨(some 139), none, .faddr 4 (.tmp 9)⟩, ⟨(some 136), none, .iaddr 1 (.tmp 134) (.tmp 135)⟩, ⟨(some 134), none, .load false 1 (.tmp 133)⟩, ⟨(some 133), none, .faddr 4 (.tmp 3)⟩] (
 .ev ⟨(some 132), none, .bslice 1 (.slice none 0 0) 1 [(0, (.tmp 131))]⟩ [⟨(some 139), none, .faddr 4 (.tmp 9)⟩, ⟨(some 137), none, .load false 1 (.tmp 136)⟩, ⟨(some 136), none, .iaddr 1 (.tmp 134) (.tmp 135)⟩, ⟨(some 134), none, .load false 1 (.tmp 133)⟩, ⟨(some 133), none, .faddr 4 (.tmp 3)⟩] (
 .step ⟨(some 140), none, .faddr 4 (.tmp 10)⟩ (
 .ev ⟨none, none, .store 1 (.tmp 140) (.tmp 132)⟩ [⟨(some 137), none, .load false 1 (.tmp 136)⟩, ⟨(some 136), none, .iaddr 1 (.tmp 134) (.tmp 135)⟩, ⟨(some 134), none, .load false 1 (.tmp 133)⟩, ⟨(some 133), none, .faddr 4 (.tmp 3)⟩] (
 .step ⟨(some 141), none, .faddr 4 (.tmp 11)⟩ (
 .ev ⟨none, none, .store 1 (.tmp 141) (.tmp 138)⟩ [] (
 .done)
 (.stop)))
 (.stop)))
 (.stop))
 (.stop)))
 (.stop)))))
 (.ev ⟨(some 132), none, .bslice 1 (.slice none 0 0) 1 [(0, (.tmp 131))]⟩ [⟨(some 137), none, .load false 1 (.tmp 136)⟩, ⟨(some 136), none, .iaddr 1 (.tmp 134) (.tmp 135)⟩, ⟨(some 134), none, .load false 1 (.tmp 133)⟩, ⟨(some 133), none, .faddr 4 (.tmp 3)⟩] (
 .ev ⟨(some 130), none, .bslice 1 (.slice none 0 0) 2 [(0, (.lit (.slice none 0 0))), (1, (.tmp 129))]⟩ [⟨(some 137), none, .load false 1 (.tmp 136)⟩, ⟨(some 136), none, .iaddr 1 (.tmp 134) (.tmp 135)⟩, ⟨(some 134), none, .load false 1 (.tmp 133)⟩, ⟨(some 133), none, .faddr 4 (.tmp 3)⟩] (
 .step ⟨(some 139), none, .faddr 4 (.tmp 9)⟩ (
 .ev ⟨(some 138), none, .bslice 1 (.slice none 0 0) 3 [(0, (.tmp 137)), (1, (.lit (.slice none 0 0))), (2, (.lit (.slice none 0 0)))]⟩ [⟨(some 139), none, .faddr 4 (.tmp 9)⟩, ⟨(some 136), none, .iaddr 1 (.tmp 134) (.tmp 135)⟩, ⟨(some 134), none, .load false 1 (.tmp 133)⟩, ⟨(some 133), none, .faddr 4 (.tmp 3)⟩] (
 .ev ⟨none, none, .store 1 (.tmp 139) (.tmp 130)⟩ [⟨(some 137), none, .load false 1 (.tmp 136)⟩, ⟨(some 136), none, .iaddr 1 (.tmp 134) (.tmp 135)⟩, ⟨(some 134), none, .load false 1 (.tmp 133)⟩, ⟨(some 133), none, .faddr 4 (.tmp 3)⟩] (
 .step ⟨(some 140), none, .faddr 4 (.tmp 10)⟩ (
 .ev ⟨none, none, .store 1 (.tmp 140) (.tmp 132)⟩ [⟨(some 137), none, .load false 1 (.tmp 136)⟩, ⟨(some 136), none, .iaddr 1 (.tmp 134) (.tmp 135)⟩, ⟨(some 134), none, .load false 1 (.tmp 133)⟩, ⟨(some 133), none, .faddr 4 (.tmp 3)⟩] (
 .step ⟨(some 141), none, .faddr 4 (.tmp 11)⟩ (
 .ev ⟨none, none, .store 1 (.tmp 141) (.tmp 138)⟩ [] (
 .done)
 (.stop)))
 (.stop)))
 (.stop))
 (.ev ⟨none, none, .store 1 (.tmp 139) (.tmp 130)⟩ [⟨(some 137), none, .load false 1 (.tmp 136)⟩, ⟨(some 136), none, .iaddr 1 (.tmp 134) (.tmp 135)⟩, ⟨(some 134), none, .load false 1 (.tmp 133)⟩, ⟨(some 133), none, .faddr 4 (.tmp 3)⟩] (
 .step ⟨(some 140), none, .faddr 4 (.tmp 10)⟩ (
 .ev ⟨(some 138), none, .bslice 1 (.slice none 0 0) 3 [(0, (.tmp 137)), (1, (.lit (.slice none 0 0))), (2, (.lit (.slice none 0 0)))]⟩ [⟨(some 140), none, .faddr 4 (.tmp 10)⟩, ⟨(some 139), none, .faddr 4 (.tmp 9)⟩, ⟨(some 136), none, .iaddr 1 (.tmp 134) (.tmp 135)⟩, ⟨(some 134), none, .load false 1 (.tmp 133)⟩, ⟨(some 133), none, .faddr 4 (.tmp 3)⟩] (
 .ev ⟨none, none, .store 1 (.tmp 140) (.tmp 132)⟩ [⟨(some 137), none, .load false 1 (.tmp 136)⟩, ⟨(some 136), none, .iaddr 1 (.tmp 134) (.tmp 135)⟩, ⟨(some 134), none, .load false 1 (.tmp 133)⟩, ⟨(some 133), none, .faddr 4 (.tmp 3)⟩] (
 .step ⟨(some 141), none, .faddr 4 (.tmp 11)⟩ (
 .ev ⟨none, none, .store 1 (.tmp 141) (.tmp 138)⟩ [] (
 .done)
 (.stop)))
 (.stop))
 (.ev ⟨none, none, .store 1 (.tmp 140) (.tmp 132)⟩ [⟨(some 137), none, .load false 1 (.tmp 136)⟩, ⟨(some 136), none, .iaddr 1 (.tmp 134) (.tmp 135)⟩, ⟨(some 134), none, .load false 1 (.tmp 133)⟩, ⟨(some 133), none, .faddr 4 (.tmp 3)⟩] (
 .ev ⟨(some 138), none, .bslice 1 (.slice none 0 0) 3 [(0, (.tmp 137)), (1, (.lit (.slice none 0 0))), (2, (.lit (.slice none 0 0)))]⟩ [⟨(some 140), none, .faddr 4 (.tmp 10)⟩, ⟨(some 139), none, .faddr 4 (.tmp 9)⟩, ⟨(some 136), none, .iaddr 1 (.tmp 134) (.tmp 135)⟩, ⟨(some 134), none, .load false 1 (.tmp 133)⟩, ⟨(some 133), none, .faddr 4 (.tmp 3)⟩] (
 .step ⟨(some 141), none, .faddr 4 (.tmp 11)⟩ (
 .ev ⟨none, none, .store 1 (.tmp 141) (.tmp 138)⟩ [] (
 .done)
 (.stop)))
 (.stop))
 (.stop))))
 (.stop))))
 (.ev ⟨(some 138), none, .bslice 1 (.slice none 0 0) 3 [(0, (.tmp 137)), (1, (.lit (.slice none 0 0))), (2, (.lit (.slice none 0 0)))]⟩ [⟨(some 136), none, .iaddr 1 (.tmp 134) (.tmp 135)⟩, ⟨(some 134), none, .load false 1 (.tmp 133)⟩, ⟨(some 133), none, .faddr 4 (.tmp 3)⟩] (
 .ev ⟨(some 130), none, .bslice 1 (.slice none 0 0) 2 [(0, (.lit (.slice none 0 0))), (1, (.tmp 129))]⟩ [⟨(some 137), none, .load false 1 (.tmp 136)⟩, ⟨(some 136), none, .iaddr 1 (.tmp 134) (.tmp 135)⟩, ⟨(some 134), none, .load false 1 (.tmp 133)⟩, ⟨(some 133), none, .faddr 4 (.tmp 3)⟩] (
 .step ⟨(some 139), none, .faddr 4 (.tmp 9)⟩ (
 .ev ⟨none, none, .store 1 (.tmp 139) (.tmp 130)⟩ [⟨(some 137), none, .load false 1 (.tmp 136)⟩, ⟨(some 136), none, .iaddr 1 (.tmp 134) (.tmp 135)⟩, ⟨(some 134), none, .load false 1 (.tmp 133)⟩, ⟨(some 133), none, .faddr 4 (.tmp 3)⟩] (
 .step ⟨(some 140), none, .faddr 4 (.tmp 10)⟩ (
 .ev ⟨none, none, .store 1 (.tmp 140) (.tmp 132)⟩ [⟨(some 137), none, .load false 1 (.tmp 136)⟩, ⟨(some 136), none, .iaddr 1 (.tmp 134) (.tmp 135)⟩, ⟨(some 134), none, .load false 1 (.tmp 133)⟩, ⟨(some 133), none, .faddr 4 (.tmp 3)⟩] (
 .step ⟨(some 141), none, .faddr 4 (.tmp 11)⟩ (
 .ev ⟨none, none, .store 1 (.tmp 141) (.tmp 138)⟩ [] (
 .done)
 (.stop)))
 (.stop)))
 (.stop)))
 (.stop))
 (.stop)))
 (.ev ⟨(some 138), none, .bslice 1 (.slice none 0 0) 3 [(0, (.tmp 137)), (1, (.lit (.slice none 0 0))), (2, (.lit (.slice none 0 0)))]⟩ [⟨(some 136), none, .iaddr 1 (.tmp 134) (.tmp 135)⟩, ⟨(some 134), none, .load false 1 (.tmp 133)⟩, ⟨(some 133), none, .faddr 4 (.tmp 3)⟩] (
 .ev ⟨(some 130), none, .bslice 1 (.slice none 0 0) 2 [(0, (.lit (.slice none 0 0))), (1, (.tmp 129))]⟩ [⟨(some 137), none, .load false 1 (.tmp 136)⟩, ⟨(some 136), none, .iaddr 1 (.tmp 134) (.tmp 135)⟩, ⟨(some 134), none, .load false 1 (.tmp 133)⟩, ⟨(some 133), none, .faddr 4 (.tmp 3)⟩] (
 .step ⟨(some 139), none, .faddr 4 (.tmp 9)⟩ (
 .ev ⟨(some 132), none, .bslice 1 (.slice none 0 0) 1 [(0, (.tmp 131))]⟩ [⟨(some 139), none, .faddr 4 (.tmp 9)⟩, ⟨(some 137), none, .load false 1 (.tmp 136)⟩, ⟨(some 136), none, .iaddr 1 (.tmp 134) (.tmp 135)⟩, ⟨(some 134), none, .load false 1 (.tmp 133)⟩, ⟨(some 133), none, .faddr 4 (.tmp 3)⟩] (
 .ev ⟨none, none, .store 1 (.tmp 139) (.tmp 130)⟩ [⟨(some 137), none, .load false 1 (.tmp 136)⟩, ⟨(some 136), none, .iaddr 1 (.tmp 134) (.tmp 135)⟩, ⟨(some 134), none, .load false 1 (.tmp 133)⟩, ⟨(some 133), none, .faddr 4 (.tmp 3)⟩] (
 .step ⟨(some 140), none, .faddr 4 (.tmp 10)⟩ (
 .ev ⟨none, none, .store 1 (.tmp 140) (.tmp 132)⟩ [⟨(some 137), none, .load false 1 (.tmp 136)⟩, ⟨(some 136), none, .iaddr 1 (.tmp 134) (.tmp 135)⟩, ⟨(some 134), none, .load false 1 (.tmp 133)⟩, ⟨(some 133), none, .faddr 4 (.tmp 3)⟩] (
 .step ⟨(some 141), none, .faddr 4 (.tmp 11)⟩ (
 .ev ⟨none, none, .store 1 (.tmp 141) (.tmp 138)⟩ [] (
 .done)
 (.stop)))
 (.stop)))
 (.stop))
 (.ev ⟨none, none, .store 1 (.tmp 139) (.tmp 130)⟩ [⟨(some 137), none, .load false 1 (.tmp 136)⟩, ⟨(some 136), none, .iaddr 1 (.tmp 134) (.tmp 135)⟩, ⟨(some 134), none, .load false 1 (.tmp 133)⟩, ⟨(some 133), none, .faddr 4 (.tmp 3)⟩] (
 .ev ⟨(some 132), none, .bslice 1 (.slice none 0 0) 1 [(0, (.tmp 131))]⟩ [⟨(some 139), none, .faddr 4 (.tmp 9)⟩, ⟨(some 137), none, .load false 1 (.tmp 136)⟩, ⟨(some 136), none, .iaddr 1 (.tmp 134) (.tmp 135)⟩, ⟨(some 134), none, .load false 1 (.tmp 133)⟩, ⟨(some 133), none, .faddr 4 (.tmp 3)⟩] (
 .step ⟨(some 140), none, .faddr 4 (.tmp 10)⟩ (
 .ev ⟨none, none, .store 1 (.tmp 140) (.tmp 132)⟩ [⟨(some 137), none, .load false 1 (.tmp 136)⟩, ⟨(some 136), none, .iaddr 1 (.tmp 134) (.tmp 135)⟩, ⟨(some 134), none, .load false 1 (.tmp 133)⟩, ⟨(some 133), none, .faddr 4 (.tmp 3)⟩] (
 .step ⟨(some 141), none, .faddr 4 (.tmp 11)⟩ (
 .ev ⟨none, none, .store 1 (.tmp 141) (.tmp 138)⟩ [] (
 .done)
 (.stop)))
 (.stop)))
 (.stop))
 (.stop))))
 (.ev ⟨(some 132), none, .bslice 1 (.slice none 0 0) 1 [(0, (.tmp 131))]⟩ [⟨(some 137), none, .load false 1 (.tmp 136)⟩, ⟨(some 136), none, .iaddr 1 (.tmp 134) (.tmp 135)⟩, ⟨(some 134), none, .load false 1 (.tmp 133)⟩, ⟨(some 133), none, .faddr 4 (.tmp 3)⟩] (
 .ev ⟨(some 130), none, .bslice 1 (.slice none 0 0) 2 [(0, (.lit (.slice none 0 0))), (1, (.tmp 129))]⟩ [⟨(some 137), none, .load false 1 (.tmp 136)⟩, ⟨(some 136), none, .iaddr 1 (.tmp 134) (.tmp 135)⟩, ⟨(some 134), none, .load false 1 (.tmp 133)⟩, ⟨(some 133), none, .faddr 4 (.tmp 3)⟩] (
 .step ⟨(some 139), none, .faddr 4 (.tmp 9)⟩ (
 .ev ⟨none, none, .store 1 (.tmp 139) (.tmp 130)⟩ [⟨(some 137), none, .load false 1 (.tmp 136)⟩, ⟨(some 136), none, .iaddr 1 (.tmp 134) (.tmp 135)⟩, ⟨(some 134), none, .load false 1 (.tmp 133)⟩, ⟨(some 133), none, .faddr 4 (.tmp 3)⟩] (
 .step ⟨(some 140), none, .faddr 4 (.tmp 10)⟩ (
 .ev ⟨none, none, .store 1 (.tmp 140) (.tmp 132)⟩ [⟨(some 137), none, .load false 1 (.tmp 136)⟩, ⟨(some 136), none, .iaddr 1 (.tmp 134) (.tmp 135)⟩, ⟨(some 134), none, .load false 1 (.tmp 133)⟩, ⟨(some 133), none, .faddr 4 (.tmp 3)⟩] (
 .step ⟨(some 141), none, .faddr 4 (.tmp 11)⟩ (
 .ev ⟨none, none, .store 1 (.tmp 141) (.tmp 138)⟩ [] (
 .done)
 (.stop)))
 (.stop)))
 (.stop)))
 (.stop))
 (.stop)))
 (.stop)))))))))))))
 (.seq (.seq (.gcp)
 (.reg [⟨(some 142), none, .bslice 5 (.agg #[(.int .i64 0), (.int .i64 0), (.int .i64 0), (.int .i64 0), (.int .i64 0)]) 0 []⟩,
 ⟨(some 143), none, .faddr 4 (.tmp 3)⟩,
 ⟨(some 144), none, .load false 1 (.tmp 143)⟩,
 ⟨(some 145), none, .mov (.tmp 7)⟩,
 ⟨(some 146), none, .iaddr 1 (.tmp 144) (.tmp 145)⟩,
 ⟨(some 147), none, .load false 1 (.tmp 146)⟩,
 ⟨(some 148), none, .app 5 40 (.tmp 142) (.tmp 147)⟩,
 ⟨(some 18), none, .mov (.tmp 148)⟩]))
 (.seq (.reg [⟨(some 150), none, .load true 5 (.tmp 3)⟩,
 ⟨(some 151), none, .mov (.tmp 7)⟩,
 ⟨(some 152), none, .mov (.tmp 8)⟩,
 ⟨(some 153), none, .call (.fn 16) [(.tmp 150), (.tmp 151), (.tmp 152)]⟩,
 ⟨(some 149), none, .mov (.tmp 153)⟩,
 ⟨(some 154), none, .ext (.tmp 149) 0⟩,
 ⟨(some 155), none, .ext (.tmp 149) 1⟩,
 ⟨(some 19), none, .mov (.tmp 154)⟩,
 ⟨(some 20), none, .mov (.tmp 155)⟩])
 (.seq (.reg [⟨(some 157), none, .load true 5 (.tmp 9)⟩,
 ⟨(some 158), none, .mov (.tmp 8)⟩,
 ⟨(some 159), none, .call (.fn 16) [(.tmp 157), (.lit (.int .i64 1)), (.tmp 158)]⟩,
 ⟨(some 156), none, .mov (.tmp 159)⟩,
 ⟨(some 160), none, .ext (.tmp 156) 0⟩,
 ⟨(some 161), none, .ext (.tmp 156) 1⟩,
 ⟨(some 21), none, .mov (.tmp 160)⟩,
 ⟨(some 22), none, .mov (.tmp 161)⟩])
 (.seq (.reg [⟨(some 163), none, .load true 5 (.tmp 10)⟩,
 ⟨(some 164), none, .faddr 3 (.tmp 3)⟩,
 ⟨(some 165), none, .load false 1 (.tmp 164)⟩,
 ⟨(some 166), none, .mov (.tmp 8)⟩,
 ⟨(some 167), none, .bin .sub (.tmp 165) (.tmp 166)⟩,
 ⟨(some 168), none, .call (.fn 16) [(.tmp 163), (.lit (.int .i64 0)), (.tmp 167)]⟩,
 ⟨(some 162), none, .mov (.tmp 168)⟩,
 ⟨(some 169), none, .ext (.tmp 162) 0⟩,
 ⟨(some 170), none, .ext (.tmp 162) 1⟩,
 ⟨(some 23), none, .mov (.tmp 169)⟩,
 ⟨(some 24), none, .mov (.tmp 170)⟩])
 (.seq (.reg [⟨(some 172), none, .load true 5 (.tmp 11)⟩,
 ⟨(some 173), none, .mov (.tmp 8)⟩,
 ⟨(some 174), none, .call (.fn 16) [(.tmp 172), (.lit (.int .i64 0)), (.tmp 173)]⟩,
 ⟨(some 171), none, .mov (.tmp 174)⟩,
 ⟨(some 175), none, .ext (.tmp 171) 0⟩,
 ⟨(some 176), none, .ext (.tmp 171) 1⟩,
 ⟨(some 25), none, .mov (.tmp 175)⟩,
 ⟨(some 26), none, .mov (.tmp 176)⟩])
 (.seq (.reg [⟨(some 178), none, .load true 5 (.tmp 3)⟩,
 ⟨(some 179), none, .mov (.tmp 7)⟩,
 ⟨(some 180), none, .call (.fn 20) [(.tmp 178), (.tmp 179)]⟩,
 ⟨(some 177), none, .mov (.tmp 180)⟩,
 ⟨(some 181), none, .ext (.tmp 177) 0⟩,
 ⟨(some 182), none, .ext (.tmp 177) 1⟩,
 ⟨(some 27), none, .alloc [(.int .i64 0), (.int .i64 0)]⟩,
 ⟨none, none, .store 2 (.tmp 27) (.tmp 181)⟩,
 ⟨(some 28), none, .mov (.tmp 182)⟩])
 (.seq (.reg [⟨(some 184), none, .load true 5 (.tmp 9)⟩,
 ⟨(some 185), none, .call (.fn 20) [(.tmp 184), (.lit (.int .i64 1))]⟩,
 ⟨(some 183), none, .mov (.tmp 185)⟩,
 ⟨(some 186), none, .ext (.tmp 183) 0⟩,
 ⟨(some 187), none, .ext (.tmp 183) 1⟩,
 ⟨(some 29), none, .alloc [(.int .i64 0), (.int .i64 0)]⟩,
 ⟨none, none, .store 2 (.tmp 29) (.tmp 186)⟩,
 ⟨(some 30), none, .mov (.tmp 187)⟩])
 (.seq (.reg [⟨(some 189), none, .load true 5 (.tmp 10)⟩,
 ⟨(some 190), none, .call (.fn 20) [(.tmp 189), (.lit (.int .i64 0))]⟩,
 ⟨(some 188), none, .mov (.tmp 190)⟩,
 ⟨(some 191), none, .ext (.tmp 188) 0⟩,
 ⟨(some 192), none, .ext (.tmp 188) 1⟩,
 ⟨(some 31), none, .alloc [(.int .i64 0), (.int .i64 0)]⟩,
 ⟨none, none, .store 2 (.tmp 31) (.tmp 191)⟩,
 ⟨(some 32), none, .mov (.tmp 192)⟩])
 (.seq (.reg [⟨(some 194), none, .load true 5 (.tmp 3)⟩,
 ⟨(some 195), none, .mov (.tmp 7)⟩,
 ⟨(some 196), none, .call (.fn 28) [(.tmp 194), (.tmp 195)]⟩,
 ⟨(some 193), none, .mov (.tmp 196)⟩,
 ⟨(some 197), none, .ext (.tmp 193) 0⟩,
 ⟨(some 198), none, .ext (.tmp 193) 1⟩,
 ⟨(some 33), none, .mov (.tmp 197)⟩,
 ⟨(some 34), none, .mov (.tmp 198)⟩])
 (.seq (.reg [⟨(some 200), none, .load true 5 (.tmp 10)⟩,
 ⟨(some 201), none, .call (.fn 28) [(.tmp 200), (.lit (.int .i64 0))]⟩,
 ⟨(some 199), none, .mov (.tmp 201)⟩,
 ⟨(some 202), none, .ext (.tmp 199) 0⟩,
 ⟨(some 203), none, .ext (.tmp 199) 1⟩,
 ⟨(some 35), none, .mov (.tmp 202)⟩,
 ⟨(some 36), none, .mov (.tmp 203)⟩])
 (.seq (.reg [⟨(some 205), none, .load true 5 (.tmp 3)⟩,
 ⟨(some 206), none, .mov (.tmp 7)⟩,
 ⟨(some 207), none, .call (.fn 30) [(.tmp 205), (.tmp 206)]⟩,
 ⟨(some 204), none, .mov (.tmp 207)⟩,
 ⟨(some 208), none, .ext (.tmp 204) 0⟩,
 ⟨(some 209), none, .ext (.tmp 204) 1⟩,
 ⟨(some 37), none, .mov (.tmp 208)⟩,
 ⟨(some 38), none, .mov (.tmp 209)⟩])
 (.seq (.reg [⟨(some 211), none, .load true 5 (.tmp 10)⟩,
 ⟨(some 212), none, .call (.fn 30) [(.tmp 211), (.lit (.int .i64 0))]⟩,
 ⟨(some 210), none, .mov (.tmp 212)⟩,
 ⟨(some 213), none, .ext (.tmp 210) 0⟩,
 ⟨(some 214), none, .ext (.tmp 210) 1⟩,
 ⟨(some 39), none, .mov (.tmp 213)⟩,
 ⟨(some 40), none, .mov (.tmp 214)⟩])
 (.seq (.reg [⟨(some 41), none, .mov (.fn 44)⟩])
 (.seq (.seq (.reg [⟨(some 215), none, .mov (.tmp 20)⟩,
 ⟨(some 216), none, .mov (.tmp 22)⟩,
 ⟨(some 217), none, .bin .neq (.tmp 215) (.tmp 216)⟩,
 ⟨(some 218), none, .mov (.tmp 217)⟩,
 ⟨(some 219), (some (218, false)), .mov (.tmp 20)⟩,
 ⟨(some 220), (some (218, false)), .mov (.tmp 24)⟩,
 ⟨(some 221), (some (218, false)), .bin .neq (.tmp 219) (.tmp 220)⟩,
 ⟨(some 222), none, .pick (.tmp 218) (.lit (.bool true)) (.tmp 221)⟩,
 ⟨(some 223), none, .mov (.tmp 222)⟩,
 ⟨(some 224), (some (223, false)), .mov (.tmp 20)⟩,
 ⟨(some 225), (some (223, false)), .mov (.tmp 26)⟩,
 ⟨(some 226), (some (223, false)), .bin .neq (.tmp 224) (.tmp 225)⟩,
 ⟨(some 227), none, .pick (.tmp 223) (.lit (.bool true)) (.tmp 226)⟩,
 ⟨(some 228), none, .mov (.tmp 227)⟩,
 ⟨(some 229), (some (228, false)), .mov (.tmp 19)⟩,
 ⟨(some 230), (some (228, false)), .mov (.tmp 23)⟩,
 ⟨(some 231), (some (228, false)), .bin .neq (.tmp 229) (.tmp 230)⟩,
 ⟨(some 232), none, .pick (.tmp 228) (.lit (.bool true)) (.tmp 231)⟩,
 ⟨(some 233), none, .mov (.tmp 232)⟩,
 ⟨(some 234), (some (233, false)), .mov (.tmp 19)⟩,
 ⟨(some 235), (some (233, false)), .mov (.tmp 25)⟩,
 ⟨(some 236), (some (233, false)), .bin .neq (.tmp 234) (.tmp 235)⟩,
 ⟨(some 237), none, .pick (.tmp 233) (.lit (.bool true)) (.tmp 236)⟩,
 ⟨(some 238), none, .mov (.tmp 237)⟩,
 ⟨(some 239), (some (238, false)), .load true 2 (.tmp 27)⟩,
 ⟨(some 240), (some (238, false)), .load true 2 (.tmp 29)⟩,
 ⟨(some 241), (some (238, false)), .eqs true [(some .i64), (some .i64)] (.tmp 239) (.tmp 240)⟩,
 ⟨(some 242), none, .pick (.tmp 238) (.lit (.bool true)) (.tmp 241)⟩,
 ⟨(some 243), none, .mov (.tmp 242)⟩,
 ⟨(some 244), (some (243, false)), .mov (.tmp 28)⟩,
 ⟨(some 245), (some (243, false)), .mov (.tmp 30)⟩,
 ⟨(some 246), (some (243, false)), .bin .neq (.tmp 244) (.tmp 245)⟩,
 ⟨(some 247), none, .pick (.tmp 243) (.lit (.bool true)) (.tmp 246)⟩,
 ⟨(some 248), none, .mov (.tmp 247)⟩,
 ⟨(some 249), (some (248, false)), .load true 2 (.tmp 27)⟩,
 ⟨(some 250), (some (248, false)), .load true 2 (.tmp 31)⟩,
 ⟨(some 251), (some (248, false)), .eqs true [(some .i64), (some .i64)] (.tmp 249) (.tmp 250)⟩,
 ⟨(some 252), none, .pick (.tmp 248) (.lit (.bool true)) (.tmp 251)⟩,
 ⟨(some 253), none, .mov (.tmp 252)⟩,
 ⟨(some 254), (some (253, false)), .mov (.tmp 28)⟩,
 ⟨(some 255), (some (253, false)), .mov (.tmp 32)⟩,
 ⟨(some 256), (some (253, false)), .bin .neq (.tmp 254) (.tmp 255)⟩,
 ⟨(some 257), none, .pick (.tmp 253) (.lit (.bool true)) (.tmp 256)⟩,
 ⟨(some 258), none, .mov (.tmp 257)⟩,
 ⟨(some 259), (some (258, false)), .mov (.tmp 33)⟩,
 ⟨(some 260), (some (258, false)), .mov (.tmp 35)⟩,
 ⟨(some 261), (some (258, false)), .bin .neq (.tmp 259) (.tmp 260)⟩,
 ⟨(some 262), none, .pick (.tmp 258) (.lit (.bool true)) (.tmp 261)⟩,
 ⟨(some 263), none, .mov (.tmp 262)⟩,
 ⟨(some 264), (some (263, false)), .mov (.tmp 34)⟩,
 ⟨(some 265), (some (263, false)), .mov (.tmp 36)⟩,
 ⟨(some 266), (some (263, false)), .bin .neq (.tmp 264) (.tmp 265)⟩,
 ⟨(some 267), none, .pick (.tmp 263) (.lit (.bool true)) (.tmp 266)⟩,
 ⟨(some 268), none, .mov (.tmp 267)⟩,
 ⟨(some 269), (some (268, false)), .mov (.tmp 38)⟩,
 ⟨(some 270), (some (268, false)), .mov (.tmp 40)⟩,
 ⟨(some 271), (some (268, false)), .bin .neq (.tmp 269) (.tmp 270)⟩,
 ⟨(some 272), none, .pick (.tmp 268) (.lit (.bool true)) (.tmp 271)⟩,
 ⟨(some 273), none, .mov (.tmp 272)⟩,
 ⟨(some 274), (some (273, false)), .mov (.tmp 37)⟩,
 ⟨(some 275), (some (273, false)), .bin .lss (.tmp 274) (.lit (.int .i64 0))⟩,
 ⟨(some 276), none, .pick (.tmp 273) (.lit (.bool true)) (.tmp 275)⟩,
 ⟨(some 277), none, .mov (.tmp 276)⟩,
 ⟨(some 278), (some (277, false)), .mov (.tmp 39)⟩,
 ⟨(some 279), (some (277, false)), .bin .lss (.tmp 278) (.lit (.int .i64 0))⟩,
 ⟨(some 280), none, .pick (.tmp 277) (.lit (.bool true)) (.tmp 279)⟩,
 ⟨(some 281), none, .mov (.tmp 280)⟩,
 ⟨(some 282), (some (281, false)), .mov (.tmp 41)⟩,
 ⟨(some 283), (some (281, false)), .mov (.tmp 37)⟩,
 ⟨(some 284), (some (281, false)), .call (.tmp 282) [(.tmp 283)]⟩,
 ⟨(some 285), (some (281, false)), .mov (.tmp 41)⟩,
 ⟨(some 286), (some (281, false)), .mov (.tmp 39)⟩,
 ⟨(some 287), (some (281, false)), .call (.tmp 285) [(.tmp 286)]⟩,
 ⟨(some 288), (some (281, false)), .bin .neq (.tmp 284) (.tmp 287)⟩,
 ⟨(some 289), none, .pick (.tmp 281) (.lit (.bool true)) (.tmp 288)⟩])
 (.cond (.tmp 289) (.seq (.reg [⟨(some 6), none, .mov (.lit (.bool false))⟩])
 (.ret))
 (.skip)))
 (.seq (.seq (.reg [⟨(some 290), none, .load true 5 (.tmp 3)⟩,
 ⟨(some 291), none, .call (.fn 35) [(.tmp 290)]⟩,
 ⟨(some 292), none, .mov (.lit (.int .i64 0))⟩])
 (.block 2 (.loop (.seq (.reg [⟨(some 293), none, .bin .lss (.tmp 292) (.tmp 291)⟩])
 (.seq (.cond (.tmp 293) (.skip)
 (.exit 2))
 (.seq (.block 3 (.seq (.reg [⟨(some 294), none, .mov (.tmp 292)⟩,
 ⟨(some 42), none, .mov (.tmp 294)⟩])
 (.seq (.draw (.step ⟨(some 295), none, .mov (.tmp 42)⟩ (
 .step ⟨(some 296), none, .faddr 0 (.tmp 3)⟩ (
 .step ⟨(some 297), none, .load false 1 (.tmp 296)⟩ (
 .step ⟨(some 298), none, .bin .quo (.tmp 295) (.tmp 297)⟩ (
 .step ⟨(some 299), none, .faddr 0 (.tmp 3)⟩ (
 .step ⟨(some 300), none, .load false 1 (.tmp 299)⟩ (
 .step ⟨(some 301), none, .bin .mul (.tmp 298) (.tmp 300)⟩ (
 .step ⟨(some 302), none, .faddr 0 (.tmp 3)⟩ (
 .step ⟨(some 303), none, .load false 1 (.tmp 302)⟩ (
 .step ⟨(some 304), none, .bin .add (.tmp 301) (.tmp 303)⟩ (
 .step ⟨(some 305), none, .bin .sub (.tmp 304) (.lit (.int .i64 1))⟩ (
 .step ⟨(some 306), none, .mov (.tmp 42)⟩ (
 .step ⟨(some 307), none, .faddr 0 (.tmp 3)⟩ (
 .step ⟨(some 308), none, .load false 1 (.tmp 307)⟩ (
 .step ⟨(some 309), none, .bin .rem (.tmp 306) (.tmp 308)⟩ (
 .step ⟨(some 310), none, .bin .sub (.tmp 305) (.tmp 309)⟩ (
 .step ⟨(some 43), none, .mov (.tmp 310)⟩ (
 .done)))))))))))))))))))
 (.seq (.draw (.step ⟨(some 311), none, .mov (.tmp 19)⟩ (
 .step ⟨(some 312), none, .mov (.tmp 42)⟩ (
 .step ⟨(some 313), none, .bin .shr (.tmp 311) (.tmp 312)⟩ (
 .step ⟨(some 314), none, .bin .and (.tmp 313) (.lit (.int .i64 1))⟩ (
 .step ⟨(some 315), none, .mov (.tmp 21)⟩ (
 .step ⟨(some 316), none, .mov (.tmp 43)⟩ (
 .step ⟨(some 317), none, .bin .shr (.tmp 315) (.tmp 316)⟩ (
 .step ⟨(some 318), none, .bin .and (.tmp 317) (.lit (.int .i64 1))⟩ (
 .step ⟨(some 319), none, .bin .neq (.tmp 314) (.tmp 318)⟩ (
 .done)))))))))))
 (.cond (.tmp 319) (.seq (.reg [⟨(some 6), none, .mov (.lit (.bool false))⟩])
 (.ret))
 (.skip))))))
 (.reg [⟨(some 320), none, .bin .add (.tmp 292) (.lit (.int .i64 1))⟩,
 ⟨(some 292), none, .mov (.tmp 320)⟩])))))))
 (.seq (.seq (.reg [⟨(some 321), none, .mov (.tmp 18)⟩,
 ⟨(some 322), none, .len (.tmp 321)⟩,
 ⟨(some 323), none, .mov (.lit (.int .i64 0))⟩])
 (.block 4 (.loop (.seq (.reg [⟨(some 324), none, .bin .lss (.tmp 323) (.tmp 322)⟩])
 (.seq (.cond (.tmp 324) (.skip)
 (.exit 4))
 (.seq (.block 5 (.seq (.reg [⟨(some 325), none, .mov (.tmp 323)⟩,
 ⟨(some 44), none, .mov (.tmp 325)⟩])
 (.seq (.draw (.step ⟨(some 326), none, .mov (.tmp 18)⟩ (
 .step ⟨(some 327), none, .mov (.tmp 44)⟩ (
 .step ⟨(some 328), none, .iaddr 5 (.tmp 326) (.tmp 327)⟩ (
 .step ⟨(some 329), none, .load true 5 (.tmp 328)⟩ (
 .step ⟨(some 330), none, .faddr 4 (.tmp 3)⟩ (
 .step ⟨(some 331), none, .load false 1 (.tmp 330)⟩ (
 .step ⟨(some 332), none, .mov (.tmp 7)⟩ (
 .step ⟨(some 333), none, .iaddr 1 (.tmp 331) (.tmp 332)⟩ (
 .step ⟨(some 334), none, .load false 1 (.tmp 333)⟩ (
 .step ⟨(some 335), none, .mov (.tmp 44)⟩ (
 .step ⟨(some 336), none, .iaddr 5 (.tmp 334) (.tmp 335)⟩ (
 .step ⟨(some 337), none, .load true 5 (.tmp 336)⟩ (
 .step ⟨(some 338), none, .eqs true [(some .i64), (some .i64), (some .i64), (some .i64), (some .i64)] (.tmp 329) (.tmp 337)⟩ (
 .done)))))))))))))))
 (.cond (.tmp 338) (.seq (.reg [⟨(some 6), none, .mov (.lit (.bool false))⟩])
 (.ret))
 (.skip)))))
 (.reg [⟨(some 339), none, .bin .add (.tmp 323) (.lit (.int .i64 1))⟩,
 ⟨(some 323), none, .mov (.tmp 339)⟩])))))))
 (.seq (.reg [⟨(some 340), none, .call (.fn 15) []⟩,
 ⟨(some 6), none, .mov (.tmp 340)⟩])
 (.ret)))))))))))))))))))))))))
theorem k13 : FnC Tryd.prog 13 341 [] [5, 15, 16] [.tmp 6] c13 3 := ⟨Tryd.f13, _, Tryd.func13, rfl, by decide, rfl, by decide, by kernel_rfl, by kernel_rfl⟩
end Go.Proofs.YtafcdpmcmmfbhaaDoor

/- BoatTurned. -/
namespace Go.Proofs.YtafcdpmcmmfbhaaDoor
open Go Go.Ab

theorem _root_.Go.Ab.Sub.gcE' {nb : Nat} {s s' : St} (kp lv : List Nat) (h : s.gc kp lv = s') (h1 : gcOK kp s.σ = true) (h2 : keepsBase nb kp = true) : Sub nb s s' := h ▸ Sub.gc kp lv h1 h2
abbrev boC (b : Bo) : AO := .cells ((bo5 b).map .t)
theorem turned_told {b : Bo} (hb : b.OK) {n : Nat} (hn : n < b.seen.length) : isT (mirB b n) 1 = isT b n ∧ isT (revB b n) 0 = isT b n ∧ isT (onlyB b n) 0 = isT b n := ⟨(mir_row hb hn 0).symm, (rev_row hb hn 0).symm, (only_canM hb hn (Nat.zero_le _)).2.symm⟩
theorem turned_can {b : Bo} (hb : b.OK) {n m : Nat} (hn : n < b.seen.length) (hm : m ≤ b.L) : ∃ C Cx : Nat, ∃ e : Int, C < B48 ∧ Cx < B48 ∧ (∀ p, C.testBit p = Cx.testBit (mirP b p)) ∧ specCan b n m = ((C : Int), e) ∧ specCan (mirB b n) (1 : Nat) m = ((Cx : Int), e) ∧ specCan (revB b n) (0 : Nat) (b.L - m : Nat) = ((C : Int), e) ∧ specCan (onlyB b n) (0 : Nat) m = ((C : Int), e) := by
  have hOm := mirB_OK hb hn
  have hOr := revB_OK hb hn
  have hOo := onlyB_OK hb hn
  obtain ⟨t1, t2, t3⟩ := turned_told hb hn
  refine ⟨canN b n m, canN (mirB b n) 1 m, if isT b n then 0 else 10, ?_, ?_, fun p => ?_, specCan_ok ((b.ok_iff).2 hb) hn hm hb, ?_, ?_, ?_⟩
  · unfold canN; split; exact canM_lt hb _ _; exact Nat.two_pow_pos 48
  · unfold canN; split; exact canM_lt hOm _ _; exact Nat.two_pow_pos 48
  · unfold canN; rw [t1]; split
    · exact mir_bit hb hn hm p
    · simp
  · rw [specCan_ok ((Bo.ok_iff _).2 hOm) (show 1 < 2 by decide) hm hOm, t1]
  · rw [specCan_ok ((Bo.ok_iff _).2 hOr) (show 0 < 1 by decide) (show b.L - m ≤ b.L by omega) hOr]
    unfold canN
    rw [t2, rev_canM hb hn hm]
  · rw [specCan_ok ((Bo.ok_iff _).2 hOo) (show 0 < 3 by decide) hm hOo]
    unfold canN
    rw [t3, (only_canM hb hn hm).1]
theorem turned_near {b : Bo} (hb : b.OK) {n : Nat} (hn : n < b.seen.length) : ∃ S1 S2 f : Int, specNearest b n = ((S1, S2), f) ∧ specNearest (mirB b n) (1 : Nat) = ((S1, S2), f) ∧ specNearest (revB b n) (0 : Nat) = ((S1, S2), f) := by
  obtain ⟨t1, t2, t3⟩ := turned_told hb hn
  rw [specNearest_ok hb hn, specNearest_ok (mirB_OK hb hn) (show 1 < 2 by decide), specNearest_ok (revB_OK hb hn) (show 0 < 1 by decide), t1, t2]
  cases h : isT b n
  · exact ⟨0, 0, 10, rfl, rfl, rfl⟩
  · rw [← mir_near hb hn h, ← rev_near hb hn h]
    exact ⟨_, _, 0, rfl, rfl, rfl⟩
theorem turned_speed {b : Bo} (hb : b.OK) {n : Nat} (hn : n < b.seen.length) : ∃ v1 v2 : Int, specSpeed b n = (v1, v2) ∧ specSpeed (revB b n) (0 : Nat) = (v1, v2) := by
  rw [specSpeed_ok hb hn, specSpeed_ok (revB_OK hb hn) (show 0 < 1 by decide), ← rev_speed hb hn]
  exact ⟨_, _, rfl, rfl⟩
theorem turned_wrong {b : Bo} (hb : b.OK) {n : Nat} (hn : n < b.seen.length) : ∃ W W' : Nat, ∃ h : Int, W < 32 ∧ W' < 32 ∧ size W = size W' ∧ specWrong b n = ((W : Int), h) ∧ specWrong (revB b n) (0 : Nat) = ((W' : Int), h) := by
  obtain ⟨h1, h2⟩ := rev_wrong hb hn
  have hO := revB_OK hb hn
  have h5 := hb.lens _ (seenOf_mem hn)
  have p1 := (wrong_spec hb hn).1
  have p2 := (wrong_spec hO (i := 0) (by show 0 < 1; decide)).1
  have hlen : (seenOf (revB b n) 0).length = (seenOf b n).length := by
    show ((seenOf b n).reverse.map (revS b)).length = _
    rw [List.length_map, List.length_reverse]
  rw [hlen] at p2
  have hp : 2 ^ (seenOf b n).length ≤ 32 := Nat.pow_le_pow_right (n := 2) (by decide) h5
  rw [specWrong_ok hb hn, specWrong_ok hO (show 0 < 1 by decide)]
  unfold wrongV
  by_cases c : wrongR b n = 0
  · rw [if_pos c, if_pos (h2.1 c)]
    exact ⟨0, 0, 4, by decide, by decide, rfl, rfl, rfl⟩
  · rw [if_neg c, if_neg (fun h => c (h2.2 h))]
    exact ⟨_, _, 0, by omega, by omega, h1, rfl, rfl⟩
def Tu1 (b : Bo) (n m : Nat) (st : St) : Prop := lk st.env 3 = .t (.ptr (.agg (bo5 b)) 0) ∧ lk st.env 7 = .t (vi n) ∧ lk st.env 8 = .t (vi m) ∧ lk st.env 9 = .ptr 0 0 ∧ lk st.env 10 = .ptr 1 0 ∧ lk st.env 11 = .ptr 2 0 ∧ lk st.env 12 = .t (.lit (.slice none 0 0)) ∧ lk st.env 13 = .t (.lit (.slice none 0 0)) ∧ lk st.env 14 = .t (vi (seenOf b n).length) ∧ st.σ = [boC b, boC b, boC b] ∧ st.df = [] ∧ st.k = 0
def Tu2 (b : Bo) (n m : Nat) (A B : List Si) (st : St) : Prop := lk st.env 3 = .t (.ptr (.agg (bo5 b)) 0) ∧ lk st.env 7 = .t (vi n) ∧ lk st.env 8 = .t (vi m) ∧ lk st.env 9 = .ptr 0 0 ∧ lk st.env 10 = .ptr 1 0 ∧ lk st.env 11 = .ptr 2 0 ∧ lk st.env 12 = .loc 3 A.length ∧ lk st.env 13 = .loc 4 B.length ∧ st.σ = [boC b, boC b, boC b, .row 5 ((A.map tSi).map .t), .row 5 ((B.map tSi).map .t)] ∧ st.df = [] ∧ st.k = 0
def Tu3 (b : Bo) (n m : Nat) (l : List Si) (r : Int × Int) (st : St) : Prop := lk st.env 3 = .t (.ptr (.agg (bo5 b)) 0) ∧ lk st.env 7 = .t (vi n) ∧ lk st.env 8 = .t (vi m) ∧ lk st.env 9 = .t (.ptr (.agg (bo5 (mirB b n))) 0) ∧ lk st.env 10 = .t (.ptr (.agg (bo5 (revB b n))) 0) ∧ lk st.env 11 = .t (.ptr (.agg (bo5 (onlyB b n))) 0) ∧ lk st.env 18 = .loc 0 l.length ∧ lk st.env 19 = .t (vi r.1) ∧ lk st.env 20 = .t (vi r.2) ∧ st.σ = [.row 5 ((l.map tSi).map .t)] ∧ st.df = [] ∧ st.k = 0
set_option maxRecDepth 8000 in
set_option maxHeartbeats 8000000 in
theorem BoatTurned_ok (b : Bo) (hL : Lens b) (p : Nat) (hp : p < 256) (w : Nat) (hw : w < 256) : ACall Tryd.prog 13 [.t (.agg (bo5 b)), .t (.lit (.int .u8 p)), .t (.lit (.int .u8 w))] [] (res (.ret (.t (vb true)))) := by
  refine ACall.walk k13 ?_
  have h32 := fine_ok b hL
  unfold c13
  refine awpL_chop 6 (c1 := ?a1) (c2 := ?a2) (fun st => b.OK ∧ ∃ n m, n < b.seen.length ∧ m ≤ b.L ∧ Tu1 b n m st) ?hc ?_ ?_
  case hc => simp only [chop]; rfl
  · unfold bo5 at h32 ⊢
    simp only [go_sem, Nat.reduceEqDiff, Nat.reduceAdd, Nat.reduceSub, Nat.reduceMul, Nat.reduceLT, Nat.reduceLeDiff, Nat.reduceMod, Nat.reduceDiv, Int.reduceToNat, Int.reduceLT, Int.reduceLE, Bool.not_true, Bool.not_false, reduceIte, Int.reduceEq, Int.reduceBEq, Int.reduceBNe, Int.reduceGT, Int.reduceGE, Int.reduceNeg, Int.reduceAdd, Int.reduceSub, Nat.reduceBEq, decide_true, decide_false, undef, beq_self_eq_true, bne_self_eq_false, Bool.and_true, Bool.true_and, Bool.and_false, Bool.false_and, Bool.or_true, Bool.true_or, Bool.or_false, Bool.false_or]
    refine ACallL.quiet1 h32 rfl rfl rfl ?_
    cases hF : fineB b
    · simp only [go_sem, Nat.reduceEqDiff, Nat.reduceAdd, Nat.reduceSub, Nat.reduceMul, Nat.reduceLT, Nat.reduceLeDiff, Nat.reduceMod, Nat.reduceDiv, Int.reduceToNat, Int.reduceLT, Int.reduceLE, Bool.not_true, Bool.not_false, reduceIte, Int.reduceEq, Int.reduceBEq, Int.reduceBNe, Int.reduceGT, Int.reduceGE, Int.reduceNeg, Int.reduceAdd, Int.reduceSub, Nat.reduceBEq, decide_true, decide_false, undef, beq_self_eq_true, bne_self_eq_false, Bool.and_true, Bool.true_and, Bool.and_false, Bool.false_and, Bool.or_true, Bool.true_or, Bool.or_false, Bool.false_or, undef]
      refine ACallL.quiet1 awake_ok rfl rfl rfl ?_
      simp only [go_sem, Nat.reduceEqDiff, Nat.reduceAdd, Nat.reduceSub, Nat.reduceMul, Nat.reduceLT, Nat.reduceLeDiff, Nat.reduceMod, Nat.reduceDiv, Int.reduceToNat, Int.reduceLT, Int.reduceLE, Bool.not_true, Bool.not_false, reduceIte, Int.reduceEq, Int.reduceBEq, Int.reduceBNe, Int.reduceGT, Int.reduceGE, Int.reduceNeg, Int.reduceAdd, Int.reduceSub, Nat.reduceBEq, decide_true, decide_false, undef, beq_self_eq_true, bne_self_eq_false, Bool.and_true, Bool.true_and, Bool.and_false, Bool.false_and, Bool.or_true, Bool.true_or, Bool.or_false, Bool.false_or, undef]
      exact finL_ret [] ⟨rfl, rfl, rfl, rfl, _, rfl, res_mk rfl⟩
    obtain ⟨hok, hb⟩ := fine_iff hF
    have hnh := hb.num
    simp only [go_sem, Nat.reduceEqDiff, Nat.reduceAdd, Nat.reduceSub, Nat.reduceMul, Nat.reduceLT, Nat.reduceLeDiff, Nat.reduceMod, Nat.reduceDiv, Int.reduceToNat, Int.reduceLT, Int.reduceLE, Bool.not_true, Bool.not_false, reduceIte, Int.reduceEq, Int.reduceBEq, Int.reduceBNe, Int.reduceGT, Int.reduceGE, Int.reduceNeg, Int.reduceAdd, Int.reduceSub, Nat.reduceBEq, decide_true, decide_false, undef, beq_self_eq_true, bne_self_eq_false, Bool.and_true, Bool.true_and, Bool.and_false, Bool.false_and, Bool.or_true, Bool.true_or, Bool.or_false, Bool.false_or, undef, List.length_map]
    cases h0 : ((b.seen.length : Int) == 0)
    rotate_left
    · simp only [go_sem, Nat.reduceEqDiff, Nat.reduceAdd, Nat.reduceSub, Nat.reduceMul, Nat.reduceLT, Nat.reduceLeDiff, Nat.reduceMod, Nat.reduceDiv, Int.reduceToNat, Int.reduceLT, Int.reduceLE, Bool.not_true, Bool.not_false, reduceIte, Int.reduceEq, Int.reduceBEq, Int.reduceBNe, Int.reduceGT, Int.reduceGE, Int.reduceNeg, Int.reduceAdd, Int.reduceSub, Nat.reduceBEq, decide_true, decide_false, undef, beq_self_eq_true, bne_self_eq_false, Bool.and_true, Bool.true_and, Bool.and_false, Bool.false_and, Bool.or_true, Bool.true_or, Bool.or_false, Bool.false_or, undef, h0]
      refine ACallL.quiet1 awake_ok rfl rfl rfl ?_
      simp only [go_sem, Nat.reduceEqDiff, Nat.reduceAdd, Nat.reduceSub, Nat.reduceMul, Nat.reduceLT, Nat.reduceLeDiff, Nat.reduceMod, Nat.reduceDiv, Int.reduceToNat, Int.reduceLT, Int.reduceLE, Bool.not_true, Bool.not_false, reduceIte, Int.reduceEq, Int.reduceBEq, Int.reduceBNe, Int.reduceGT, Int.reduceGE, Int.reduceNeg, Int.reduceAdd, Int.reduceSub, Nat.reduceBEq, decide_true, decide_false, undef, beq_self_eq_true, bne_self_eq_false, Bool.and_true, Bool.true_and, Bool.and_false, Bool.false_and, Bool.or_true, Bool.true_or, Bool.or_false, Bool.false_or, undef]
      exact finL_ret [] ⟨rfl, rfl, rfl, rfl, _, rfl, res_mk rfl⟩
    have n0 : ¬ ((b.seen.length : Int) = 0) := by simpa using h0
    have ha : p % b.seen.length < b.seen.length := Nat.mod_lt _ (by omega)
    have hLb := hb.L
    have hm : w % (b.L + 1) ≤ b.L := by have := Nat.mod_lt w (show 0 < b.L + 1 by omega); omega
    have t1 := mod_nat p b.seen.length
    have t2 := mod_nat w (b.L + 1)
    have w0 : IntKind.i64.wrap (p : Int) = p := wrap_id (by omega) (by omega)
    have w1 : IntKind.i64.wrap (w : Int) = w := wrap_id (by omega) (by omega)
    have w2 : IntKind.i64.wrap (b.last + 1) = ((b.L + 1 : Nat) : Int) := by rw [wrap_id (by omega) (by omega)]; omega
    have n1 : ¬ (((b.L + 1 : Nat) : Int) = 0) := by omega
    generalize p % b.seen.length = n at *
    generalize w % (b.L + 1) = m at *
    have hs := seenOf_at ha
    have hil : (n : Int) < b.seen.length := by omega
    simp only [go_sem, Nat.reduceEqDiff, Nat.reduceAdd, Nat.reduceSub, Nat.reduceMul, Nat.reduceLT, Nat.reduceLeDiff, Nat.reduceMod, Nat.reduceDiv, Int.reduceToNat, Int.reduceLT, Int.reduceLE, Bool.not_true, Bool.not_false, reduceIte, Int.reduceEq, Int.reduceBEq, Int.reduceBNe, Int.reduceGT, Int.reduceGE, Int.reduceNeg, Int.reduceAdd, Int.reduceSub, Nat.reduceBEq, decide_true, decide_false, undef, beq_self_eq_true, bne_self_eq_false, Bool.and_true, Bool.true_and, Bool.and_false, Bool.false_and, Bool.or_true, Bool.true_or, Bool.or_false, Bool.false_or, undef, List.length_map, h0, n0, w0, w1, w2, n1, t1, t2]
    repeat' (first | refine AndL.mk ?_ ?_ | simp only [go_sem, Nat.reduceEqDiff, Nat.reduceAdd, Nat.reduceSub, Nat.reduceMul, Nat.reduceLT, Nat.reduceLeDiff, Nat.reduceMod, Nat.reduceDiv, Int.reduceToNat, Int.reduceLT, Int.reduceLE, Bool.not_true, Bool.not_false, reduceIte, Int.reduceEq, Int.reduceBEq, Int.reduceBNe, Int.reduceGT, Int.reduceGE, Int.reduceNeg, Int.reduceAdd, Int.reduceSub, Nat.reduceBEq, decide_true, decide_false, undef, beq_self_eq_true, bne_self_eq_false, Bool.and_true, Bool.true_and, Bool.and_false, Bool.false_and, Bool.or_true, Bool.true_or, Bool.or_false, Bool.false_or, undef, List.length_map, h0, n0, w0, w1, w2, n1, t1, t2])
    all_goals (first
      | refine awpL_gcpE [1, 2, 3] [3, 7, 8, 9, 10, 11] { env := [(3, .t (.ptr (.agg (bo5 b)) 0)), (7, .t (vi n)), (8, .t (vi m)), (9, .ptr 0 0), (10, .ptr 1 0), (11, .ptr 2 0)], σ := [boC b, boC b, boC b], df := [], k := 0 } (St.gc_mk rfl rfl rfl rfl) rfl rfl ?_
      | refine awpL_gcpE [1, 3, 2] [3, 7, 8, 9, 10, 11] { env := [(3, .t (.ptr (.agg (bo5 b)) 0)), (7, .t (vi n)), (8, .t (vi m)), (9, .ptr 0 0), (10, .ptr 1 0), (11, .ptr 2 0)], σ := [boC b, boC b, boC b], df := [], k := 0 } (St.gc_mk rfl rfl rfl rfl) rfl rfl ?_
      | refine awpL_gcpE [2, 1, 3] [3, 7, 8, 9, 10, 11] { env := [(3, .t (.ptr (.agg (bo5 b)) 0)), (7, .t (vi n)), (8, .t (vi m)), (9, .ptr 0 0), (10, .ptr 1 0), (11, .ptr 2 0)], σ := [boC b, boC b, boC b], df := [], k := 0 } (St.gc_mk rfl rfl rfl rfl) rfl rfl ?_
      | refine awpL_gcpE [2, 3, 1] [3, 7, 8, 9, 10, 11] { env := [(3, .t (.ptr (.agg (bo5 b)) 0)), (7, .t (vi n)), (8, .t (vi m)), (9, .ptr 0 0), (10, .ptr 1 0), (11, .ptr 2 0)], σ := [boC b, boC b, boC b], df := [], k := 0 } (St.gc_mk rfl rfl rfl rfl) rfl rfl ?_
      | refine awpL_gcpE [3, 1, 2] [3, 7, 8, 9, 10, 11] { env := [(3, .t (.ptr (.agg (bo5 b)) 0)), (7, .t (vi n)), (8, .t (vi m)), (9, .ptr 0 0), (10, .ptr 1 0), (11, .ptr 2 0)], σ := [boC b, boC b, boC b], df := [], k := 0 } (St.gc_mk rfl rfl rfl rfl) rfl rfl ?_
      | refine awpL_gcpE [3, 2, 1] [3, 7, 8, 9, 10, 11] { env := [(3, .t (.ptr (.agg (bo5 b)) 0)), (7, .t (vi n)), (8, .t (vi m)), (9, .ptr 0 0), (10, .ptr 1 0), (11, .ptr 2 0)], σ := [boC b, boC b, boC b], df := [], k := 0 } (St.gc_mk rfl rfl rfl rfl) rfl rfl ?_)
    all_goals
      simp only [bo5, tSis, go_sem, Nat.reduceEqDiff, Nat.reduceAdd, Nat.reduceSub, Nat.reduceMul, Nat.reduceLT, Nat.reduceLeDiff, Nat.reduceMod, Nat.reduceDiv, Int.reduceToNat, Int.reduceLT, Int.reduceLE, Bool.not_true, Bool.not_false, reduceIte, Int.reduceEq, Int.reduceBEq, Int.reduceBNe, Int.reduceGT, Int.reduceGE, Int.reduceNeg, Int.reduceAdd, Int.reduceSub, Nat.reduceBEq, decide_true, decide_false, undef, beq_self_eq_true, bne_self_eq_false, Bool.and_true, Bool.true_and, Bool.and_false, Bool.false_and, Bool.or_true, Bool.true_or, Bool.or_false, Bool.false_or, undef, List.length_map, List.getElem?_map, hs, Option.map_some, hil]
      exact ⟨hb, n, m, ha, hm, rfl, rfl, rfl, rfl, rfl, rfl, rfl, rfl, rfl, rfl, rfl, rfl⟩
  clear h32
  rintro ⟨env, σ, df, k⟩ ⟨hb, n, m, hn, hm, q3, q7, q8, q9, q10, q11, q12, q13, q14, hσ, hdf, hk⟩
  simp only at q3 q7 q8 q9 q10 q11 q12 q13 q14 hσ hdf hk
  subst hσ hdf hk
  have hLb := hb.L
  have h5 := hb.lens _ (seenOf_mem hn)
  have hs := seenOf_at hn
  have hnl : (n : Int) < b.seen.length := by omega
  have hsi := fun s hs => hb.si (seenOf_mem hn) (s := s) hs
  have hW := hb.wide
  refine awpL_chop 1 (c1 := ?d1) (c2 := ?d2) (Tu2 b n m ((seenOf b n).map (mirS b)) ((seenOf b n).reverse.map (revS b))) ?hc2 ?_ ?_
  case hc2 => simp only [chop]; rfl
  · generalize hl : seenOf b n = l at *
    have hA : (l.map (mirS b)).length = l.length := List.length_map ..
    have hB : (l.reverse.map (revS b)).length = l.length := by rw [List.length_map, List.length_reverse]
    simp only [bo5, tSis, go_sem, Nat.reduceEqDiff, Nat.reduceAdd, Nat.reduceSub, Nat.reduceMul, Nat.reduceLT, Nat.reduceLeDiff, Nat.reduceMod, Nat.reduceDiv, Int.reduceToNat, Int.reduceLT, Int.reduceLE, Bool.not_true, Bool.not_false, reduceIte, Int.reduceEq, Int.reduceBEq, Int.reduceBNe, Int.reduceGT, Int.reduceGE, Int.reduceNeg, Int.reduceAdd, Int.reduceSub, Nat.reduceBEq, decide_true, decide_false, undef, beq_self_eq_true, bne_self_eq_false, Bool.and_true, Bool.true_and, Bool.and_false, Bool.false_and, Bool.or_true, Bool.true_or, Bool.or_false, Bool.false_or, undef, q3, q7, q8, q9, q10, q11, q12, q13, q14, List.length_map, List.getElem?_map, hs, Option.map_some, hnl]
    refine awpL_for (i := 82) (L := 81) l.length (fun j st => st = { env := [(82, .t (vi j)), (81, .t (vi l.length)), (80, .t (.slice 5 (l.map tSi))), (14, .t (vi l.length)), (3, .t (.ptr (.agg (bo5 b)) 0)), (7, .t (vi n)), (8, .t (vi m)), (9, .ptr 0 0), (10, .ptr 1 0), (11, .ptr 2 0), (12, .loc 3 ((l.map (mirS b)).take j).length), (13, .loc 4 ((l.reverse.map (revS b)).take j).length)], σ := [boC b, boC b, boC b, .row 5 ((((l.map (mirS b)).take j).map tSi).map .t), .row 5 ((((l.reverse.map (revS b)).take j).map tSi).map .t)] }) ?_ ⟨_, Sub.trans (Sub.ghost 12 5 (by decide) (by simp only [lk, Nat.reduceEqDiff, reduceIte, q12])) (Sub.trans (Sub.ghost 13 5 (by decide) (by simp only [lk, Nat.reduceEqDiff, reduceIte, q13])) (Sub.gc [0, 1, 2, 3, 4] [82, 81, 80, 14, 3, 7, 8, 9, 10, 11, 12, 13] rfl rfl)), ?_⟩ ?_ ?_
    · rintro k st rfl; exact ⟨rfl, rfl⟩
    · exact St.gc_mk (by simp only [List.map_cons, List.map_nil, lk, Nat.reduceEqDiff, reduceIte, q3, q7, q8, q9, q10, q11, q12, q13, q14]; rfl) rfl rfl rfl
    · rintro j st hj rfl
      have e1 := List.getElem?_eq_getElem hj
      have hj2 : l.length - 1 - j < l.length := by omega
      have e2 := List.getElem?_eq_getElem hj2
      have k1 : (l.map (mirS b)).take (j + 1) = (l.map (mirS b)).take j ++ [mirS b l[j]] := by rw [List.take_add_one, List.getElem?_map, e1]; rfl
      have k2 : (l.reverse.map (revS b)).take (j + 1) = (l.reverse.map (revS b)).take j ++ [revS b l[l.length - 1 - j]] := by rw [List.take_add_one, rev_at b l hj, e2]; rfl
      have o1 := hsi _ (List.getElem_mem hj)
      have o2 := hsi _ (List.getElem_mem hj2)
      have hwj : IntKind.i64.wrap ((j : Int) + 1) = ((j + 1 : Nat) : Int) := by rw [wrap_id (by omega) (by omega)]; omega
      have l1 : ((l.map (mirS b)).take j).length ≤ 5 := by rw [List.length_take]; omega
      have l2 : ((l.reverse.map (revS b)).take j).length ≤ 5 := by rw [List.length_take]; omega
      generalize (l.map (mirS b)).take (j + 1) = A1 at *
      generalize (l.reverse.map (revS b)).take (j + 1) = B1 at *
      generalize (l.map (mirS b)).take j = A at *
      generalize (l.reverse.map (revS b)).take j = B at *
      generalize l[j] = x at *
      generalize l[l.length - 1 - j] = y at *
      subst k1 k2
      obtain ⟨x1, x2, x3, x4, x5⟩ := x
      obtain ⟨y1, y2, y3, y4, y5⟩ := y
      have oc := o1.col
      have om := o2.min
      have hla := hb.last
      simp only at oc om
      have w1 : IntKind.i64.wrap ((l.length : Int) - 1) = (l.length : Int) - 1 := wrap_id (by omega) (by omega)
      have w2 : IntKind.i64.wrap ((l.length : Int) - 1 - (j : Int)) = ((l.length - 1 - j : Nat) : Int) := by rw [wrap_id (by omega) (by omega)]; omega
      have w3 : IntKind.i64.wrap (b.last - y1) = b.last - y1 := wrap_id (by omega) (by omega)
      have w4 : IntKind.i64.wrap (b.wide - 1) = b.wide - 1 := wrap_id (by omega) (by omega)
      have w5 : IntKind.i64.wrap (b.wide - 1 - x3) = b.wide - 1 - x3 := wrap_id (by omega) (by omega)
      have w6 : IntKind.i64.wrap (b.wide - 1 - x2) = b.wide - 1 - x2 := wrap_id (by omega) (by omega)
      have hjl2 : ((l.length - 1 - j : Nat) : Int) < l.length := by omega
      have c1 := span2_ok (b.wide - 1 - x3) (b.wide - 1 - x2)
      simp only [boC, bo5, tSis, tSi, go_sem, Nat.reduceEqDiff, Nat.reduceAdd, Nat.reduceSub, Nat.reduceMul, Nat.reduceLT, Nat.reduceLeDiff, Nat.reduceMod, Nat.reduceDiv, Int.reduceToNat, Int.reduceLT, Int.reduceLE, Bool.not_true, Bool.not_false, reduceIte, Int.reduceEq, Int.reduceBEq, Int.reduceBNe, Int.reduceGT, Int.reduceGE, Int.reduceNeg, Int.reduceAdd, Int.reduceSub, Nat.reduceBEq, decide_true, decide_false, undef, beq_self_eq_true, bne_self_eq_false, Bool.and_true, Bool.true_and, Bool.and_false, Bool.false_and, Bool.or_true, Bool.true_or, Bool.or_false, Bool.false_or, undef, List.length_map, List.getElem?_map, hs, Option.map_some, hnl, w1, w2, w3, w4, w5, w6, hjl2, hwj, e1, e2]
      have eA : (A.map tSi).map E.t ++ [E.t (.agg [vi x1, vi (b.wide - 1 - x3), vi (b.wide - 1 - x2), vi x4, vi x5])] = ((A ++ [mirS b ⟨x1, x2, x3, x4, x5⟩]).map tSi).map E.t := by simp [tSi, mirS]
      have eB : (B.map tSi).map E.t ++ [E.t (.agg [vi (b.last - y1), vi y2, vi y3, vi y4, vi y5])] = ((B ++ [revS b ⟨y1, y2, y3, y4, y5⟩]).map tSi).map E.t := by simp [tSi, revS]
      have eA' : (A ++ [mirS b ⟨x1, x2, x3, x4, x5⟩]).length = A.length + 1 := by simp
      have eB' : (B ++ [revS b ⟨y1, y2, y3, y4, y5⟩]).length = B.length + 1 := by simp
      refine ACallL.quiet1 c1 rfl rfl rfl ?_
      repeat' (first | refine AndL.mk ?_ ?_ | simp only [boC, bo5, tSis, tSi, go_sem, Nat.reduceEqDiff, Nat.reduceAdd, Nat.reduceSub, Nat.reduceMul, Nat.reduceLT, Nat.reduceLeDiff, Nat.reduceMod, Nat.reduceDiv, Int.reduceToNat, Int.reduceLT, Int.reduceLE, Bool.not_true, Bool.not_false, reduceIte, Int.reduceEq, Int.reduceBEq, Int.reduceBNe, Int.reduceGT, Int.reduceGE, Int.reduceNeg, Int.reduceAdd, Int.reduceSub, Nat.reduceBEq, decide_true, decide_false, undef, beq_self_eq_true, bne_self_eq_false, Bool.and_true, Bool.true_and, Bool.and_false, Bool.false_and, Bool.or_true, Bool.true_or, Bool.or_false, Bool.false_or, undef, List.length_map, List.getElem?_map, hs, Option.map_some, hnl, w1, w2, w3, w4, w5, w6, hjl2, hwj, e1, e2])
      all_goals
        refine ⟨⟨Nat.le_trans (show _ ≤ 6 by omega) (by decide), by omega⟩, ⟨Nat.le_trans (show _ ≤ 6 by omega) (by decide), by omega⟩, _, Sub.gc [0, 1, 2, 3, 4] [82, 81, 80, 14, 3, 7, 8, 9, 10, 11, 12, 13] rfl rfl, ?_⟩
        rw [eA, eB, eA', eB']
        refine St.gc_mk rfl ?_ rfl rfl
        simp only [σgc, List.map_cons, List.map_nil, List.getD_cons_zero, List.getD_cons_succ, AO.gc, gc_row]
        rfl
    · rintro st rfl
      rw [List.take_of_length_le (by omega), List.take_of_length_le (by omega)]
      simp only [go_sem, Nat.reduceEqDiff, Nat.reduceAdd, Nat.reduceSub, Nat.reduceMul, Nat.reduceLT, Nat.reduceLeDiff, Nat.reduceMod, Nat.reduceDiv, Int.reduceToNat, Int.reduceLT, Int.reduceLE, Bool.not_true, Bool.not_false, reduceIte, Int.reduceEq, Int.reduceBEq, Int.reduceBNe, Int.reduceGT, Int.reduceGE, Int.reduceNeg, Int.reduceAdd, Int.reduceSub, Nat.reduceBEq, decide_true, decide_false, undef, beq_self_eq_true, bne_self_eq_false, Bool.and_true, Bool.true_and, Bool.and_false, Bool.false_and, Bool.or_true, Bool.true_or, Bool.or_false, Bool.false_or, undef]
      exact ⟨rfl, rfl, rfl, rfl, rfl, rfl, rfl, rfl, rfl, rfl, rfl⟩
  clear q3 q7 q8 q9 q10 q11 q12 q13 q14
  rintro ⟨env, σ, df, k⟩ ⟨q3, q7, q8, q9, q10, q11, q12, q13, hσ, hdf, hk⟩
  simp only at q3 q7 q8 q9 q10 q11 q12 q13 hσ hdf hk
  subst hσ hdf hk
  have hOm := mirB_OK hb hn
  have hOr := revB_OK hb hn
  have hOo := onlyB_OK hb hn
  have hcan := turned_can hb hn hm
  have hnear := turned_near hb hn
  have hspeed := turned_speed hb hn
  have hwrong := turned_wrong hb hn
  refine awpL_chop 3 (c1 := ?e1) (c2 := ?e2) (Tu3 b n m (seenOf b n) (specCan b n m)) ?hc3 ?_ ?_
  case hc3 => simp only [chop]; rfl
  · have h16 := Can_ok b hL n m
    generalize specCan b n m = r at *
    obtain ⟨ra, rb⟩ := r
    simp only [oneE, bo5] at h16
    generalize hl : seenOf b n = l at *
    have hA : (l.map (mirS b)).length = l.length := List.length_map ..
    have hB : (l.reverse.map (revS b)).length = l.length := by rw [List.length_map, List.length_reverse]
    simp only [bo5, tSis, go_sem, Nat.reduceEqDiff, Nat.reduceAdd, Nat.reduceSub, Nat.reduceMul, Nat.reduceLT, Nat.reduceLeDiff, Nat.reduceMod, Nat.reduceDiv, Int.reduceToNat, Int.reduceLT, Int.reduceLE, Bool.not_true, Bool.not_false, reduceIte, Int.reduceEq, Int.reduceBEq, Int.reduceBNe, Int.reduceGT, Int.reduceGE, Int.reduceNeg, Int.reduceAdd, Int.reduceSub, Nat.reduceBEq, decide_true, decide_false, undef, beq_self_eq_true, bne_self_eq_false, Bool.and_true, Bool.true_and, Bool.and_false, Bool.false_and, Bool.or_true, Bool.true_or, Bool.or_false, Bool.false_or, undef, q3, q7, q8, q9, q10, q11, q12, q13, List.length_map, List.getElem?_map, hs, Option.map_some, hnl]
    refine awpL_gcpE [0, 1, 2] [3, 7, 8, 9, 10, 11, 12, 13] { env := [(3, .t (.ptr (.agg (bo5 b)) 0)), (7, .t (vi n)), (8, .t (vi m)), (9, .ptr 0 0), (10, .ptr 1 0), (11, .ptr 2 0), (12, .t (.slice 5 ((l.map (mirS b)).map tSi))), (13, .t (.slice 5 ((l.reverse.map (revS b)).map tSi)))], σ := [boC b, boC b, boC b], df := [], k := 0 } (St.gc_mk (by
        simp only [List.map_cons, List.map_nil, lk, Nat.reduceEqDiff, reduceIte, q3, q7, q8, q9, q10, q11, q12, q13]
        rw [gc_loc (n := 10) (es := 5) (xs := (l.map (mirS b)).map tSi) rfl rfl (by simp), gc_loc (n := 10) (es := 5) (xs := (l.reverse.map (revS b)).map tSi) rfl rfl (by simp)]
        rfl) rfl rfl rfl) rfl rfl ?_
    generalize hA' : l.map (mirS b) = A at *
    generalize hB' : l.reverse.map (revS b) = B at *
    simp only [boC, bo5, tSis, go_sem, Nat.reduceEqDiff, Nat.reduceAdd, Nat.reduceSub, Nat.reduceMul, Nat.reduceLT, Nat.reduceLeDiff, Nat.reduceMod, Nat.reduceDiv, Int.reduceToNat, Int.reduceLT, Int.reduceLE, Bool.not_true, Bool.not_false, reduceIte, Int.reduceEq, Int.reduceBEq, Int.reduceBNe, Int.reduceGT, Int.reduceGE, Int.reduceNeg, Int.reduceAdd, Int.reduceSub, Nat.reduceBEq, decide_true, decide_false, undef, beq_self_eq_true, bne_self_eq_false, Bool.and_true, Bool.true_and, Bool.and_false, Bool.false_and, Bool.or_true, Bool.true_or, Bool.or_false, Bool.false_or, undef, List.length_map, List.getElem?_map, hs, Option.map_some, hnl]
    repeat' (first | refine AndL.mk ?_ ?_ | simp only [boC, bo5, tSis, go_sem, Nat.reduceEqDiff, Nat.reduceAdd, Nat.reduceSub, Nat.reduceMul, Nat.reduceLT, Nat.reduceLeDiff, Nat.reduceMod, Nat.reduceDiv, Int.reduceToNat, Int.reduceLT, Int.reduceLE, Bool.not_true, Bool.not_false, reduceIte, Int.reduceEq, Int.reduceBEq, Int.reduceBNe, Int.reduceGT, Int.reduceGE, Int.reduceNeg, Int.reduceAdd, Int.reduceSub, Nat.reduceBEq, decide_true, decide_false, undef, beq_self_eq_true, bne_self_eq_false, Bool.and_true, Bool.true_and, Bool.and_false, Bool.false_and, Bool.or_true, Bool.true_or, Bool.or_false, Bool.false_or, undef, List.length_map, List.getElem?_map, hs, Option.map_some, hnl])
    all_goals (first
      | refine awpL_gcpS (s' := { env := [(3, .t (.ptr (.agg (bo5 b)) 0)), (7, .t (vi n)), (8, .t (vi m)), (9, .t (.ptr (.agg [vi b.wide, vi b.deep, vi b.speed, vi b.last, .slice 1 [.slice 5 [], .slice 5 (A.map tSi)]]) 0)), (10, .t (.ptr (.agg [vi b.wide, vi b.deep, vi b.speed, vi b.last, .slice 1 [.slice 5 (B.map tSi)]]) 0)), (11, .t (.ptr (.agg [vi b.wide, vi b.deep, vi b.speed, vi b.last, .slice 1 [.slice 5 (l.map tSi), .slice 5 [], .slice 5 []]]) 0))], σ := [], df := [], k := 0 }) (Sub.trans (Sub.ghostR 3 0 5 1 (by decide) (by decide) rfl rfl) (Sub.trans (Sub.ghostR 4 1 5 1 (by decide) (by decide) rfl rfl) (Sub.trans (Sub.ghostR 4 2 5 1 (by decide) (by decide) rfl rfl) (Sub.gcE' [] [3, 7, 8, 9, 10, 11] (St.gc_mk rfl rfl rfl rfl) rfl rfl)))) ?_
      | refine awpL_gcpS (s' := { env := [(3, .t (.ptr (.agg (bo5 b)) 0)), (7, .t (vi n)), (8, .t (vi m)), (9, .t (.ptr (.agg [vi b.wide, vi b.deep, vi b.speed, vi b.last, .slice 1 [.slice 5 [], .slice 5 (A.map tSi)]]) 0)), (10, .t (.ptr (.agg [vi b.wide, vi b.deep, vi b.speed, vi b.last, .slice 1 [.slice 5 (B.map tSi)]]) 0)), (11, .t (.ptr (.agg [vi b.wide, vi b.deep, vi b.speed, vi b.last, .slice 1 [.slice 5 (l.map tSi), .slice 5 [], .slice 5 []]]) 0))], σ := [], df := [], k := 0 }) (Sub.trans (Sub.ghostR 3 0 5 1 (by decide) (by decide) rfl rfl) (Sub.trans (Sub.ghostR 5 1 5 1 (by decide) (by decide) rfl rfl) (Sub.trans (Sub.ghostR 5 2 5 1 (by decide) (by decide) rfl rfl) (Sub.gcE' [] [3, 7, 8, 9, 10, 11] (St.gc_mk rfl rfl rfl rfl) rfl rfl)))) ?_
      | refine awpL_gcpS (s' := { env := [(3, .t (.ptr (.agg (bo5 b)) 0)), (7, .t (vi n)), (8, .t (vi m)), (9, .t (.ptr (.agg [vi b.wide, vi b.deep, vi b.speed, vi b.last, .slice 1 [.slice 5 [], .slice 5 (A.map tSi)]]) 0)), (10, .t (.ptr (.agg [vi b.wide, vi b.deep, vi b.speed, vi b.last, .slice 1 [.slice 5 (B.map tSi)]]) 0)), (11, .t (.ptr (.agg [vi b.wide, vi b.deep, vi b.speed, vi b.last, .slice 1 [.slice 5 (l.map tSi), .slice 5 [], .slice 5 []]]) 0))], σ := [], df := [], k := 0 }) (Sub.trans (Sub.ghostR 4 0 5 1 (by decide) (by decide) rfl rfl) (Sub.trans (Sub.ghostR 3 1 5 1 (by decide) (by decide) rfl rfl) (Sub.trans (Sub.ghostR 3 2 5 1 (by decide) (by decide) rfl rfl) (Sub.gcE' [] [3, 7, 8, 9, 10, 11] (St.gc_mk rfl rfl rfl rfl) rfl rfl)))) ?_
      | refine awpL_gcpS (s' := { env := [(3, .t (.ptr (.agg (bo5 b)) 0)), (7, .t (vi n)), (8, .t (vi m)), (9, .t (.ptr (.agg [vi b.wide, vi b.deep, vi b.speed, vi b.last, .slice 1 [.slice 5 [], .slice 5 (A.map tSi)]]) 0)), (10, .t (.ptr (.agg [vi b.wide, vi b.deep, vi b.speed, vi b.last, .slice 1 [.slice 5 (B.map tSi)]]) 0)), (11, .t (.ptr (.agg [vi b.wide, vi b.deep, vi b.speed, vi b.last, .slice 1 [.slice 5 (l.map tSi), .slice 5 [], .slice 5 []]]) 0))], σ := [], df := [], k := 0 }) (Sub.trans (Sub.ghostR 4 0 5 1 (by decide) (by decide) rfl rfl) (Sub.trans (Sub.ghostR 5 1 5 1 (by decide) (by decide) rfl rfl) (Sub.trans (Sub.ghostR 5 2 5 1 (by decide) (by decide) rfl rfl) (Sub.gcE' [] [3, 7, 8, 9, 10, 11] (St.gc_mk rfl rfl rfl rfl) rfl rfl)))) ?_
      | refine awpL_gcpS (s' := { env := [(3, .t (.ptr (.agg (bo5 b)) 0)), (7, .t (vi n)), (8, .t (vi m)), (9, .t (.ptr (.agg [vi b.wide, vi b.deep, vi b.speed, vi b.last, .slice 1 [.slice 5 [], .slice 5 (A.map tSi)]]) 0)), (10, .t (.ptr (.agg [vi b.wide, vi b.deep, vi b.speed, vi b.last, .slice 1 [.slice 5 (B.map tSi)]]) 0)), (11, .t (.ptr (.agg [vi b.wide, vi b.deep, vi b.speed, vi b.last, .slice 1 [.slice 5 (l.map tSi), .slice 5 [], .slice 5 []]]) 0))], σ := [], df := [], k := 0 }) (Sub.trans (Sub.ghostR 5 0 5 1 (by decide) (by decide) rfl rfl) (Sub.trans (Sub.ghostR 3 1 5 1 (by decide) (by decide) rfl rfl) (Sub.trans (Sub.ghostR 3 2 5 1 (by decide) (by decide) rfl rfl) (Sub.gcE' [] [3, 7, 8, 9, 10, 11] (St.gc_mk rfl rfl rfl rfl) rfl rfl)))) ?_
      | refine awpL_gcpS (s' := { env := [(3, .t (.ptr (.agg (bo5 b)) 0)), (7, .t (vi n)), (8, .t (vi m)), (9, .t (.ptr (.agg [vi b.wide, vi b.deep, vi b.speed, vi b.last, .slice 1 [.slice 5 [], .slice 5 (A.map tSi)]]) 0)), (10, .t (.ptr (.agg [vi b.wide, vi b.deep, vi b.speed, vi b.last, .slice 1 [.slice 5 (B.map tSi)]]) 0)), (11, .t (.ptr (.agg [vi b.wide, vi b.deep, vi b.speed, vi b.last, .slice 1 [.slice 5 (l.map tSi), .slice 5 [], .slice 5 []]]) 0))], σ := [], df := [], k := 0 }) (Sub.trans (Sub.ghostR 5 0 5 1 (by decide) (by decide) rfl rfl) (Sub.trans (Sub.ghostR 4 1 5 1 (by decide) (by decide) rfl rfl) (Sub.trans (Sub.ghostR 4 2 5 1 (by decide) (by decide) rfl rfl) (Sub.gcE' [] [3, 7, 8, 9, 10, 11] (St.gc_mk rfl rfl rfl rfl) rfl rfl)))) ?_)
    all_goals
      simp only [bo5, tSis, go_sem, Nat.reduceEqDiff, Nat.reduceAdd, Nat.reduceSub, Nat.reduceMul, Nat.reduceLT, Nat.reduceLeDiff, Nat.reduceMod, Nat.reduceDiv, Int.reduceToNat, Int.reduceLT, Int.reduceLE, Bool.not_true, Bool.not_false, reduceIte, Int.reduceEq, Int.reduceBEq, Int.reduceBNe, Int.reduceGT, Int.reduceGE, Int.reduceNeg, Int.reduceAdd, Int.reduceSub, Nat.reduceBEq, decide_true, decide_false, undef, beq_self_eq_true, bne_self_eq_false, Bool.and_true, Bool.true_and, Bool.and_false, Bool.false_and, Bool.or_true, Bool.true_or, Bool.or_false, Bool.false_or, undef, List.length_map, List.getElem?_map, hs, Option.map_some, hnl, List.nil_append]
      refine ⟨⟨Nat.le_trans (show _ ≤ 5 by omega) (by decide), by omega⟩, ?_⟩
      refine ACallL.quiet1 h16 rfl rfl rfl ?_
      simp only [go_sem, Nat.reduceEqDiff, Nat.reduceAdd, Nat.reduceSub, Nat.reduceMul, Nat.reduceLT, Nat.reduceLeDiff, Nat.reduceMod, Nat.reduceDiv, Int.reduceToNat, Int.reduceLT, Int.reduceLE, Bool.not_true, Bool.not_false, reduceIte, Int.reduceEq, Int.reduceBEq, Int.reduceBNe, Int.reduceGT, Int.reduceGE, Int.reduceNeg, Int.reduceAdd, Int.reduceSub, Nat.reduceBEq, decide_true, decide_false, undef, beq_self_eq_true, bne_self_eq_false, Bool.and_true, Bool.true_and, Bool.and_false, Bool.false_and, Bool.or_true, Bool.true_or, Bool.or_false, Bool.false_or, undef]
      refine ⟨rfl, rfl, rfl, ?_, ?_, ?_, rfl, rfl, rfl, rfl, rfl, rfl⟩
      · show _ = E.t (.ptr (.agg (bo5 (withS b [[], (seenOf b n).map (mirS b)]))) 0)
        rw [hl, hA']; rfl
      · show _ = E.t (.ptr (.agg (bo5 (withS b [(seenOf b n).reverse.map (revS b)]))) 0)
        rw [hl, hB']; rfl
      · show _ = E.t (.ptr (.agg (bo5 (withS b [seenOf b n, [], []]))) 0)
        rw [hl]; rfl
  clear q3 q7 q8 q9 q10 q11 q12 q13
  rintro ⟨env, σ, df, k⟩ ⟨q3, q7, q8, q9, q10, q11, q18, q19, q20, hσ, hdf, hk⟩
  simp only at q3 q7 q8 q9 q10 q11 q18 q19 q20 hσ hdf hk
  subst hσ hdf hk
  have hLens : ∀ x : Bo, x.OK → Lens x := fun x hx => ⟨Nat.lt_of_le_of_lt hx.num (by decide), fun l hl => Nat.lt_of_le_of_lt (hx.lens l hl) (by decide)⟩
  have w1 : IntKind.i64.wrap (b.last - (m : Int)) = ((b.L - m : Nat) : Int) := by rw [wrap_id (by omega) (by omega)]; omega
  obtain ⟨C, Cx, e, hC, hCx, hbit, e1, e2, e3, e4⟩ := hcan
  obtain ⟨S1, S2, f, f1, f2, f3⟩ := hnear
  obtain ⟨v1, v2, g1, g2⟩ := hspeed
  obtain ⟨W, W', h, hW1, hW2, hWs, h1, h2⟩ := hwrong
  have k1 := Can_ok (mirB b n) (hLens _ hOm) (1 : Nat) m
  have k2 := Can_ok (revB b n) (hLens _ hOr) (0 : Nat) (b.L - m : Nat)
  have k3 := Can_ok (onlyB b n) (hLens _ hOo) (0 : Nat) m
  have k4 := Nearest_ok b hL n
  have k5 := Nearest_ok (mirB b n) (hLens _ hOm) (1 : Nat)
  have k6 := Nearest_ok (revB b n) (hLens _ hOr) (0 : Nat)
  have k7 := Speed_ok b hL n
  have k8 := Speed_ok (revB b n) (hLens _ hOr) (0 : Nat)
  have k9 := Wrong_ok b hL n
  have k10 := Wrong_ok (revB b n) (hLens _ hOr) (0 : Nat)
  have s1 := rsize_ok W (by omega)
  have s2 := rsize_ok W' (by omega)
  rw [hWs] at s1
  rw [e2] at k1
  rw [e3] at k2
  rw [e4] at k3
  rw [f1] at k4
  rw [f2] at k5
  rw [f3] at k6
  rw [g1] at k7
  rw [g2] at k8
  rw [h1] at k9
  rw [h2] at k10
  rw [e1] at q19 q20
  clear e1 e2 e3 e4 f1 f2 f3 g1 g2 h1 h2
  generalize hxm : mirB b n = xm at *
  generalize hxr : revB b n = xr at *
  generalize hxo : onlyB b n = xo at *
  generalize hl : seenOf b n = l at *
  have n1 : decide ((W : Int) < 0) = false := by simp
  have n2 : decide ((W' : Int) < 0) = false := by simp
  simp only [spanE, oneE, tSp, bo5] at k1 k2 k3 k4 k5 k6 k7 k8 k9 k10
  refine awpL_chop 12 (c1 := ?g1) (c2 := ?g2) (fun st => lk st.env 3 = .t (.ptr (.agg (bo5 b)) 0) ∧ lk st.env 7 = .t (vi n) ∧ lk st.env 18 = .loc 0 l.length ∧ lk st.env 19 = .t (vi C) ∧ lk st.env 21 = .t (vi Cx) ∧ st.σ = [.row 5 ((l.map tSi).map .t), .cells [.t (vi S1), .t (vi S2)], .cells [.t (vi S1), .t (vi S2)], .cells [.t (vi S1), .t (vi S2)]] ∧ st.df = [] ∧ st.k = 0) ?hc4 ?_ ?_
  case hc4 => simp only [chop]; rfl
  · simp only [bo5, go_sem, Nat.reduceEqDiff, Nat.reduceAdd, Nat.reduceSub, Nat.reduceMul, Nat.reduceLT, Nat.reduceLeDiff, Nat.reduceMod, Nat.reduceDiv, Int.reduceToNat, Int.reduceLT, Int.reduceLE, Bool.not_true, Bool.not_false, reduceIte, Int.reduceEq, Int.reduceBEq, Int.reduceBNe, Int.reduceGT, Int.reduceGE, Int.reduceNeg, Int.reduceAdd, Int.reduceSub, Nat.reduceBEq, decide_true, decide_false, undef, beq_self_eq_true, bne_self_eq_false, Bool.and_true, Bool.true_and, Bool.and_false, Bool.false_and, Bool.or_true, Bool.true_or, Bool.or_false, Bool.false_or, undef, q3, q7, q8, q9, q10, q11, q18, q19, q20, w1]
    refine ACallL.quiet1 k1 rfl rfl rfl ?_
    simp only [bo5, go_sem, Nat.reduceEqDiff, Nat.reduceAdd, Nat.reduceSub, Nat.reduceMul, Nat.reduceLT, Nat.reduceLeDiff, Nat.reduceMod, Nat.reduceDiv, Int.reduceToNat, Int.reduceLT, Int.reduceLE, Bool.not_true, Bool.not_false, reduceIte, Int.reduceEq, Int.reduceBEq, Int.reduceBNe, Int.reduceGT, Int.reduceGE, Int.reduceNeg, Int.reduceAdd, Int.reduceSub, Nat.reduceBEq, decide_true, decide_false, undef, beq_self_eq_true, bne_self_eq_false, Bool.and_true, Bool.true_and, Bool.and_false, Bool.false_and, Bool.or_true, Bool.true_or, Bool.or_false, Bool.false_or, undef, q3, q7, q8, q9, q10, q11, q18, q19, q20, w1]
    refine ACallL.quiet1 k2 rfl rfl rfl ?_
    simp only [bo5, go_sem, Nat.reduceEqDiff, Nat.reduceAdd, Nat.reduceSub, Nat.reduceMul, Nat.reduceLT, Nat.reduceLeDiff, Nat.reduceMod, Nat.reduceDiv, Int.reduceToNat, Int.reduceLT, Int.reduceLE, Bool.not_true, Bool.not_false, reduceIte, Int.reduceEq, Int.reduceBEq, Int.reduceBNe, Int.reduceGT, Int.reduceGE, Int.reduceNeg, Int.reduceAdd, Int.reduceSub, Nat.reduceBEq, decide_true, decide_false, undef, beq_self_eq_true, bne_self_eq_false, Bool.and_true, Bool.true_and, Bool.and_false, Bool.false_and, Bool.or_true, Bool.true_or, Bool.or_false, Bool.false_or, undef, q3, q7, q8, q9, q10, q11, q18, q19, q20, w1]
    refine ACallL.quiet1 k3 rfl rfl rfl ?_
    simp only [bo5, go_sem, Nat.reduceEqDiff, Nat.reduceAdd, Nat.reduceSub, Nat.reduceMul, Nat.reduceLT, Nat.reduceLeDiff, Nat.reduceMod, Nat.reduceDiv, Int.reduceToNat, Int.reduceLT, Int.reduceLE, Bool.not_true, Bool.not_false, reduceIte, Int.reduceEq, Int.reduceBEq, Int.reduceBNe, Int.reduceGT, Int.reduceGE, Int.reduceNeg, Int.reduceAdd, Int.reduceSub, Nat.reduceBEq, decide_true, decide_false, undef, beq_self_eq_true, bne_self_eq_false, Bool.and_true, Bool.true_and, Bool.and_false, Bool.false_and, Bool.or_true, Bool.true_or, Bool.or_false, Bool.false_or, undef, q3, q7, q8, q9, q10, q11, q18, q19, q20, w1]
    refine ACallL.quiet1 k4 rfl rfl rfl ?_
    simp only [bo5, go_sem, Nat.reduceEqDiff, Nat.reduceAdd, Nat.reduceSub, Nat.reduceMul, Nat.reduceLT, Nat.reduceLeDiff, Nat.reduceMod, Nat.reduceDiv, Int.reduceToNat, Int.reduceLT, Int.reduceLE, Bool.not_true, Bool.not_false, reduceIte, Int.reduceEq, Int.reduceBEq, Int.reduceBNe, Int.reduceGT, Int.reduceGE, Int.reduceNeg, Int.reduceAdd, Int.reduceSub, Nat.reduceBEq, decide_true, decide_false, undef, beq_self_eq_true, bne_self_eq_false, Bool.and_true, Bool.true_and, Bool.and_false, Bool.false_and, Bool.or_true, Bool.true_or, Bool.or_false, Bool.false_or, undef, q3, q7, q8, q9, q10, q11, q18, q19, q20, w1]
    refine ACallL.quiet1 k5 rfl rfl rfl ?_
    simp only [bo5, go_sem, Nat.reduceEqDiff, Nat.reduceAdd, Nat.reduceSub, Nat.reduceMul, Nat.reduceLT, Nat.reduceLeDiff, Nat.reduceMod, Nat.reduceDiv, Int.reduceToNat, Int.reduceLT, Int.reduceLE, Bool.not_true, Bool.not_false, reduceIte, Int.reduceEq, Int.reduceBEq, Int.reduceBNe, Int.reduceGT, Int.reduceGE, Int.reduceNeg, Int.reduceAdd, Int.reduceSub, Nat.reduceBEq, decide_true, decide_false, undef, beq_self_eq_true, bne_self_eq_false, Bool.and_true, Bool.true_and, Bool.and_false, Bool.false_and, Bool.or_true, Bool.true_or, Bool.or_false, Bool.false_or, undef, q3, q7, q8, q9, q10, q11, q18, q19, q20, w1]
    refine ACallL.quiet1 k6 rfl rfl rfl ?_
    simp only [bo5, go_sem, Nat.reduceEqDiff, Nat.reduceAdd, Nat.reduceSub, Nat.reduceMul, Nat.reduceLT, Nat.reduceLeDiff, Nat.reduceMod, Nat.reduceDiv, Int.reduceToNat, Int.reduceLT, Int.reduceLE, Bool.not_true, Bool.not_false, reduceIte, Int.reduceEq, Int.reduceBEq, Int.reduceBNe, Int.reduceGT, Int.reduceGE, Int.reduceNeg, Int.reduceAdd, Int.reduceSub, Nat.reduceBEq, decide_true, decide_false, undef, beq_self_eq_true, bne_self_eq_false, Bool.and_true, Bool.true_and, Bool.and_false, Bool.false_and, Bool.or_true, Bool.true_or, Bool.or_false, Bool.false_or, undef, q3, q7, q8, q9, q10, q11, q18, q19, q20, w1]
    refine ACallL.quiet1 k7 rfl rfl rfl ?_
    simp only [bo5, go_sem, Nat.reduceEqDiff, Nat.reduceAdd, Nat.reduceSub, Nat.reduceMul, Nat.reduceLT, Nat.reduceLeDiff, Nat.reduceMod, Nat.reduceDiv, Int.reduceToNat, Int.reduceLT, Int.reduceLE, Bool.not_true, Bool.not_false, reduceIte, Int.reduceEq, Int.reduceBEq, Int.reduceBNe, Int.reduceGT, Int.reduceGE, Int.reduceNeg, Int.reduceAdd, Int.reduceSub, Nat.reduceBEq, decide_true, decide_false, undef, beq_self_eq_true, bne_self_eq_false, Bool.and_true, Bool.true_and, Bool.and_false, Bool.false_and, Bool.or_true, Bool.true_or, Bool.or_false, Bool.false_or, undef, q3, q7, q8, q9, q10, q11, q18, q19, q20, w1]
    refine ACallL.quiet1 k8 rfl rfl rfl ?_
    simp only [bo5, go_sem, Nat.reduceEqDiff, Nat.reduceAdd, Nat.reduceSub, Nat.reduceMul, Nat.reduceLT, Nat.reduceLeDiff, Nat.reduceMod, Nat.reduceDiv, Int.reduceToNat, Int.reduceLT, Int.reduceLE, Bool.not_true, Bool.not_false, reduceIte, Int.reduceEq, Int.reduceBEq, Int.reduceBNe, Int.reduceGT, Int.reduceGE, Int.reduceNeg, Int.reduceAdd, Int.reduceSub, Nat.reduceBEq, decide_true, decide_false, undef, beq_self_eq_true, bne_self_eq_false, Bool.and_true, Bool.true_and, Bool.and_false, Bool.false_and, Bool.or_true, Bool.true_or, Bool.or_false, Bool.false_or, undef, q3, q7, q8, q9, q10, q11, q18, q19, q20, w1]
    refine ACallL.quiet1 k9 rfl rfl rfl ?_
    simp only [bo5, go_sem, Nat.reduceEqDiff, Nat.reduceAdd, Nat.reduceSub, Nat.reduceMul, Nat.reduceLT, Nat.reduceLeDiff, Nat.reduceMod, Nat.reduceDiv, Int.reduceToNat, Int.reduceLT, Int.reduceLE, Bool.not_true, Bool.not_false, reduceIte, Int.reduceEq, Int.reduceBEq, Int.reduceBNe, Int.reduceGT, Int.reduceGE, Int.reduceNeg, Int.reduceAdd, Int.reduceSub, Nat.reduceBEq, decide_true, decide_false, undef, beq_self_eq_true, bne_self_eq_false, Bool.and_true, Bool.true_and, Bool.and_false, Bool.false_and, Bool.or_true, Bool.true_or, Bool.or_false, Bool.false_or, undef, q3, q7, q8, q9, q10, q11, q18, q19, q20, w1]
    refine ACallL.quiet1 k10 rfl rfl rfl ?_
    simp only [bo5, go_sem, Nat.reduceEqDiff, Nat.reduceAdd, Nat.reduceSub, Nat.reduceMul, Nat.reduceLT, Nat.reduceLeDiff, Nat.reduceMod, Nat.reduceDiv, Int.reduceToNat, Int.reduceLT, Int.reduceLE, Bool.not_true, Bool.not_false, reduceIte, Int.reduceEq, Int.reduceBEq, Int.reduceBNe, Int.reduceGT, Int.reduceGE, Int.reduceNeg, Int.reduceAdd, Int.reduceSub, Nat.reduceBEq, decide_true, decide_false, undef, beq_self_eq_true, bne_self_eq_false, Bool.and_true, Bool.true_and, Bool.and_false, Bool.false_and, Bool.or_true, Bool.true_or, Bool.or_false, Bool.false_or, undef, q3, q7, q8, q9, q10, q11, q18, q19, q20, w1, toKey2, kEq2, n1, n2]
    refine ACallL.quiet1 s1 rfl rfl rfl ?_
    simp only [bo5, go_sem, Nat.reduceEqDiff, Nat.reduceAdd, Nat.reduceSub, Nat.reduceMul, Nat.reduceLT, Nat.reduceLeDiff, Nat.reduceMod, Nat.reduceDiv, Int.reduceToNat, Int.reduceLT, Int.reduceLE, Bool.not_true, Bool.not_false, reduceIte, Int.reduceEq, Int.reduceBEq, Int.reduceBNe, Int.reduceGT, Int.reduceGE, Int.reduceNeg, Int.reduceAdd, Int.reduceSub, Nat.reduceBEq, decide_true, decide_false, undef, beq_self_eq_true, bne_self_eq_false, Bool.and_true, Bool.true_and, Bool.and_false, Bool.false_and, Bool.or_true, Bool.true_or, Bool.or_false, Bool.false_or, undef, q3, q7, q8, q9, q10, q11, q18, q19, q20, w1, toKey2, kEq2, n1, n2]
    refine ACallL.quiet1 s2 rfl rfl rfl ?_
    simp only [bo5, go_sem, Nat.reduceEqDiff, Nat.reduceAdd, Nat.reduceSub, Nat.reduceMul, Nat.reduceLT, Nat.reduceLeDiff, Nat.reduceMod, Nat.reduceDiv, Int.reduceToNat, Int.reduceLT, Int.reduceLE, Bool.not_true, Bool.not_false, reduceIte, Int.reduceEq, Int.reduceBEq, Int.reduceBNe, Int.reduceGT, Int.reduceGE, Int.reduceNeg, Int.reduceAdd, Int.reduceSub, Nat.reduceBEq, decide_true, decide_false, undef, beq_self_eq_true, bne_self_eq_false, Bool.and_true, Bool.true_and, Bool.and_false, Bool.false_and, Bool.or_true, Bool.true_or, Bool.or_false, Bool.false_or, undef, q3, q7, q8, q9, q10, q11, q18, q19, q20, w1, toKey2, kEq2, n1, n2]
  clear q3 q7 q8 q9 q10 q11 q18 q19 q20 k1 k2 k3 k4 k5 k6 k7 k8 k9 k10 s1 s2
  rintro ⟨env, σ, df, k⟩ ⟨q3, q7, q18, q19, q21, hσ, hdf, hk⟩
  simp only at q3 q7 q18 q19 q21 hσ hdf hk
  subst hσ hdf hk
  have hNb := hb.N
  have hWb := hb.W
  have hDb := hb.D
  have h35 := places_ok b
  rw [hNb.2.2, wrap_id (n := (b.N : Int)) (by omega) (by omega)] at h35
  simp only [bo5] at h35
  have hC' : C < 9223372036854775808 := Nat.lt_of_lt_of_le hC (by decide)
  have hCx' : Cx < 9223372036854775808 := Nat.lt_of_lt_of_le hCx (by decide)
  have hbv : ∀ (a i : Nat), a < 9223372036854775808 → bits .and .i64 ((a : Int).fdiv (2 ^ (min i 64))) 1 = if a.testBit i then 1 else 0 := fun a i ha => by
    have h1 := bit_eq (a := a) (i := i) ha
    have h2 := bit_eq0 (a := a) (i := i) ha
    cases h : a.testBit i
    · rw [h] at h2; exact beq_iff_eq.1 h2
    · rw [h] at h1; exact beq_iff_eq.1 h1
  simp only [bo5, go_sem, Nat.reduceEqDiff, Nat.reduceAdd, Nat.reduceSub, Nat.reduceMul, Nat.reduceLT, Nat.reduceLeDiff, Nat.reduceMod, Nat.reduceDiv, Int.reduceToNat, Int.reduceLT, Int.reduceLE, Bool.not_true, Bool.not_false, reduceIte, Int.reduceEq, Int.reduceBEq, Int.reduceBNe, Int.reduceGT, Int.reduceGE, Int.reduceNeg, Int.reduceAdd, Int.reduceSub, Nat.reduceBEq, decide_true, decide_false, undef, beq_self_eq_true, bne_self_eq_false, Bool.and_true, Bool.true_and, Bool.and_false, Bool.false_and, Bool.or_true, Bool.true_or, Bool.or_false, Bool.false_or, undef, q3, q7, q18, q19, q21]
  refine ACallL.quiet1 h35 rfl rfl rfl ?_
  simp only [bo5, go_sem, Nat.reduceEqDiff, Nat.reduceAdd, Nat.reduceSub, Nat.reduceMul, Nat.reduceLT, Nat.reduceLeDiff, Nat.reduceMod, Nat.reduceDiv, Int.reduceToNat, Int.reduceLT, Int.reduceLE, Bool.not_true, Bool.not_false, reduceIte, Int.reduceEq, Int.reduceBEq, Int.reduceBNe, Int.reduceGT, Int.reduceGE, Int.reduceNeg, Int.reduceAdd, Int.reduceSub, Nat.reduceBEq, decide_true, decide_false, undef, beq_self_eq_true, bne_self_eq_false, Bool.and_true, Bool.true_and, Bool.and_false, Bool.false_and, Bool.or_true, Bool.true_or, Bool.or_false, Bool.false_or, undef, q3, q7, q18, q19, q21]
  refine awpL_for (i := 292) (L := 291) b.N (fun j st => st = { env := [(292, .t (vi j)), (291, .t (vi b.N)), (3, .t (.ptr (.agg (bo5 b)) 0)), (7, .t (vi n)), (18, .loc 0 l.length), (19, .t (vi C)), (21, .t (vi Cx))], σ := [.row 5 ((l.map tSi).map .t)] }) ?_ ⟨_, Sub.gc [0] [292, 291, 3, 7, 18, 19, 21] rfl rfl, ?_⟩ ?_ ?_
  · rintro k st rfl; exact ⟨rfl, rfl⟩
  · exact St.gc_mk (by simp only [List.map_cons, List.map_nil, lk, Nat.reduceEqDiff, reduceIte, q3, q7, q18, q19, q21]; rfl) (by simp only [σgc, List.map_cons, List.map_nil, List.getD_cons_zero, AO.gc, gc_row]) rfl rfl
  · rintro j st hj rfl
    have hwj : IntKind.i64.wrap ((j : Int) + 1) = ((j + 1 : Nat) : Int) := by rw [wrap_id (by omega) (by omega)]; omega
    have hW0 : ¬ (b.wide = 0) := by omega
    have hjn : ((j : Int) < 0) = False := by simp
    have m1 : mirP b j < 64 := Nat.lt_of_lt_of_le (mirP_lt hb hj) (by omega)
    have d1 : (j : Int).tdiv b.wide = ((j / b.W : Nat) : Int) := by rw [hWb.2.2, Int.tdiv_eq_ediv_of_nonneg (by omega)]; rfl
    have d2 : (j : Int).tmod b.wide = ((j % b.W : Nat) : Int) := by rw [hWb.2.2]; exact mod_nat j b.W
    have hml : j % b.W < b.W := Nat.mod_lt _ (by omega)
    have hdl : j / b.W * b.W ≤ j := Nat.div_mul_le_self j b.W
    have hdl2 : j / b.W ≤ j := Nat.div_le_self _ _
    have d3 : ((j / b.W : Nat) : Int) * b.wide = ((j / b.W * b.W : Nat) : Int) := by rw [hWb.2.2]; push_cast; rfl
    have hmir : mirP b j = j / b.W * b.W + (b.W - 1 - j % b.W) := rfl
    have hmw : mirP b j = j / b.W * b.W + b.W - 1 - j % b.W := by omega
    have hbj := hbit j
    generalize mirP b j = mj at *
    generalize hq : j / b.W * b.W = Q at *
    generalize j % b.W = R at *
    generalize j / b.W = D at *
    have w2 : IntKind.i64.wrap (D : Int) = D := wrap_id (by omega) (by omega)
    have w3 : IntKind.i64.wrap (Q : Int) = Q := wrap_id (by omega) (by omega)
    have w4 : IntKind.i64.wrap ((Q : Int) + b.wide) = ((Q + b.W : Nat) : Int) := by rw [wrap_id (by omega) (by omega)]; omega
    have w5 : IntKind.i64.wrap (((Q + b.W : Nat) : Int) - 1) = ((Q + b.W - 1 : Nat) : Int) := by rw [wrap_id (by omega) (by omega)]; omega
    have w6 : IntKind.i64.wrap (((Q + b.W - 1 : Nat) : Int) - (R : Int)) = (mj : Int) := by rw [wrap_id (by omega) (by omega)]; omega
    have hmn : ((mj : Int) < 0) = False := by simp
    have v1 := hbv C j hC'
    have v2 := hbv Cx mj hCx'
    rw [← hbj] at v2
    simp only [bo5, go_sem, Nat.reduceEqDiff, Nat.reduceAdd, Nat.reduceSub, Nat.reduceMul, Nat.reduceLT, Nat.reduceLeDiff, Nat.reduceMod, Nat.reduceDiv, Int.reduceToNat, Int.reduceLT, Int.reduceLE, Bool.not_true, Bool.not_false, reduceIte, Int.reduceEq, Int.reduceBEq, Int.reduceBNe, Int.reduceGT, Int.reduceGE, Int.reduceNeg, Int.reduceAdd, Int.reduceSub, Nat.reduceBEq, decide_true, decide_false, undef, beq_self_eq_true, bne_self_eq_false, Bool.and_true, Bool.true_and, Bool.and_false, Bool.false_and, Bool.or_true, Bool.true_or, Bool.or_false, Bool.false_or, undef, hwj, hW0, hjn, d1, d2, d3, w2, w3, w4, w5, w6, hmn, v1, v2]
    repeat' (first | refine AndL.mk ?_ ?_ | simp only [bo5, go_sem, Nat.reduceEqDiff, Nat.reduceAdd, Nat.reduceSub, Nat.reduceMul, Nat.reduceLT, Nat.reduceLeDiff, Nat.reduceMod, Nat.reduceDiv, Int.reduceToNat, Int.reduceLT, Int.reduceLE, Bool.not_true, Bool.not_false, reduceIte, Int.reduceEq, Int.reduceBEq, Int.reduceBNe, Int.reduceGT, Int.reduceGE, Int.reduceNeg, Int.reduceAdd, Int.reduceSub, Nat.reduceBEq, decide_true, decide_false, undef, beq_self_eq_true, bne_self_eq_false, Bool.and_true, Bool.true_and, Bool.and_false, Bool.false_and, Bool.or_true, Bool.true_or, Bool.or_false, Bool.false_or, undef, hwj, hW0, hjn, d1, d2, d3, w2, w3, w4, w5, w6, hmn, v1, v2])
    refine ⟨_, Sub.gc [0] [292, 291, 3, 7, 18, 19, 21] rfl rfl, St.gc_mk rfl ?_ rfl rfl⟩
    simp only [σgc, List.map_cons, List.map_nil, List.getD_cons_zero, AO.gc, gc_row]
  · rintro st rfl
    have tk5 : ∀ a b c d e : Int, toKey (some [some .i64, some .i64, some .i64, some .i64, some .i64], none) (.t (.agg [vi a, vi b, vi c, vi d, vi e])) = some [a, b, c, d, e] := fun a b c d e => by simp [toKey, cellKeys, cellKey]
    have ke5 : ∀ a b c d e a' b' c' d' e' : Int, kEq [some .i64, some .i64, some .i64, some .i64, some .i64] [a, b, c, d, e] [a', b', c', d', e'] = ((a == a') && ((b == b') && ((c == c') && ((d == d') && (e == e'))))) := fun a b c d e a' b' c' d' e' => by simp [kEq, cellEq]
    simp only [bo5, go_sem, Nat.reduceEqDiff, Nat.reduceAdd, Nat.reduceSub, Nat.reduceMul, Nat.reduceLT, Nat.reduceLeDiff, Nat.reduceMod, Nat.reduceDiv, Int.reduceToNat, Int.reduceLT, Int.reduceLE, Bool.not_true, Bool.not_false, reduceIte, Int.reduceEq, Int.reduceBEq, Int.reduceBNe, Int.reduceGT, Int.reduceGE, Int.reduceNeg, Int.reduceAdd, Int.reduceSub, Nat.reduceBEq, decide_true, decide_false, undef, beq_self_eq_true, bne_self_eq_false, Bool.and_true, Bool.true_and, Bool.and_false, Bool.false_and, Bool.or_true, Bool.true_or, Bool.or_false, Bool.false_or, undef, List.length_map]
    refine awpL_for (i := 323) (L := 322) l.length (fun j st => st = { env := [(323, .t (vi j)), (322, .t (vi l.length)), (3, .t (.ptr (.agg (bo5 b)) 0)), (7, .t (vi n)), (18, .loc 0 l.length)], σ := [.row 5 ((l.map tSi).map .t)] }) ?_ ⟨_, Sub.gc [0] [323, 322, 3, 7, 18] rfl rfl, ?_⟩ ?_ ?_
    · rintro k st rfl; exact ⟨rfl, rfl⟩
    · exact St.gc_mk rfl (by simp only [σgc, List.map_cons, List.map_nil, List.getD_cons_zero, AO.gc, gc_row]) rfl rfl
    · rintro j st hj rfl
      have hwj : IntKind.i64.wrap ((j : Int) + 1) = ((j + 1 : Nat) : Int) := by rw [wrap_id (by omega) (by omega)]; omega
      have e1 := List.getElem?_eq_getElem hj
      generalize l[j] = x at *
      obtain ⟨x1, x2, x3, x4, x5⟩ := x
      simp only [bo5, tSis, tSi, go_sem, Nat.reduceEqDiff, Nat.reduceAdd, Nat.reduceSub, Nat.reduceMul, Nat.reduceLT, Nat.reduceLeDiff, Nat.reduceMod, Nat.reduceDiv, Int.reduceToNat, Int.reduceLT, Int.reduceLE, Bool.not_true, Bool.not_false, reduceIte, Int.reduceEq, Int.reduceBEq, Int.reduceBNe, Int.reduceGT, Int.reduceGE, Int.reduceNeg, Int.reduceAdd, Int.reduceSub, Nat.reduceBEq, decide_true, decide_false, undef, beq_self_eq_true, bne_self_eq_false, Bool.and_true, Bool.true_and, Bool.and_false, Bool.false_and, Bool.or_true, Bool.true_or, Bool.or_false, Bool.false_or, undef, hwj, List.length_map, List.getElem?_map, hs, e1, Option.map_some, hnl, tk5, ke5]
      repeat' (first | refine AndL.mk ?_ ?_ | simp only [bo5, tSis, tSi, go_sem, Nat.reduceEqDiff, Nat.reduceAdd, Nat.reduceSub, Nat.reduceMul, Nat.reduceLT, Nat.reduceLeDiff, Nat.reduceMod, Nat.reduceDiv, Int.reduceToNat, Int.reduceLT, Int.reduceLE, Bool.not_true, Bool.not_false, reduceIte, Int.reduceEq, Int.reduceBEq, Int.reduceBNe, Int.reduceGT, Int.reduceGE, Int.reduceNeg, Int.reduceAdd, Int.reduceSub, Nat.reduceBEq, decide_true, decide_false, undef, beq_self_eq_true, bne_self_eq_false, Bool.and_true, Bool.true_and, Bool.and_false, Bool.false_and, Bool.or_true, Bool.true_or, Bool.or_false, Bool.false_or, undef, hwj, List.length_map, List.getElem?_map, hs, e1, Option.map_some, hnl, tk5, ke5])
      refine ⟨by omega, _, Sub.gc [0] [323, 322, 3, 7, 18] rfl rfl, St.gc_mk rfl ?_ rfl rfl⟩
      simp only [σgc, List.map_cons, List.map_nil, List.getD_cons_zero, AO.gc, gc_row]
    · rintro st rfl
      simp only [go_sem, Nat.reduceEqDiff, Nat.reduceAdd, Nat.reduceSub, Nat.reduceMul, Nat.reduceLT, Nat.reduceLeDiff, Nat.reduceMod, Nat.reduceDiv, Int.reduceToNat, Int.reduceLT, Int.reduceLE, Bool.not_true, Bool.not_false, reduceIte, Int.reduceEq, Int.reduceBEq, Int.reduceBNe, Int.reduceGT, Int.reduceGE, Int.reduceNeg, Int.reduceAdd, Int.reduceSub, Nat.reduceBEq, decide_true, decide_false, undef, beq_self_eq_true, bne_self_eq_false, Bool.and_true, Bool.true_and, Bool.and_false, Bool.false_and, Bool.or_true, Bool.true_or, Bool.or_false, Bool.false_or, undef]
      refine ACallL.quiet1 awake_ok rfl rfl rfl ?_
      simp only [go_sem, Nat.reduceEqDiff, Nat.reduceAdd, Nat.reduceSub, Nat.reduceMul, Nat.reduceLT, Nat.reduceLeDiff, Nat.reduceMod, Nat.reduceDiv, Int.reduceToNat, Int.reduceLT, Int.reduceLE, Bool.not_true, Bool.not_false, reduceIte, Int.reduceEq, Int.reduceBEq, Int.reduceBNe, Int.reduceGT, Int.reduceGE, Int.reduceNeg, Int.reduceAdd, Int.reduceSub, Nat.reduceBEq, decide_true, decide_false, undef, beq_self_eq_true, bne_self_eq_false, Bool.and_true, Bool.true_and, Bool.and_false, Bool.false_and, Bool.or_true, Bool.true_or, Bool.or_false, Bool.false_or, undef]
      exact finL_ret [] ⟨rfl, rfl, rfl, rfl, _, rfl, res_mk rfl⟩
end Go.Proofs.YtafcdpmcmmfbhaaDoor
