/- Proved here: laws that the statements need (WaC310, WaZ3). No conditions but those that each law states. -/
import Derived.Test.YtnmmhkkmejbckaaDoorFL
import Derived.Test.YtnmmhkkmejbckaaDoorFP
import Derived.Test.YtnmmhkkmejbckaaDoorProg
import Derived.Test.YtnmmhkkmejbckaaDoorEQ

set_option linter.unusedSimpArgs false
set_option linter.unusedVariables false

/- Compiled code of functions, printed by program; each is checked to be the program's. No conditions. -/
namespace Go.Proofs.YtnmmhkkmejbckaaDoor
open Go Go.Ab
/-- dipworks/dipworkslaw07.WatchTurned -/
def c10 : AC :=
 .seq (.reg [⟨(some 1), none, .box (.tmp 0)⟩,
 ⟨(some 2), none, .mov (.lit (.bool false))⟩])
 (.seq (.seq (.reg [⟨(some 51), none, .load true 2 (.tmp 1)⟩,
 ⟨(some 52), none, .call (.fn 26) [(.tmp 51)]⟩,
 ⟨(some 53), none, .mov (.tmp 52)⟩,
 ⟨(some 54), (some (53, false)), .load true 2 (.tmp 1)⟩,
 ⟨(some 55), (some (53, false)), .call (.fn 27) [(.tmp 54)]⟩,
 ⟨(some 56), (some (53, false)), .un .not (.tmp 55)⟩,
 ⟨(some 57), none, .pick (.tmp 53) (.lit (.bool true)) (.tmp 56)⟩])
 (.cond (.tmp 57) (.seq (.reg [⟨(some 58), none, .call (.fn 20) []⟩,
 ⟨(some 2), none, .mov (.tmp 58)⟩])
 (.ret))
 (.skip)))
 (.seq (.draw (.step ⟨(some 59), none, .faddr 0 (.tmp 1)⟩ (
 .step ⟨(some 60), none, .load false 1 (.tmp 59)⟩ (
 .step ⟨(some 61), none, .len (.tmp 60)⟩ (
 .step ⟨(some 62), none, .faddr 1 (.tmp 1)⟩ (
 .step ⟨(some 63), none, .load false 1 (.tmp 62)⟩ (
 .step ⟨(some 64), none, .len (.tmp 63)⟩ (
 .step ⟨(some 3), none, .mov (.tmp 61)⟩ (
 .step ⟨(some 4), none, .mov (.tmp 64)⟩ (
 .done))))))))))
 (.seq (.reg [⟨(some 5), none, .alloc [(.slice none 0 0), (.slice none 0 0)]⟩])
 (.seq (.seq (.reg [⟨(some 65), none, .faddr 0 (.tmp 1)⟩,
 ⟨(some 66), none, .load false 1 (.tmp 65)⟩,
 ⟨(some 67), none, .len (.tmp 66)⟩,
 ⟨(some 68), none, .mov (.lit (.int .i64 0))⟩])
 (.block 0 (.loop (.seq (.reg [⟨(some 69), none, .bin .lss (.tmp 68) (.tmp 67)⟩])
 (.seq (.cond (.tmp 69) (.skip)
 (.exit 0))
 (.seq (.block 1 (.seq (.reg [⟨(some 70), none, .mov (.tmp 68)⟩,
 ⟨(some 6), none, .mov (.tmp 70)⟩])
 (.seq (.reg [⟨(some 71), none, .faddr 0 (.tmp 1)⟩,
 ⟨(some 72), none, .load false 1 (.tmp 71)⟩,
 ⟨(some 73), none, .mov (.tmp 3)⟩,
 ⟨(some 74), none, .bin .sub (.tmp 73) (.lit (.int .i64 1))⟩,
 ⟨(some 75), none, .mov (.tmp 6)⟩,
 ⟨(some 76), none, .bin .sub (.tmp 74) (.tmp 75)⟩,
 ⟨(some 77), none, .iaddr 4 (.tmp 72) (.tmp 76)⟩,
 ⟨(some 78), none, .load true 4 (.tmp 77)⟩,
 ⟨(some 7), none, .alloc [(.int .i64 0), (.int .i64 0), (.int .i64 0), (.int .i64 0)]⟩,
 ⟨none, none, .store 4 (.tmp 7) (.tmp 78)⟩])
 (.seq (.reg [⟨(some 8), none, .mov (.lit (.int .i64 0))⟩])
 (.seq (.seq (.reg [⟨(some 79), none, .mov (.lit (.int .i64 0))⟩])
 (.block 2 (.loop (.seq (.reg [⟨(some 80), none, .bin .lss (.tmp 79) (.lit (.int .i64 6))⟩])
 (.seq (.cond (.tmp 80) (.skip)
 (.exit 2))
 (.seq (.block 3 (.seq (.reg [⟨(some 81), none, .mov (.tmp 79)⟩,
 ⟨(some 9), none, .mov (.tmp 81)⟩])
 (.reg [⟨(some 82), none, .mov (.tmp 8)⟩,
 ⟨(some 83), none, .faddr 3 (.tmp 7)⟩,
 ⟨(some 84), none, .load false 1 (.tmp 83)⟩,
 ⟨(some 85), none, .mov (.tmp 9)⟩,
 ⟨(some 86), none, .bin .shr (.tmp 84) (.tmp 85)⟩,
 ⟨(some 87), none, .bin .and (.tmp 86) (.lit (.int .i64 1))⟩,
 ⟨(some 88), none, .mov (.tmp 9)⟩,
 ⟨(some 89), none, .bin .sub (.lit (.int .i64 5)) (.tmp 88)⟩,
 ⟨(some 90), none, .bin .shl (.tmp 87) (.tmp 89)⟩,
 ⟨(some 91), none, .bin .or (.tmp 82) (.tmp 90)⟩,
 ⟨(some 8), none, .mov (.tmp 91)⟩])))
 (.reg [⟨(some 92), none, .bin .add (.tmp 79) (.lit (.int .i64 1))⟩,
 ⟨(some 79), none, .mov (.tmp 92)⟩])))))))
 (.draw (.step ⟨(some 93), none, .faddr 0 (.tmp 5)⟩ (
 .step ⟨(some 94), none, .load false 1 (.tmp 93)⟩ (
 .step ⟨(some 95), none, .faddr 0 (.tmp 7)⟩ (
 .step ⟨(some 96), none, .load false 1 (.tmp 95)⟩ (
 .step ⟨(some 97), none, .faddr 1 (.tmp 7)⟩ (
 .step ⟨(some 98), none, .faddr 0 (.tmp 97)⟩ (
 .step ⟨(some 99), none, .load false 1 (.tmp 98)⟩ (
 .step ⟨(some 100), none, .faddr 1 (.tmp 7)⟩ (
 .step ⟨(some 101), none, .faddr 1 (.tmp 100)⟩ (
 .step ⟨(some 102), none, .load false 1 (.tmp 101)⟩ (
 .step ⟨(some 103), none, .mov (.tmp 8)⟩ (
 .ev ⟨(some 104), none, .call (.fn 32) [(.tmp 96), (.tmp 99), (.tmp 102), (.tmp 103)]⟩ [⟨(some 101), none, .faddr 1 (.tmp 100)⟩, ⟨(some 100), none, .faddr 1 (.tmp 7)⟩, ⟨(some 98), none, .faddr 0 (.tmp 97)⟩, ⟨(some 97), none, .faddr 1 (.tmp 7)⟩, ⟨(some 95), none, .faddr 0 (.tmp 7)⟩, ⟨(some 94), none, .load false 1 (.tmp 93)⟩, ⟨(some 93), none, .faddr 0 (.tmp 5)⟩] (
 .ev ⟨(some 105), none, .bslice 4 (.agg #[(.int .i64 0), (.int .i64 0), (.int .i64 0), (.int .i64 0)]) 1 [(0, (.tmp 104))]⟩ [⟨(some 102), none, .load false 1 (.tmp 101)⟩, ⟨(some 101), none, .faddr 1 (.tmp 100)⟩, ⟨(some 100), none, .faddr 1 (.tmp 7)⟩, ⟨(some 99), none, .load false 1 (.tmp 98)⟩, ⟨(some 98), none, .faddr 0 (.tmp 97)⟩, ⟨(some 97), none, .faddr 1 (.tmp 7)⟩, ⟨(some 96), none, .load false 1 (.tmp 95)⟩, ⟨(some 95), none, .faddr 0 (.tmp 7)⟩, ⟨(some 94), none, .load false 1 (.tmp 93)⟩, ⟨(some 93), none, .faddr 0 (.tmp 5)⟩] (
 .ev ⟨(some 106), none, .app 4 32 (.tmp 94) (.tmp 105)⟩ [⟨(some 102), none, .load false 1 (.tmp 101)⟩, ⟨(some 101), none, .faddr 1 (.tmp 100)⟩, ⟨(some 100), none, .faddr 1 (.tmp 7)⟩, ⟨(some 99), none, .load false 1 (.tmp 98)⟩, ⟨(some 98), none, .faddr 0 (.tmp 97)⟩, ⟨(some 97), none, .faddr 1 (.tmp 7)⟩, ⟨(some 96), none, .load false 1 (.tmp 95)⟩, ⟨(some 95), none, .faddr 0 (.tmp 7)⟩, ⟨(some 93), none, .faddr 0 (.tmp 5)⟩] (
 .step ⟨(some 107), none, .faddr 0 (.tmp 5)⟩ (
 .ev ⟨none, none, .store 1 (.tmp 107) (.tmp 106)⟩ [] (
 .done)
 (.stop)))
 (.stop))
 (.stop))
 (.stop)))))))))))))))))))
 (.reg [⟨(some 108), none, .bin .add (.tmp 68) (.lit (.int .i64 1))⟩,
 ⟨(some 68), none, .mov (.tmp 108)⟩])))))))
 (.seq (.seq (.reg [⟨(some 109), none, .faddr 1 (.tmp 1)⟩,
 ⟨(some 110), none, .load false 1 (.tmp 109)⟩,
 ⟨(some 111), none, .len (.tmp 110)⟩,
 ⟨(some 112), none, .mov (.lit (.int .i64 0))⟩])
 (.block 4 (.loop (.seq (.reg [⟨(some 113), none, .bin .lss (.tmp 112) (.tmp 111)⟩])
 (.seq (.cond (.tmp 113) (.skip)
 (.exit 4))
 (.seq (.block 5 (.seq (.reg [⟨(some 114), none, .mov (.tmp 112)⟩,
 ⟨(some 10), none, .mov (.tmp 114)⟩])
 (.seq (.reg [⟨(some 115), none, .faddr 1 (.tmp 1)⟩,
 ⟨(some 116), none, .load false 1 (.tmp 115)⟩,
 ⟨(some 117), none, .mov (.tmp 4)⟩,
 ⟨(some 118), none, .bin .sub (.tmp 117) (.lit (.int .i64 1))⟩,
 ⟨(some 119), none, .mov (.tmp 10)⟩,
 ⟨(some 120), none, .bin .sub (.tmp 118) (.tmp 119)⟩,
 ⟨(some 121), none, .iaddr 5 (.tmp 116) (.tmp 120)⟩,
 ⟨(some 122), none, .load true 5 (.tmp 121)⟩,
 ⟨(some 11), none, .alloc [(.int .i64 0), (.int .i64 0), (.int .i64 0), (.int .i64 0), (.bool false)]⟩,
 ⟨none, none, .store 5 (.tmp 11) (.tmp 122)⟩])
 (.draw (.step ⟨(some 123), none, .faddr 1 (.tmp 5)⟩ (
 .step ⟨(some 124), none, .load false 1 (.tmp 123)⟩ (
 .step ⟨(some 125), none, .faddr 0 (.tmp 11)⟩ (
 .step ⟨(some 126), none, .load false 1 (.tmp 125)⟩ (
 .step ⟨(some 127), none, .bin .sub (.lit (.int .i64 5)) (.tmp 126)⟩ (
 .step ⟨(some 128), none, .faddr 1 (.tmp 11)⟩ (
 .step ⟨(some 129), none, .load false 1 (.tmp 128)⟩ (
 .step ⟨(some 130), none, .faddr 2 (.tmp 11)⟩ (
 .step ⟨(some 131), none, .faddr 0 (.tmp 130)⟩ (
 .step ⟨(some 132), none, .load false 1 (.tmp 131)⟩ (
 .step ⟨(some 133), none, .faddr 2 (.tmp 11)⟩ (
 .step ⟨(some 134), none, .faddr 1 (.tmp 133)⟩ (
 .step ⟨(some 135), none, .load false 1 (.tmp 134)⟩ (
 .step ⟨(some 136), none, .faddr 4 (.tmp 11)⟩ (
 .step ⟨(some 137), none, .load false 1 (.tmp 136)⟩ (
 .ev ⟨(some 138), none, .call (.fn 33) [(.tmp 127), (.tmp 129), (.tmp 132), (.tmp 135), (.tmp 137)]⟩ [⟨(some 136), none, .faddr 4 (.tmp 11)⟩, ⟨(some 134), none, .faddr 1 (.tmp 133)⟩, ⟨(some 133), none, .faddr 2 (.tmp 11)⟩, ⟨(some 131), none, .faddr 0 (.tmp 130)⟩, ⟨(some 130), none, .faddr 2 (.tmp 11)⟩, ⟨(some 128), none, .faddr 1 (.tmp 11)⟩, ⟨(some 126), none, .load false 1 (.tmp 125)⟩, ⟨(some 125), none, .faddr 0 (.tmp 11)⟩, ⟨(some 124), none, .load false 1 (.tmp 123)⟩, ⟨(some 123), none, .faddr 1 (.tmp 5)⟩] (
 .ev ⟨(some 139), none, .bslice 5 (.agg #[(.int .i64 0), (.int .i64 0), (.int .i64 0), (.int .i64 0), (.bool false)]) 1 [(0, (.tmp 138))]⟩ [⟨(some 137), none, .load false 1 (.tmp 136)⟩, ⟨(some 136), none, .faddr 4 (.tmp 11)⟩, ⟨(some 135), none, .load false 1 (.tmp 134)⟩, ⟨(some 134), none, .faddr 1 (.tmp 133)⟩, ⟨(some 133), none, .faddr 2 (.tmp 11)⟩, ⟨(some 132), none, .load false 1 (.tmp 131)⟩, ⟨(some 131), none, .faddr 0 (.tmp 130)⟩, ⟨(some 130), none, .faddr 2 (.tmp 11)⟩, ⟨(some 129), none, .load false 1 (.tmp 128)⟩, ⟨(some 128), none, .faddr 1 (.tmp 11)⟩, ⟨(some 126), none, .load false 1 (.tmp 125)⟩, ⟨(some 125), none, .faddr 0 (.tmp 11)⟩, ⟨(some 124), none, .load false 1 (.tmp 123)⟩, ⟨(some 123), none, .faddr 1 (.tmp 5)⟩] (
 .ev ⟨(some 140), none, .app 5 40 (.tmp 124) (.tmp 139)⟩ [⟨(some 137), none, .load false 1 (.tmp 136)⟩, ⟨(some 136), none, .faddr 4 (.tmp 11)⟩, ⟨(some 135), none, .load false 1 (.tmp 134)⟩, ⟨(some 134), none, .faddr 1 (.tmp 133)⟩, ⟨(some 133), none, .faddr 2 (.tmp 11)⟩, ⟨(some 132), none, .load false 1 (.tmp 131)⟩, ⟨(some 131), none, .faddr 0 (.tmp 130)⟩, ⟨(some 130), none, .faddr 2 (.tmp 11)⟩, ⟨(some 129), none, .load false 1 (.tmp 128)⟩, ⟨(some 128), none, .faddr 1 (.tmp 11)⟩, ⟨(some 126), none, .load false 1 (.tmp 125)⟩, ⟨(some 125), none, .faddr 0 (.tmp 11)⟩, ⟨(some 123), none, .faddr 1 (.tmp 5)⟩] (
 .step ⟨(some 141), none, .faddr 1 (.tmp 5)⟩ (
 .ev ⟨none, none, .store 1 (.tmp 141) (.tmp 140)⟩ [] (
 .done)
 (.stop)))
 (.stop))
 (.stop))
 (.stop)))))))))))))))))))))
 (.reg [⟨(some 142), none, .bin .add (.tmp 112) (.lit (.int .i64 1))⟩,
 ⟨(some 112), none, .mov (.tmp 142)⟩])))))))
 (.seq (.draw (.step ⟨(some 144), none, .faddr 0 (.tmp 1)⟩ (
 .step ⟨(some 145), none, .load false 1 (.tmp 144)⟩ (
 .step ⟨(some 148), none, .faddr 1 (.tmp 1)⟩ (
 .step ⟨(some 149), none, .load false 1 (.tmp 148)⟩ (
 .ev ⟨(some 143), none, .bslice 4 (.agg #[(.int .i64 0), (.int .i64 0), (.int .i64 0), (.int .i64 0)]) 0 []⟩ [⟨(some 149), none, .load false 1 (.tmp 148)⟩, ⟨(some 148), none, .faddr 1 (.tmp 1)⟩, ⟨(some 145), none, .load false 1 (.tmp 144)⟩, ⟨(some 144), none, .faddr 0 (.tmp 1)⟩] (
 .ev ⟨(some 146), none, .app 4 32 (.tmp 143) (.tmp 145)⟩ [⟨(some 149), none, .load false 1 (.tmp 148)⟩, ⟨(some 148), none, .faddr 1 (.tmp 1)⟩, ⟨(some 144), none, .faddr 0 (.tmp 1)⟩] (
 .ev ⟨(some 147), none, .bslice 5 (.agg #[(.int .i64 0), (.int .i64 0), (.int .i64 0), (.int .i64 0), (.bool false)]) 0 []⟩ [⟨(some 149), none, .load false 1 (.tmp 148)⟩, ⟨(some 148), none, .faddr 1 (.tmp 1)⟩, ⟨(some 145), none, .load false 1 (.tmp 144)⟩, ⟨(some 144), none, .faddr 0 (.tmp 1)⟩] (
 .ev ⟨(some 150), none, .app 5 40 (.tmp 147) (.tmp 149)⟩ [⟨(some 148), none, .faddr 1 (.tmp 1)⟩, ⟨(some 145), none, .load false 1 (.tmp 144)⟩, ⟨(some 144), none, .faddr 0 (.tmp 1)⟩] (
 .step ⟨(some 12), none, .mov (.tmp 146)⟩ (
 .step ⟨(some 13), none, .mov (.tmp 150)⟩ (
 .done)))
 (.stop))
 (.stop))
 (.ev ⟨(some 147), none, .bslice 5 (.agg #[(.int .i64 0), (.int .i64 0), (.int .i64 0), (.int .i64 0), (.bool false)]) 0 []⟩ [⟨(some 149), none, .load false 1 (.tmp 148)⟩, ⟨(some 148), none, .faddr 1 (.tmp 1)⟩, ⟨(some 145), none, .load false 1 (.tmp 144)⟩, ⟨(some 144), none, .faddr 0 (.tmp 1)⟩] (
 .ev ⟨(some 146), none, .app 4 32 (.tmp 143) (.tmp 145)⟩ [⟨(some 149), none, .load false 1 (.tmp 148)⟩, ⟨(some 148), none, .faddr 1 (.tmp 1)⟩, ⟨(some 144), none, .faddr 0 (.tmp 1)⟩] (
 .ev ⟨(some 150), none, .app 5 40 (.tmp 147) (.tmp 149)⟩ [⟨(some 148), none, .faddr 1 (.tmp 1)⟩, ⟨(some 145), none, .load false 1 (.tmp 144)⟩, ⟨(some 144), none, .faddr 0 (.tmp 1)⟩] (
 .step ⟨(some 12), none, .mov (.tmp 146)⟩ (
 .step ⟨(some 13), none, .mov (.tmp 150)⟩ (
 .done)))
 (.stop))
 (.stop))
 (.stop)))
 (.ev ⟨(some 147), none, .bslice 5 (.agg #[(.int .i64 0), (.int .i64 0), (.int .i64 0), (.int .i64 0), (.bool false)]) 0 []⟩ [⟨(some 149), none, .load false 1 (.tmp 148)⟩, ⟨(some 148), none, .faddr 1 (.tmp 1)⟩, ⟨(some 145), none, .load false 1 (.tmp 144)⟩, ⟨(some 144), none, .faddr 0 (.tmp 1)⟩] (
 .ev ⟨(some 143), none, .bslice 4 (.agg #[(.int .i64 0), (.int .i64 0), (.int .i64 0), (.int .i64 0)]) 0 []⟩ [⟨(some 149), none, .load false 1 (.tmp 148)⟩, ⟨(some 148), none, .faddr 1 (.tmp 1)⟩, ⟨(some 145), none, .load false 1 (.tmp 144)⟩, ⟨(some 144), none, .faddr 0 (.tmp 1)⟩] (
 .ev ⟨(some 146), none, .app 4 32 (.tmp 143) (.tmp 145)⟩ [⟨(some 149), none, .load false 1 (.tmp 148)⟩, ⟨(some 148), none, .faddr 1 (.tmp 1)⟩, ⟨(some 144), none, .faddr 0 (.tmp 1)⟩] (
 .ev ⟨(some 150), none, .app 5 40 (.tmp 147) (.tmp 149)⟩ [⟨(some 148), none, .faddr 1 (.tmp 1)⟩, ⟨(some 145), none, .load false 1 (.tmp 144)⟩, ⟨(some 144), none, .faddr 0 (.tmp 1)⟩] (
 .step ⟨(some 12), none, .mov (.tmp 146)⟩ (
 .step ⟨(some 13), none, .mov (.tmp 150)⟩ (
 .done)))
 (.stop))
 (.stop))
 (.stop))
 (.stop))))))))
 (.seq (.seq (.gcp)
 (.reg [⟨(some 152), none, .load true 2 (.tmp 1)⟩,
 ⟨(some 153), none, .call (.fn 15) [(.tmp 152)]⟩,
 ⟨(some 151), none, .mov (.tmp 153)⟩,
 ⟨(some 154), none, .ext (.tmp 151) 0⟩,
 ⟨(some 155), none, .ext (.tmp 151) 1⟩,
 ⟨(some 14), none, .mov (.tmp 154)⟩,
 ⟨(some 15), none, .mov (.tmp 155)⟩]))
 (.seq (.reg [⟨(some 157), none, .load true 2 (.tmp 5)⟩,
 ⟨(some 158), none, .call (.fn 15) [(.tmp 157)]⟩,
 ⟨(some 156), none, .mov (.tmp 158)⟩,
 ⟨(some 159), none, .ext (.tmp 156) 0⟩,
 ⟨(some 160), none, .ext (.tmp 156) 1⟩,
 ⟨(some 16), none, .mov (.tmp 159)⟩,
 ⟨(some 17), none, .mov (.tmp 160)⟩])
 (.seq (.reg [⟨(some 162), none, .load true 2 (.tmp 1)⟩,
 ⟨(some 163), none, .call (.fn 18) [(.tmp 162)]⟩,
 ⟨(some 161), none, .mov (.tmp 163)⟩,
 ⟨(some 164), none, .ext (.tmp 161) 0⟩,
 ⟨(some 165), none, .ext (.tmp 161) 1⟩,
 ⟨(some 18), none, .mov (.tmp 164)⟩,
 ⟨(some 19), none, .mov (.tmp 165)⟩])
 (.seq (.reg [⟨(some 167), none, .load true 2 (.tmp 5)⟩,
 ⟨(some 168), none, .call (.fn 18) [(.tmp 167)]⟩,
 ⟨(some 166), none, .mov (.tmp 168)⟩,
 ⟨(some 169), none, .ext (.tmp 166) 0⟩,
 ⟨(some 170), none, .ext (.tmp 166) 1⟩,
 ⟨(some 20), none, .mov (.tmp 169)⟩,
 ⟨(some 21), none, .mov (.tmp 170)⟩])
 (.seq (.reg [⟨(some 172), none, .load true 2 (.tmp 1)⟩,
 ⟨(some 173), none, .call (.fn 19) [(.tmp 172)]⟩,
 ⟨(some 171), none, .mov (.tmp 173)⟩,
 ⟨(some 174), none, .ext (.tmp 171) 0⟩,
 ⟨(some 175), none, .ext (.tmp 171) 1⟩,
 ⟨(some 22), none, .mov (.tmp 174)⟩,
 ⟨(some 23), none, .mov (.tmp 175)⟩])
 (.seq (.reg [⟨(some 177), none, .load true 2 (.tmp 5)⟩,
 ⟨(some 178), none, .call (.fn 19) [(.tmp 177)]⟩,
 ⟨(some 176), none, .mov (.tmp 178)⟩,
 ⟨(some 179), none, .ext (.tmp 176) 0⟩,
 ⟨(some 180), none, .ext (.tmp 176) 1⟩,
 ⟨(some 24), none, .mov (.tmp 179)⟩,
 ⟨(some 25), none, .mov (.tmp 180)⟩])
 (.seq (.reg [⟨(some 26), none, .mov (.fn 24)⟩])
 (.seq (.seq (.reg [⟨(some 181), none, .mov (.tmp 14)⟩,
 ⟨(some 182), none, .mov (.tmp 16)⟩,
 ⟨(some 183), none, .bin .neq (.tmp 181) (.tmp 182)⟩,
 ⟨(some 184), none, .mov (.tmp 183)⟩,
 ⟨(some 185), (some (184, false)), .mov (.tmp 15)⟩,
 ⟨(some 186), (some (184, false)), .mov (.tmp 17)⟩,
 ⟨(some 187), (some (184, false)), .bin .neq (.tmp 185) (.tmp 186)⟩,
 ⟨(some 188), none, .pick (.tmp 184) (.lit (.bool true)) (.tmp 187)⟩,
 ⟨(some 189), none, .mov (.tmp 188)⟩,
 ⟨(some 190), (some (189, false)), .mov (.tmp 19)⟩,
 ⟨(some 191), (some (189, false)), .mov (.tmp 21)⟩,
 ⟨(some 192), (some (189, false)), .bin .neq (.tmp 190) (.tmp 191)⟩,
 ⟨(some 193), none, .pick (.tmp 189) (.lit (.bool true)) (.tmp 192)⟩,
 ⟨(some 194), none, .mov (.tmp 193)⟩,
 ⟨(some 195), (some (194, false)), .mov (.tmp 18)⟩,
 ⟨(some 196), (some (194, false)), .len (.tmp 195)⟩,
 ⟨(some 197), (some (194, false)), .mov (.tmp 20)⟩,
 ⟨(some 198), (some (194, false)), .len (.tmp 197)⟩,
 ⟨(some 199), (some (194, false)), .bin .neq (.tmp 196) (.tmp 198)⟩,
 ⟨(some 200), none, .pick (.tmp 194) (.lit (.bool true)) (.tmp 199)⟩,
 ⟨(some 201), none, .mov (.tmp 200)⟩,
 ⟨(some 202), (some (201, false)), .mov (.tmp 23)⟩,
 ⟨(some 203), (some (201, false)), .mov (.tmp 25)⟩,
 ⟨(some 204), (some (201, false)), .bin .neq (.tmp 202) (.tmp 203)⟩,
 ⟨(some 205), none, .pick (.tmp 201) (.lit (.bool true)) (.tmp 204)⟩,
 ⟨(some 206), none, .mov (.tmp 205)⟩,
 ⟨(some 207), (some (206, false)), .mov (.tmp 22)⟩,
 ⟨(some 208), (some (206, false)), .bin .lss (.tmp 207) (.lit (.int .i64 0))⟩,
 ⟨(some 209), none, .pick (.tmp 206) (.lit (.bool true)) (.tmp 208)⟩,
 ⟨(some 210), none, .mov (.tmp 209)⟩,
 ⟨(some 211), (some (210, false)), .mov (.tmp 24)⟩,
 ⟨(some 212), (some (210, false)), .bin .lss (.tmp 211) (.lit (.int .i64 0))⟩,
 ⟨(some 213), none, .pick (.tmp 210) (.lit (.bool true)) (.tmp 212)⟩,
 ⟨(some 214), none, .mov (.tmp 213)⟩,
 ⟨(some 215), (some (214, false)), .mov (.tmp 26)⟩,
 ⟨(some 216), (some (214, false)), .mov (.tmp 22)⟩,
 ⟨(some 217), (some (214, false)), .call (.tmp 215) [(.tmp 216)]⟩,
 ⟨(some 218), (some (214, false)), .mov (.tmp 26)⟩,
 ⟨(some 219), (some (214, false)), .mov (.tmp 24)⟩,
 ⟨(some 220), (some (214, false)), .call (.tmp 218) [(.tmp 219)]⟩,
 ⟨(some 221), (some (214, false)), .bin .neq (.tmp 217) (.tmp 220)⟩,
 ⟨(some 222), none, .pick (.tmp 214) (.lit (.bool true)) (.tmp 221)⟩])
 (.cond (.tmp 222) (.seq (.reg [⟨(some 2), none, .mov (.lit (.bool false))⟩])
 (.ret))
 (.skip)))
 (.seq (.seq (.reg [⟨(some 223), none, .mov (.tmp 18)⟩,
 ⟨(some 224), none, .len (.tmp 223)⟩,
 ⟨(some 225), none, .mov (.lit (.int .i64 0))⟩])
 (.block 6 (.loop (.seq (.reg [⟨(some 226), none, .bin .lss (.tmp 225) (.tmp 224)⟩])
 (.seq (.cond (.tmp 226) (.skip)
 (.exit 6))
 (.seq (.block 7 (.seq (.reg [⟨(some 227), none, .mov (.tmp 225)⟩,
 ⟨(some 27), none, .mov (.tmp 227)⟩])
 (.seq (.reg [⟨(some 228), none, .mov (.tmp 20)⟩,
 ⟨(some 229), none, .mov (.tmp 20)⟩,
 ⟨(some 230), none, .len (.tmp 229)⟩,
 ⟨(some 231), none, .bin .sub (.tmp 230) (.lit (.int .i64 1))⟩,
 ⟨(some 232), none, .mov (.tmp 27)⟩,
 ⟨(some 233), none, .bin .sub (.tmp 231) (.tmp 232)⟩,
 ⟨(some 234), none, .iaddr 1 (.tmp 228) (.tmp 233)⟩,
 ⟨(some 235), none, .load false 1 (.tmp 234)⟩,
 ⟨(some 28), none, .mov (.tmp 235)⟩])
 (.seq (.reg [⟨(some 236), none, .mov (.tmp 18)⟩,
 ⟨(some 237), none, .mov (.tmp 27)⟩,
 ⟨(some 238), none, .iaddr 1 (.tmp 236) (.tmp 237)⟩,
 ⟨(some 239), none, .load false 1 (.tmp 238)⟩,
 ⟨(some 240), none, .bin .lss (.tmp 239) (.lit (.int .i64 0))⟩,
 ⟨(some 241), none, .mov (.tmp 28)⟩,
 ⟨(some 242), none, .bin .lss (.tmp 241) (.lit (.int .i64 0))⟩,
 ⟨(some 243), none, .eqb true (.tmp 240) (.tmp 242)⟩,
 ⟨(some 244), none, .mov (.tmp 243)⟩,
 ⟨(some 245), (some (244, false)), .mov (.tmp 18)⟩,
 ⟨(some 246), (some (244, false)), .mov (.tmp 27)⟩,
 ⟨(some 247), (some (244, false)), .iaddr 1 (.tmp 245) (.tmp 246)⟩,
 ⟨(some 248), (some (244, false)), .load false 1 (.tmp 247)⟩,
 ⟨(some 249), (some (244, false)), .bin .geq (.tmp 248) (.lit (.int .i64 0))⟩,
 ⟨(some 250), (some (244, false)), .mov (.tmp 249)⟩,
 ⟨(some 251), (some (250, true)), .mov (.tmp 18)⟩,
 ⟨(some 252), (some (250, true)), .mov (.tmp 27)⟩,
 ⟨(some 253), (some (250, true)), .iaddr 1 (.tmp 251) (.tmp 252)⟩,
 ⟨(some 254), (some (250, true)), .load false 1 (.tmp 253)⟩,
 ⟨(some 255), (some (250, true)), .mov (.tmp 3)⟩,
 ⟨(some 256), (some (250, true)), .bin .sub (.tmp 255) (.lit (.int .i64 1))⟩,
 ⟨(some 257), (some (250, true)), .mov (.tmp 28)⟩,
 ⟨(some 258), (some (250, true)), .bin .sub (.tmp 256) (.tmp 257)⟩,
 ⟨(some 259), (some (250, true)), .bin .neq (.tmp 254) (.tmp 258)⟩,
 ⟨(some 260), (some (244, false)), .pick (.tmp 250) (.tmp 259) (.lit (.bool false))⟩,
 ⟨(some 261), none, .pick (.tmp 244) (.lit (.bool true)) (.tmp 260)⟩])
 (.cond (.tmp 261) (.seq (.reg [⟨(some 2), none, .mov (.lit (.bool false))⟩])
 (.ret))
 (.skip))))))
 (.reg [⟨(some 262), none, .bin .add (.tmp 225) (.lit (.int .i64 1))⟩,
 ⟨(some 225), none, .mov (.tmp 262)⟩])))))))
 (.seq (.seq (.reg [⟨(some 263), none, .faddr 1 (.tmp 1)⟩,
 ⟨(some 264), none, .load false 1 (.tmp 263)⟩,
 ⟨(some 265), none, .len (.tmp 264)⟩,
 ⟨(some 266), none, .mov (.lit (.int .i64 0))⟩])
 (.block 8 (.loop (.seq (.reg [⟨(some 267), none, .bin .lss (.tmp 266) (.tmp 265)⟩])
 (.seq (.cond (.tmp 267) (.skip)
 (.exit 8))
 (.seq (.block 9 (.seq (.reg [⟨(some 268), none, .mov (.tmp 266)⟩,
 ⟨(some 29), none, .mov (.tmp 268)⟩])
 (.seq (.reg [⟨(some 270), none, .load true 2 (.tmp 1)⟩,
 ⟨(some 271), none, .mov (.tmp 29)⟩,
 ⟨(some 272), none, .call (.fn 16) [(.tmp 270), (.tmp 271)]⟩,
 ⟨(some 269), none, .mov (.tmp 272)⟩,
 ⟨(some 273), none, .ext (.tmp 269) 0⟩,
 ⟨(some 274), none, .ext (.tmp 269) 1⟩,
 ⟨(some 30), none, .mov (.tmp 273)⟩,
 ⟨(some 31), none, .mov (.tmp 274)⟩])
 (.seq (.reg [⟨(some 276), none, .load true 2 (.tmp 5)⟩,
 ⟨(some 277), none, .mov (.tmp 4)⟩,
 ⟨(some 278), none, .bin .sub (.tmp 277) (.lit (.int .i64 1))⟩,
 ⟨(some 279), none, .mov (.tmp 29)⟩,
 ⟨(some 280), none, .bin .sub (.tmp 278) (.tmp 279)⟩,
 ⟨(some 281), none, .call (.fn 16) [(.tmp 276), (.tmp 280)]⟩,
 ⟨(some 275), none, .mov (.tmp 281)⟩,
 ⟨(some 282), none, .ext (.tmp 275) 0⟩,
 ⟨(some 283), none, .ext (.tmp 275) 1⟩,
 ⟨(some 32), none, .mov (.tmp 282)⟩,
 ⟨(some 33), none, .mov (.tmp 283)⟩])
 (.seq (.reg [⟨(some 285), none, .load true 2 (.tmp 1)⟩,
 ⟨(some 286), none, .mov (.tmp 29)⟩,
 ⟨(some 287), none, .call (.fn 13) [(.tmp 285), (.tmp 286)]⟩,
 ⟨(some 284), none, .mov (.tmp 287)⟩,
 ⟨(some 288), none, .ext (.tmp 284) 0⟩,
 ⟨(some 289), none, .ext (.tmp 284) 1⟩,
 ⟨(some 34), none, .mov (.tmp 288)⟩,
 ⟨(some 35), none, .mov (.tmp 289)⟩])
 (.seq (.reg [⟨(some 291), none, .load true 2 (.tmp 5)⟩,
 ⟨(some 292), none, .mov (.tmp 4)⟩,
 ⟨(some 293), none, .bin .sub (.tmp 292) (.lit (.int .i64 1))⟩,
 ⟨(some 294), none, .mov (.tmp 29)⟩,
 ⟨(some 295), none, .bin .sub (.tmp 293) (.tmp 294)⟩,
 ⟨(some 296), none, .call (.fn 13) [(.tmp 291), (.tmp 295)]⟩,
 ⟨(some 290), none, .mov (.tmp 296)⟩,
 ⟨(some 297), none, .ext (.tmp 290) 0⟩,
 ⟨(some 298), none, .ext (.tmp 290) 1⟩,
 ⟨(some 36), none, .mov (.tmp 297)⟩,
 ⟨(some 37), none, .mov (.tmp 298)⟩])
 (.seq (.seq (.reg [⟨(some 299), none, .mov (.tmp 31)⟩,
 ⟨(some 300), none, .mov (.tmp 33)⟩,
 ⟨(some 301), none, .bin .neq (.tmp 299) (.tmp 300)⟩,
 ⟨(some 302), none, .mov (.tmp 301)⟩,
 ⟨(some 303), (some (302, false)), .mov (.tmp 35)⟩,
 ⟨(some 304), (some (302, false)), .mov (.tmp 37)⟩,
 ⟨(some 305), (some (302, false)), .bin .neq (.tmp 303) (.tmp 304)⟩,
 ⟨(some 306), none, .pick (.tmp 302) (.lit (.bool true)) (.tmp 305)⟩])
 (.cond (.tmp 306) (.seq (.reg [⟨(some 2), none, .mov (.lit (.bool false))⟩])
 (.ret))
 (.skip)))
 (.seq (.reg [⟨(some 307), none, .mov (.tmp 3)⟩,
 ⟨(some 308), none, .mov (.lit (.int .i64 0))⟩])
 (.block 10 (.loop (.seq (.reg [⟨(some 309), none, .bin .lss (.tmp 308) (.tmp 307)⟩])
 (.seq (.cond (.tmp 309) (.skip)
 (.exit 10))
 (.seq (.block 11 (.seq (.reg [⟨(some 310), none, .mov (.tmp 308)⟩,
 ⟨(some 38), none, .mov (.tmp 310)⟩])
 (.seq (.draw (.step ⟨(some 311), none, .mov (.tmp 30)⟩ (
 .step ⟨(some 312), none, .mov (.tmp 38)⟩ (
 .step ⟨(some 313), none, .bin .shr (.tmp 311) (.tmp 312)⟩ (
 .step ⟨(some 314), none, .bin .and (.tmp 313) (.lit (.int .i64 1))⟩ (
 .step ⟨(some 315), none, .mov (.tmp 32)⟩ (
 .step ⟨(some 316), none, .mov (.tmp 3)⟩ (
 .step ⟨(some 317), none, .bin .sub (.tmp 316) (.lit (.int .i64 1))⟩ (
 .step ⟨(some 318), none, .mov (.tmp 38)⟩ (
 .step ⟨(some 319), none, .bin .sub (.tmp 317) (.tmp 318)⟩ (
 .step ⟨(some 320), none, .bin .shr (.tmp 315) (.tmp 319)⟩ (
 .step ⟨(some 321), none, .bin .and (.tmp 320) (.lit (.int .i64 1))⟩ (
 .step ⟨(some 322), none, .bin .neq (.tmp 314) (.tmp 321)⟩ (
 .step ⟨(some 323), none, .mov (.tmp 322)⟩ (
 .step ⟨(some 324), (some (323, false)), .mov (.tmp 34)⟩ (
 .step ⟨(some 325), (some (323, false)), .mov (.tmp 38)⟩ (
 .step ⟨(some 326), (some (323, false)), .bin .shr (.tmp 324) (.tmp 325)⟩ (
 .step ⟨(some 327), (some (323, false)), .bin .and (.tmp 326) (.lit (.int .i64 1))⟩ (
 .step ⟨(some 328), (some (323, false)), .mov (.tmp 36)⟩ (
 .step ⟨(some 329), (some (323, false)), .mov (.tmp 3)⟩ (
 .step ⟨(some 330), (some (323, false)), .bin .sub (.tmp 329) (.lit (.int .i64 1))⟩ (
 .step ⟨(some 331), (some (323, false)), .mov (.tmp 38)⟩ (
 .step ⟨(some 332), (some (323, false)), .bin .sub (.tmp 330) (.tmp 331)⟩ (
 .step ⟨(some 333), (some (323, false)), .bin .shr (.tmp 328) (.tmp 332)⟩ (
 .step ⟨(some 334), (some (323, false)), .bin .and (.tmp 333) (.lit (.int .i64 1))⟩ (
 .step ⟨(some 335), (some (323, false)), .bin .neq (.tmp 327) (.tmp 334)⟩ (
 .step ⟨(some 336), none, .pick (.tmp 323) (.lit (.bool true)) (.tmp 335)⟩ (
 .done))))))))))))))))))))))))))))
 (.cond (.tmp 336) (.seq (.reg [⟨(some 2), none, .mov (.lit (.bool false))⟩])
 (.ret))
 (.skip)))))
 (.reg [⟨(some 337), none, .bin .add (.tmp 308) (.lit (.int .i64 1))⟩,
 ⟨(some 308), none, .mov (.tmp 337)⟩]))))))))))))))
 (.reg [⟨(some 338), none, .bin .add (.tmp 266) (.lit (.int .i64 1))⟩,
 ⟨(some 266), none, .mov (.tmp 338)⟩])))))))
 (.seq (.seq (.reg [⟨(some 339), none, .faddr 0 (.tmp 1)⟩,
 ⟨(some 340), none, .load false 1 (.tmp 339)⟩,
 ⟨(some 341), none, .len (.tmp 340)⟩,
 ⟨(some 342), none, .mov (.lit (.int .i64 0))⟩])
 (.block 12 (.loop (.seq (.reg [⟨(some 343), none, .bin .lss (.tmp 342) (.tmp 341)⟩])
 (.seq (.cond (.tmp 343) (.skip)
 (.exit 12))
 (.seq (.block 13 (.seq (.reg [⟨(some 344), none, .mov (.tmp 342)⟩,
 ⟨(some 39), none, .mov (.tmp 344)⟩])
 (.seq (.reg [⟨(some 346), none, .load true 2 (.tmp 1)⟩,
 ⟨(some 347), none, .mov (.tmp 39)⟩,
 ⟨(some 348), none, .call (.fn 17) [(.tmp 346), (.tmp 347)]⟩,
 ⟨(some 345), none, .mov (.tmp 348)⟩,
 ⟨(some 349), none, .ext (.tmp 345) 0⟩,
 ⟨(some 350), none, .ext (.tmp 345) 1⟩,
 ⟨(some 351), none, .ext (.tmp 345) 2⟩,
 ⟨(some 40), none, .mov (.tmp 349)⟩,
 ⟨(some 41), none, .mov (.tmp 350)⟩,
 ⟨(some 42), none, .mov (.tmp 351)⟩])
 (.seq (.reg [⟨(some 353), none, .load true 2 (.tmp 5)⟩,
 ⟨(some 354), none, .mov (.tmp 3)⟩,
 ⟨(some 355), none, .bin .sub (.tmp 354) (.lit (.int .i64 1))⟩,
 ⟨(some 356), none, .mov (.tmp 39)⟩,
 ⟨(some 357), none, .bin .sub (.tmp 355) (.tmp 356)⟩,
 ⟨(some 358), none, .call (.fn 17) [(.tmp 353), (.tmp 357)]⟩,
 ⟨(some 352), none, .mov (.tmp 358)⟩,
 ⟨(some 359), none, .ext (.tmp 352) 0⟩,
 ⟨(some 360), none, .ext (.tmp 352) 1⟩,
 ⟨(some 361), none, .ext (.tmp 352) 2⟩,
 ⟨(some 43), none, .mov (.tmp 359)⟩,
 ⟨(some 44), none, .mov (.tmp 360)⟩,
 ⟨(some 45), none, .mov (.tmp 361)⟩])
 (.seq (.draw (.step ⟨(some 362), none, .mov (.tmp 41)⟩ (
 .step ⟨(some 363), none, .mov (.tmp 44)⟩ (
 .step ⟨(some 364), none, .eqb true (.tmp 362) (.tmp 363)⟩ (
 .step ⟨(some 365), none, .mov (.tmp 364)⟩ (
 .step ⟨(some 366), (some (365, false)), .mov (.tmp 42)⟩ (
 .step ⟨(some 367), (some (365, false)), .mov (.tmp 45)⟩ (
 .step ⟨(some 368), (some (365, false)), .bin .neq (.tmp 366) (.tmp 367)⟩ (
 .step ⟨(some 369), none, .pick (.tmp 365) (.lit (.bool true)) (.tmp 368)⟩ (
 .step ⟨(some 370), none, .mov (.tmp 369)⟩ (
 .step ⟨(some 371), (some (370, false)), .mov (.tmp 12)⟩ (
 .step ⟨(some 372), (some (370, false)), .mov (.tmp 39)⟩ (
 .step ⟨(some 373), (some (370, false)), .iaddr 4 (.tmp 371) (.tmp 372)⟩ (
 .step ⟨(some 374), (some (370, false)), .load true 4 (.tmp 373)⟩ (
 .step ⟨(some 375), (some (370, false)), .faddr 0 (.tmp 1)⟩ (
 .step ⟨(some 376), (some (370, false)), .load false 1 (.tmp 375)⟩ (
 .step ⟨(some 377), (some (370, false)), .mov (.tmp 39)⟩ (
 .step ⟨(some 378), (some (370, false)), .iaddr 4 (.tmp 376) (.tmp 377)⟩ (
 .step ⟨(some 379), (some (370, false)), .load true 4 (.tmp 378)⟩ (
 .step ⟨(some 380), (some (370, false)), .eqs true [(some .i64), (some .i64), (some .i64), (some .i64)] (.tmp 374) (.tmp 379)⟩ (
 .step ⟨(some 381), none, .pick (.tmp 370) (.lit (.bool true)) (.tmp 380)⟩ (
 .done))))))))))))))))))))))
 (.cond (.tmp 381) (.seq (.reg [⟨(some 2), none, .mov (.lit (.bool false))⟩])
 (.ret))
 (.skip)))))))
 (.reg [⟨(some 382), none, .bin .add (.tmp 342) (.lit (.int .i64 1))⟩,
 ⟨(some 342), none, .mov (.tmp 382)⟩])))))))
 (.seq (.seq (.reg [⟨(some 383), none, .mov (.tmp 13)⟩,
 ⟨(some 384), none, .len (.tmp 383)⟩,
 ⟨(some 385), none, .mov (.lit (.int .i64 0))⟩])
 (.block 14 (.loop (.seq (.reg [⟨(some 386), none, .bin .lss (.tmp 385) (.tmp 384)⟩])
 (.seq (.cond (.tmp 386) (.skip)
 (.exit 14))
 (.seq (.block 15 (.seq (.reg [⟨(some 387), none, .mov (.tmp 385)⟩,
 ⟨(some 46), none, .mov (.tmp 387)⟩])
 (.seq (.draw (.step ⟨(some 388), none, .mov (.tmp 13)⟩ (
 .step ⟨(some 389), none, .mov (.tmp 46)⟩ (
 .step ⟨(some 390), none, .iaddr 5 (.tmp 388) (.tmp 389)⟩ (
 .step ⟨(some 391), none, .load true 5 (.tmp 390)⟩ (
 .step ⟨(some 392), none, .faddr 1 (.tmp 1)⟩ (
 .step ⟨(some 393), none, .load false 1 (.tmp 392)⟩ (
 .step ⟨(some 394), none, .mov (.tmp 46)⟩ (
 .step ⟨(some 395), none, .iaddr 5 (.tmp 393) (.tmp 394)⟩ (
 .step ⟨(some 396), none, .load true 5 (.tmp 395)⟩ (
 .step ⟨(some 397), none, .eqs true [(some .i64), (some .i64), (some .i64), (some .i64), none] (.tmp 391) (.tmp 396)⟩ (
 .done))))))))))))
 (.cond (.tmp 397) (.seq (.reg [⟨(some 2), none, .mov (.lit (.bool false))⟩])
 (.ret))
 (.skip)))))
 (.reg [⟨(some 398), none, .bin .add (.tmp 385) (.lit (.int .i64 1))⟩,
 ⟨(some 385), none, .mov (.tmp 398)⟩])))))))
 (.seq (.reg [⟨(some 399), none, .bslice 1 (.int .i64 0) 0 []⟩,
 ⟨(some 400), none, .mov (.tmp 18)⟩,
 ⟨(some 401), none, .app 1 8 (.tmp 399) (.tmp 400)⟩,
 ⟨(some 47), none, .mov (.tmp 401)⟩])
 (.seq (.seq (.reg [⟨(some 402), none, .mov (.tmp 18)⟩,
 ⟨(some 403), none, .len (.tmp 402)⟩,
 ⟨(some 404), none, .mov (.lit (.int .i64 0))⟩])
 (.block 16 (.loop (.seq (.reg [⟨(some 405), none, .bin .lss (.tmp 404) (.tmp 403)⟩])
 (.seq (.cond (.tmp 405) (.skip)
 (.exit 16))
 (.seq (.block 17 (.seq (.reg [⟨(some 406), none, .mov (.tmp 404)⟩,
 ⟨(some 48), none, .mov (.tmp 406)⟩])
 (.reg [⟨(some 407), none, .mov (.tmp 18)⟩,
 ⟨(some 408), none, .mov (.tmp 48)⟩,
 ⟨(some 409), none, .iaddr 1 (.tmp 407) (.tmp 408)⟩,
 ⟨none, none, .store 1 (.tmp 409) (.lit (.int .i64 (-9)))⟩])))
 (.reg [⟨(some 410), none, .bin .add (.tmp 404) (.lit (.int .i64 1))⟩,
 ⟨(some 404), none, .mov (.tmp 410)⟩])))))))
 (.seq (.reg [⟨(some 412), none, .load true 2 (.tmp 1)⟩,
 ⟨(some 413), none, .call (.fn 18) [(.tmp 412)]⟩,
 ⟨(some 411), none, .mov (.tmp 413)⟩,
 ⟨(some 414), none, .ext (.tmp 411) 0⟩,
 ⟨(some 415), none, .ext (.tmp 411) 1⟩,
 ⟨(some 49), none, .mov (.tmp 414)⟩,
 ⟨(some 50), none, .mov (.tmp 415)⟩])
 (.seq (.reg [⟨(some 416), none, .mov (.tmp 50)⟩,
 ⟨(some 417), none, .mov (.tmp 19)⟩,
 ⟨(some 418), none, .bin .eql (.tmp 416) (.tmp 417)⟩,
 ⟨(some 419), none, .mov (.tmp 418)⟩,
 ⟨(some 420), (some (419, true)), .mov (.tmp 49)⟩,
 ⟨(some 421), (some (419, true)), .mov (.tmp 47)⟩,
 ⟨(some 422), (some (419, true)), .call (.fn 21) [(.tmp 420), (.tmp 421)]⟩,
 ⟨(some 423), none, .pick (.tmp 419) (.tmp 422) (.lit (.bool false))⟩,
 ⟨(some 424), none, .mov (.tmp 423)⟩,
 ⟨(some 425), (some (424, true)), .call (.fn 20) []⟩,
 ⟨(some 426), none, .pick (.tmp 424) (.tmp 425) (.lit (.bool false))⟩,
 ⟨(some 2), none, .mov (.tmp 426)⟩])
 (.ret)))))))))))))))))))))))
theorem k10 : FnC Tryd.prog 10 427 [] [24] [.tmp 2] c10 1 := ⟨Tryd.f10, _, Tryd.func10, rfl, by decide, rfl, by decide, by kernel_rfl, by kernel_rfl⟩
end Go.Proofs.YtnmmhkkmejbckaaDoor

/- WatchTurned: the first half, up to what is told of both. -/
namespace Go.Proofs.YtnmmhkkmejbckaaDoor
open Go Go.Ab

theorem wks_tN : ∀ ts : List T, E.wks (ts.map .t) = ts
  | [] => by unfold E.wks; rfl
  | t :: ts => by
    rw [List.map_cons]
    unfold E.wks
    rw [wks_tN ts]
    unfold E.wk
    rfl
/-- A call, of trees of which less is told. -/
theorem ACallN.le {P : Program} {f : Nat} {ts us : List T} {σ : List AO} {R : Out → List AO → Prop} (hle : ∀ h vs, RepTs h us vs → RepTs h ts vs) (h : ACall P f (ts.map .t) σ R) : ACall P f (us.map .t) σ R :=
  ⟨h.1, fun C k w ι vis D vs hC M r => h.2 C k w ι vis D vs hC M (RepEs.map_t (hle _ _ (by have := RepEs.wk _ _ r; rwa [wks_tN] at this)))⟩
theorem nil_sliceN {h : Hp} {es : Nat} {v : Value} (r : RepT h (.lit (.slice none 0 0)) v) : RepT h (.slice es []) v := by
  unfold RepT at r ⊢
  exact ⟨none, 0, 0, r, rfl, Nat.le_refl _, .inl ⟨rfl, rfl, rfl⟩⟩
/-! ### Huts from the other end -/
def revA (H : Nat) : Nat → Nat
  | 0 => 0
  | k + 1 => revA H k ||| ((H.testBit k).toNat * 2 ^ (5 - k))
theorem revA_ok : ∀ H : Nat, H < 64 → revA H 6 = revB 6 H := by decide +kernel
theorem revA_lt (H : Nat) : ∀ k, revA H k < 64
  | 0 => by unfold revA; omega
  | k + 1 => by
    unfold revA
    refine Nat.or_lt_two_pow (n := 6) (revA_lt H k) ?_
    have : 2 ^ (5 - k) ≤ 2 ^ 5 := Nat.pow_le_pow_right (by omega) (by omega)
    cases H.testBit k
    · simp
    · simp only [Bool.toNat_true, Nat.one_mul]; omega
def rowOw (l : List Ow) : AO := .row 4 ((l.map tOw).map .t)
def rowFi (l : List Fi) : AO := .row 5 ((l.map tFi).map .t)
/-- The last elements, turned. -/
def tailO (w : Wa) (j : Nat) : List Ow := ((w.os.map tuO).reverse).take j
def tailF (w : Wa) (j : Nat) : List Fi := ((w.fs.map tuF).reverse).take j
theorem tailO_snoc {w : Wa} {j : Nat} (hj : j < w.os.length) : tailO w (j + 1) = tailO w j ++ [tuO (w.os[w.os.length - 1 - j]'(by omega))] := by
  unfold tailO
  rw [List.take_add_one, List.getElem?_reverse (by simpa using hj), List.length_map, List.getElem?_map, List.getElem?_eq_getElem (show w.os.length - 1 - j < w.os.length by omega)]
  rfl
theorem tailF_snoc {w : Wa} {j : Nat} (hj : j < w.fs.length) : tailF w (j + 1) = tailF w j ++ [tuF (w.fs[w.fs.length - 1 - j]'(by omega))] := by
  unfold tailF
  rw [List.take_add_one, List.getElem?_reverse (by simpa using hj), List.length_map, List.getElem?_map, List.getElem?_eq_getElem (show w.fs.length - 1 - j < w.fs.length by omega)]
  rfl
theorem tailO_all (w : Wa) : tailO w w.os.length = (tuW w).os := by unfold tailO tuW; rw [List.take_of_length_le (by simp)]
theorem tailF_all (w : Wa) : tailF w w.fs.length = (tuW w).fs := by unfold tailF tuW; rw [List.take_of_length_le (by simp)]
theorem tailO_len {w : Wa} {j : Nat} (hj : j ≤ w.os.length) : (tailO w j).length = j := by unfold tailO; rw [List.length_take]; simp; omega
theorem tailF_len {w : Wa} {j : Nat} (hj : j ≤ w.fs.length) : (tailF w j).length = j := by unfold tailF; rw [List.length_take]; simp; omega

/-- The state behind what is built. -/
def T10 (w : Wa) : St := { env := [(1, .t (.ptr (tWa w) 0)), (3, .t (vi w.os.length)), (4, .t (vi w.fs.length)), (5, .t (.ptr (tWa (tuW w)) 0)), (12, .t (.slice 4 (w.os.map tOw))), (13, .t (.slice 5 (w.fs.map tFi)))], σ := [] }
/-- What Sure tells. -/
def tolL (w : Wa) : List Int := if waysN w.fits = 0 then [] else sureL w
def tolE (w : Wa) : Int := if waysN w.fits = 0 then 10 else 0
def tolS (w : Wa) (st : St) : Prop := (waysN w.fits = 0 ∧ lk st.env 18 = .t (.lit (.slice none 0 0)) ∧ lk st.env 20 = .t (.lit (.slice none 0 0)) ∧ st.σ = []) ∨ (waysN w.fits ≠ 0 ∧ lk st.env 18 = .loc 0 w.fs.length ∧ lk st.env 20 = .t (tI (sureL (tuW w))) ∧ st.σ = [rowI (sureL w)])
def M10 (w : Wa) (st : St) : Prop := lk st.env 1 = .t (.ptr (tWa w) 0) ∧ lk st.env 3 = .t (vi w.os.length) ∧ lk st.env 4 = .t (vi w.fs.length) ∧ lk st.env 5 = .t (.ptr (tWa (tuW w)) 0) ∧ lk st.env 12 = .t (.slice 4 (w.os.map tOw)) ∧ lk st.env 13 = .t (.slice 5 (w.fs.map tFi)) ∧ lk st.env 19 = .t (vi (tolE w)) ∧ tolS w st ∧ st.df = [] ∧ st.k = 0
theorem gc_x10 {σ : List AO} {xs ys : List T} {n m : Nat} (h : σ[1]? = some (.cells [.loc 2 n, .loc 3 m])) (h2 : σ[2]? = some (.row 4 (xs.map .t))) (h3 : σ[3]? = some (.row 5 (ys.map .t))) (hn : n = xs.length) (hm : m = ys.length) : E.gc [] σ 12 (.ptr 1 0) = .t (.ptr (.agg [.slice 4 xs, .slice 5 ys]) 0) := by
  rw [E.gc]
  simp only [pos?, h, List.map_cons, List.map_nil]
  rw [gc_loc (n := 9) rfl h2 hn, gc_loc (n := 9) rfl h3 hm]
  rfl
theorem shl_bit (b : Bool) {k : Nat} (hk : k ≤ 5) : IntKind.i64.wrap (((b.toNat : Nat) : Int) * 2 ^ (min k 64)) = ((b.toNat * 2 ^ k : Nat) : Int) := by
  have h : k = 0 ∨ k = 1 ∨ k = 2 ∨ k = 3 ∨ k = 4 ∨ k = 5 := by omega
  rcases h with rfl | rfl | rfl | rfl | rfl | rfl <;> cases b <;> decide

theorem sole_lt {n x : Nat} (hx : x < 64) (hb : ∀ i, x.testBit i = true → i < n) : -1 ≤ soleI x ∧ soleI x < n := by
  unfold soleI
  by_cases h : size x = 1
  · rw [if_pos h]
    obtain ⟨e, -⟩ := size_one x hx h
    have hk : x.log2 < n := hb _ (by rw [e, Nat.log2_two_pow, Nat.testBit_two_pow_self])
    omega
  · rw [if_neg h]
    omega
theorem toKey4O (a b c d : Int) : toKey (some [some .i64, some .i64, some .i64, some .i64], none) (.t (.agg [vi a, vi b, vi c, vi d])) = some [a, b, c, d] := rfl
theorem kEq4O (a b c d : Int) : kEq [some .i64, some .i64, some .i64, some .i64] [a, b, c, d] [a, b, c, d] = true := by simp [kEq, cellEq]
theorem toKey5F (a b c d : Int) (s : Bool) : toKey (some [some .i64, some .i64, some .i64, some .i64, none], none) (.t (.agg [vi a, vi b, vi c, vi d, vb s])) = some [a, b, c, d, b2i s] := rfl
theorem kEq5F (a b c d e : Int) : kEq [some .i64, some .i64, some .i64, some .i64, none] [a, b, c, d, e] [a, b, c, d, e] = true := by simp [kEq, cellEq]
theorem intsN_ok : ACall Tryd.prog 21 [.t (.lit (.slice none 0 0)), .t (.slice 1 [])] [] (ret (vb true)) := by
  refine ACallN.le (ts := [.slice 1 [], .slice 1 []]) (us := [.lit (.slice none 0 0), .slice 1 []]) ?_ (ints_ok [] [] (by decide))
  intro h vs r
  unfold RepTs at r ⊢
  obtain ⟨u, us, e, r1, r2⟩ := r
  exact ⟨u, us, e, nil_sliceN r1, r2⟩
def MA (w : Wa) (st : St) : Prop := lk st.env 1 = .ptr 0 0 ∧ lk st.env 3 = .t (vi w.os.length) ∧ lk st.env 4 = .t (vi w.fs.length) ∧ lk st.env 5 = .ptr 1 0 ∧ st.σ = [.cells [.t (.slice 4 (w.os.map tOw)), .t (.slice 5 (w.fs.map tFi))], .cells [.t (.lit (.slice none 0 0)), .t (.lit (.slice none 0 0))]] ∧ st.df = [] ∧ st.k = 0
def MB (w : Wa) (st : St) : Prop := lk st.env 1 = .ptr 0 0 ∧ lk st.env 3 = .t (vi w.os.length) ∧ lk st.env 4 = .t (vi w.fs.length) ∧ lk st.env 5 = .ptr 1 0 ∧ st.σ = [.cells [.t (.slice 4 (w.os.map tOw)), .t (.slice 5 (w.fs.map tFi))], .cells [.loc 2 (tuW w).os.length, .loc 3 (tuW w).fs.length], rowOw (tuW w).os, rowFi (tuW w).fs] ∧ st.df = [] ∧ st.k = 0
set_option maxRecDepth 8000 in
set_option maxHeartbeats 8000000 in
theorem WatchTurned_ok (w : Wa) (hL : Lens w) : ACall Tryd.prog 10 [.t (tWa w)] [] (res (.ret (.t (vb true)))) := by
  refine ACall.walk k10 ?_
  have h26 := long_ok w
  have h27 := rwatches_ok w hL
  unfold c10
  refine awpL_chop 4 (c1 := ?a1) (c2 := ?a2) (fun st => w.OK ∧ MA w st) ?hc ?_ ?_
  case hc => simp only [chop]; rfl
  · unfold tWa wa2 at h26 h27 ⊢
    simp only [go_sem, Nat.reduceEqDiff, Nat.reduceAdd]
    refine ACallL.quiet1 h26 rfl rfl rfl ?_
    cases hlg : w.long
    rotate_left
    · simp only [go_sem, Nat.reduceEqDiff, Bool.not_true, undef]
      refine ACallL.quiet1 alive_ok rfl rfl rfl ?_
      simp only [go_sem, Nat.reduceEqDiff]
      exact finL_ret [] ⟨rfl, rfl, rfl, rfl, _, rfl, res_mk rfl⟩
    simp only [go_sem, Nat.reduceEqDiff, Nat.reduceAdd, beq_self_eq_true]
    refine ACallL.quiet1 h27 rfl rfl rfl ?_
    cases hok : w.ok
    · simp only [go_sem, Nat.reduceEqDiff, Bool.not_false, beq_self_eq_true]
      refine ACallL.quiet1 alive_ok rfl rfl rfl ?_
      simp only [go_sem, Nat.reduceEqDiff]
      exact finL_ret [] ⟨rfl, rfl, rfl, rfl, _, rfl, res_mk rfl⟩
    have hw := (w.ok_iff).1 hok
    simp only [go_sem, Nat.reduceEqDiff, Nat.reduceAdd, Nat.reduceLeDiff, Bool.not_true, beq_self_eq_true, List.length_map]
    exact ⟨hw, rfl, rfl, rfl, rfl, rfl, rfl, rfl⟩
  clear h26 h27
  rintro ⟨env, σ, df, dk⟩ ⟨hw, p1, p3, p4, p5, hσ, hdf, hk⟩
  simp only at p1 p3 p4 p5 hσ hdf hk
  subst hσ hdf hk
  have hn5 := hw.no
  have hn4 := hw.nf
  have htl : (tuW w).os.length = w.os.length := by unfold tuW; simp
  have htf : (tuW w).fs.length = w.fs.length := by unfold tuW; simp
  refine awpL_chop 2 (c1 := ?b1) (c2 := ?b2) (MB w) ?hc2 ?_ ?_
  case hc2 => simp only [chop]; rfl
  · simp only [go_sem, Nat.reduceEqDiff, Nat.reduceAdd, Nat.reduceLeDiff, p1, List.length_map]
    refine awpL_loopK w.os.length (fun j s => s = { env := [(68, .t (vi j)), (1, .ptr 0 0), (3, .t (vi w.os.length)), (4, .t (vi w.fs.length)), (5, .ptr 1 0), (67, .t (vi w.os.length))], σ := [.cells [.t (.slice 4 (w.os.map tOw)), .t (.slice 5 (w.fs.map tFi))], .cells [.loc 2 j, .t (.lit (.slice none 0 0))], rowOw (tailO w j)] })
      ⟨_, (Sub.ghostC 1 0 4 (by decide) rfl rfl).trans (Sub.gc [0, 1, 2] [68, 1, 3, 4, 5, 67] rfl rfl), St.gc_mk (by simp only [List.map_cons, List.map_nil, lk, Nat.reduceEqDiff, reduceIte, p1, p3, p4, p5]; rfl) rfl rfl rfl⟩ ?_
    clear p1 p3 p4 p5 env
    rintro j s hj rfl
    have hj0 : ((j : Int) < 0) = False := eq_false (by omega)
    cases g : decide ((j : Int) < w.os.length)
    rotate_left
    · have hjl : j < w.os.length := by have := of_decide_eq_true g; omega
      have hlen := tailO_len (w := w) (j := j) (by omega)
      rw [tailO_snoc hjl]
      generalize tailO w j = P at *
      have hx : w.os[w.os.length - 1 - j]? = some w.os[w.os.length - 1 - j] := List.getElem?_eq_getElem (by omega)
      have hxo := hw.os _ (List.getElem_mem (show w.os.length - 1 - j < w.os.length by omega))
      generalize w.os[w.os.length - 1 - j] = x at *
      have wn1 : IntKind.i64.wrap ((w.os.length : Int) - 1) = ((w.os.length - 1 : Nat) : Int) := by rw [wrap_id (by omega) (by omega)]; omega
      have wn2 : IntKind.i64.wrap (((w.os.length - 1 : Nat) : Int) - (j : Int)) = ((w.os.length - 1 - j : Nat) : Int) := by rw [wrap_id (by omega) (by omega)]; omega
      have hd0 : (((w.os.length - 1 - j : Nat) : Int) < 0) = False := eq_false (by omega)
      have hxh := hxo.huts
      obtain ⟨H, hH⟩ : ∃ H : Nat, x.huts = H := ⟨x.huts.toNat, by omega⟩
      have hto : tOw x = .agg [vi x.set_, vi x.lo, vi x.hi, vi H] := by unfold tOw; rw [hH]
      have htu : tOw (tuO x) = .agg [vi x.set_, vi x.lo, vi x.hi, vi (revA H 6 : Nat)] := by unfold tOw tuO; rw [hH, Int.toNat_natCast, revA_ok H (by omega)]
      have happ : (P.map tOw).map E.t ++ [.t (.agg [vi x.set_, vi x.lo, vi x.hi, vi (revA H 6 : Nat)])] = ((P ++ [tuO x]).map tOw).map E.t := by rw [List.map_append, List.map_append, List.map_singleton, List.map_singleton, htu]
      have h32 := owner_ok x.set_ x.lo x.hi (revA H 6 : Nat)
      have hw1 : IntKind.i64.wrap ((j : Int) + 1) = ((j + 1 : Nat) : Int) := by rw [wrap_id (by omega) (by omega)]; omega
      have x1 : (j + 1 ≤ maxLen) = True := eq_true (by unfold maxLen; omega)
      have x2 : ((j + 1) * 32 ≤ 140737488355328) = True := eq_true (by omega)
      generalize w.os.length - 1 - j = d at *
      generalize w.os.length - 1 = d1 at *
      simp only [go_sem, Nat.reduceEqDiff, Nat.reduceAdd, Nat.reduceLeDiff, undef, g, wn1, wn2, List.getElem?_map, hx, Option.map_some, hto]
      refine awpL_loopK 6 (fun k s => s = { env := [(79, .t (vi k)), (1, .ptr 0 0), (3, .t (vi w.os.length)), (4, .t (vi w.fs.length)), (5, .ptr 1 0), (7, .ptr 3 0), (8, .t (vi (revA H k : Nat))), (67, .t (vi w.os.length)), (68, .t (vi j))], σ := [.cells [.t (.slice 4 (w.os.map tOw)), .t (.slice 5 (w.fs.map tFi))], .cells [.loc 2 j, .t (.lit (.slice none 0 0))], rowOw P, .cells [.t (vi x.set_), .t (vi x.lo), .t (vi x.hi), .t (vi H)]] })
        ⟨_, Sub.gc [0, 1, 2, 3] [79, 1, 3, 4, 5, 7, 8, 67, 68] rfl rfl, St.gc_mk rfl (by unfold σgc rowOw; simp only [List.map_cons, List.map_nil, List.getD_cons_zero, List.getD_cons_succ, AO.gc, gc_row]; rfl) rfl rfl⟩ ?_
      rintro k s hk rfl
      have hk0 : ((k : Int) < 0) = False := eq_false (by omega)
      cases g2 : decide ((k : Int) < 6)
      rotate_left
      · have hkl : k < 6 := by have := of_decide_eq_true g2; omega
        have hw2 : IntKind.i64.wrap ((k : Int) + 1) = ((k + 1 : Nat) : Int) := by rw [wrap_id (by omega) (by omega)]; omega
        have hb := bit_val (a := H) (i := k) (by omega)
        have w5 : IntKind.i64.wrap (5 - (k : Int)) = ((5 - k : Nat) : Int) := by rw [wrap_id (by omega) (by omega)]; omega
        have h50 : (((5 - k : Nat) : Int) < 0) = False := eq_false (by omega)
        have hsh := shl_bit (H.testBit k) (k := 5 - k) (by omega)
        have hre : revA H (k + 1) = revA H k ||| ((H.testBit k).toNat * 2 ^ (5 - k)) := rfl
        have hl1 := revA_lt H k
        have hl2 := revA_lt H (k + 1)
        have hl3 : (H.testBit k).toNat * 2 ^ (5 - k) < 64 := by
          have : 2 ^ (5 - k) ≤ 2 ^ 5 := Nat.pow_le_pow_right (by omega) (by omega)
          cases H.testBit k
          · simp
          · simp only [Bool.toNat_true, Nat.one_mul]; omega
        have hor := bits_or (a := revA H k) (b := (H.testBit k).toNat * 2 ^ (5 - k)) (by omega) (by omega)
        rw [hre]
        generalize revA H k = R at *
        generalize (H.testBit k).toNat = B at *
        generalize 5 - k = q at *
        simp only [go_sem, Nat.reduceEqDiff, Nat.reduceAdd, g2, hk0, IntKind.bits, hb, w5, h50, hsh, hor, hw2]
        exact ⟨hkl, _, Sub.gc [0, 1, 2, 3] [79, 1, 3, 4, 5, 7, 8, 67, 68] rfl rfl, St.gc_mk rfl (by unfold σgc rowOw; simp only [List.map_cons, List.map_nil, List.getD_cons_zero, List.getD_cons_succ, AO.gc, gc_row]; rfl) rfl rfl⟩
      have hke : k = 6 := by have := of_decide_eq_false g2; omega
      subst hke
      unfold rowOw
      simp only [go_sem, Nat.reduceEqDiff, Nat.reduceAdd, Nat.reduceLeDiff, Int.reduceLT, decide_false]
      refine ACallL.quiet1 h32 rfl rfl rfl ?_
      simp only [go_sem, Nat.reduceEqDiff, Nat.reduceAdd, Nat.reduceLT, Nat.reduceLeDiff, undef, List.length_map, hlen, x1, x2, happ, hw1]
      exact ⟨hjl, _, Sub.gc [0, 1, 2] [68, 1, 3, 4, 5, 67] rfl rfl, St.gc_mk rfl (by unfold σgc; simp only [List.map_cons, List.map_nil, List.getD_cons_zero, List.getD_cons_succ, AO.gc, gc_row]; rfl) rfl rfl⟩
    have hje : j = w.os.length := by have := of_decide_eq_false g; omega
    rw [hje] at g ⊢
    rw [tailO_all]
    clear hje hj0 hj j
    unfold rowOw
    simp only [go_sem, Nat.reduceEqDiff, Nat.reduceAdd, g, List.length_map]
    refine awpL_loopK w.fs.length (fun j s => s = { env := [(112, .t (vi j)), (1, .ptr 0 0), (3, .t (vi w.os.length)), (4, .t (vi w.fs.length)), (5, .ptr 1 0), (111, .t (vi w.fs.length))], σ := [.cells [.t (.slice 4 (w.os.map tOw)), .t (.slice 5 (w.fs.map tFi))], .cells [.loc 2 w.os.length, .loc 3 j], rowOw (tuW w).os, rowFi (tailF w j)] })
      ⟨_, (Sub.ghostC 1 1 5 (by decide) rfl rfl).trans (Sub.gc [0, 1, 2, 3] [112, 1, 3, 4, 5, 111] rfl rfl), St.gc_mk rfl (by unfold σgc rowOw; simp only [List.map_cons, List.map_nil, List.getD_cons_zero, List.getD_cons_succ, List.set_cons_zero, List.set_cons_succ, List.cons_append, List.nil_append, AO.gc, gc_row]; rfl) rfl rfl⟩ ?_
    rintro j s hj rfl
    have hj0 : ((j : Int) < 0) = False := eq_false (by omega)
    cases g : decide ((j : Int) < w.fs.length)
    rotate_left
    · have hjl : j < w.fs.length := by have := of_decide_eq_true g; omega
      have hlen := tailF_len (w := w) (j := j) (by omega)
      rw [tailF_snoc hjl]
      generalize tailF w j = P at *
      have hx : w.fs[w.fs.length - 1 - j]? = some w.fs[w.fs.length - 1 - j] := List.getElem?_eq_getElem (by omega)
      have hxo := hw.fs _ (List.getElem_mem (show w.fs.length - 1 - j < w.fs.length by omega))
      generalize w.fs[w.fs.length - 1 - j] = x at *
      have wn1 : IntKind.i64.wrap ((w.fs.length : Int) - 1) = ((w.fs.length - 1 : Nat) : Int) := by rw [wrap_id (by omega) (by omega)]; omega
      have wn2 : IntKind.i64.wrap (((w.fs.length - 1 : Nat) : Int) - (j : Int)) = ((w.fs.length - 1 - j : Nat) : Int) := by rw [wrap_id (by omega) (by omega)]; omega
      have hd0 : (((w.fs.length - 1 - j : Nat) : Int) < 0) = False := eq_false (by omega)
      have hxh := hxo.hut
      have w5 : IntKind.i64.wrap (5 - x.hut) = 5 - x.hut := wrap_id (by omega) (by omega)
      have hto : tFi x = .agg [vi x.hut, vi x.minute, vi x.lo, vi x.hi, vb x.stopped] := rfl
      have happ : (P.map tFi).map E.t ++ [.t (.agg [vi (5 - x.hut), vi x.minute, vi x.lo, vi x.hi, vb x.stopped])] = ((P ++ [tuF x]).map tFi).map E.t := by rw [List.map_append, List.map_append]; rfl
      have h33 := find_ok (5 - x.hut) x.minute x.lo x.hi x.stopped
      have hw1 : IntKind.i64.wrap ((j : Int) + 1) = ((j + 1 : Nat) : Int) := by rw [wrap_id (by omega) (by omega)]; omega
      have x1 : (j + 1 ≤ maxLen) = True := eq_true (by unfold maxLen; omega)
      have x2 : ((j + 1) * 40 ≤ 140737488355328) = True := eq_true (by omega)
      generalize w.fs.length - 1 - j = d at *
      generalize w.fs.length - 1 = d1 at *
      unfold rowFi
      simp only [go_sem, Nat.reduceEqDiff, Nat.reduceAdd, Nat.reduceLeDiff, undef, g, wn1, wn2, List.getElem?_map, hx, Option.map_some, hto, w5]
      refine ACallL.quiet1 h33 rfl rfl rfl ?_
      simp only [go_sem, Nat.reduceEqDiff, Nat.reduceAdd, Nat.reduceLT, Nat.reduceLeDiff, undef, List.length_map, hlen, x1, x2, happ, hw1]
      exact ⟨hjl, _, Sub.gc [0, 1, 2, 3] [112, 1, 3, 4, 5, 111] rfl rfl, St.gc_mk rfl (by unfold σgc rowOw; simp only [List.map_cons, List.map_nil, List.getD_cons_zero, List.getD_cons_succ, AO.gc, gc_row]; rfl) rfl rfl⟩
    have hje : j = w.fs.length := by have := of_decide_eq_false g; omega
    rw [hje] at g ⊢
    rw [tailF_all]
    simp only [go_sem, Nat.reduceEqDiff, g]
    exact ⟨rfl, rfl, rfl, rfl, by rw [htl, htf], rfl, rfl⟩
  rintro ⟨env, σ, df, dk⟩ ⟨p1, p3, p4, p5, hσ, hdf, hk⟩
  simp only at p1 p3 p4 p5 hσ hdf hk
  subst hσ hdf hk
  have hx := tuW_OK hw
  have hok := (w.ok_iff).2 hw
  have hxok := ((tuW w).ok_iff).2 hx
  have hLx : Lens (tuW w) := ⟨by have := hx.no; omega, by have := hx.nf; omega⟩
  have hlf : w.fits.length = w.fs.length := by unfold Wa.fits; simp
  have hft := fits_tu hw
  have hbel := fits_below w
  have hways : waysN (tuW w).fits = waysN w.fits := by rw [hft]; exact ways_turn hn5 hbel
  refine awpL_chop 9 (c1 := ?d1) (c2 := ?d2) (M10 w) ?hc3 ?_ ?_
  case hc3 => simp only [chop]; rfl
  · have x1 : (w.os.length ≤ maxLen) = True := eq_true (by unfold maxLen; omega)
    have x2 : (w.os.length * 32 ≤ 140737488355328) = True := eq_true (by omega)
    have x3 : (w.fs.length ≤ maxLen) = True := eq_true (by unfold maxLen; omega)
    have x4 : (w.fs.length * 40 ≤ 140737488355328) = True := eq_true (by omega)
    have c1 := Count_ok w hL
    have c2 := Count_ok (tuW w) hLx
    have k1 := Clash_ok w hL
    have k2 := Clash_ok (tuW w) hLx
    rw [specCount_at hok] at c1
    rw [specCount_at hxok, hways] at c2
    have e1 : specClash w = if waysN w.fits = 0 then (match clashF w.fits with | some s => (((s : Nat) : Int), (0 : Int)) | none => (0, 4)) else (0, 4) := by unfold specClash; rw [hok, if_pos rfl]; rfl
    have e2 : specClash (tuW w) = if waysN w.fits = 0 then (match clashF (tuW w).fits with | some s => (((s : Nat) : Int), (0 : Int)) | none => (0, 4)) else (0, 4) := by unfold specClash; rw [hxok, if_pos rfl, hways]; rfl
    have z0 : ((0 : Nat) : Int) = 0 := rfl
    have s0 : size 0 = 0 := by decide
    have hr0 := rsize_ok 0 (by omega)
    rw [z0, s0] at hr0
    have htT : ∀ env : List (Nat × E), ∀ s : St, True := fun _ _ => trivial
    have hgx : ∀ σ : List AO, σ[1]? = some (.cells [.loc 2 (tuW w).os.length, .loc 3 (tuW w).fs.length]) → σ[2]? = some (rowOw (tuW w).os) → σ[3]? = some (rowFi (tuW w).fs) → E.gc [] σ 12 (.ptr 1 0) = .t (.ptr (tWa (tuW w)) 0) := fun σ h1 h2 h3 => gc_x10 h1 h2 h3 (by simp) (by simp)
    by_cases hz : waysN w.fits = 0
    · obtain ⟨s, s', f1, f2, f3, f4, f5⟩ := clash_turn hn5 hbel (by omega) hz
      rw [if_pos hz, f1] at e1
      rw [if_pos hz, hft, f2] at e2
      simp only at e1 e2
      rw [e1] at k1
      rw [e2] at k2
      rw [hz] at c1 c2
      have u1 := Sure_ok w hL
      have u2 := Sure_ok (tuW w) hLx
      rw [specSure_at hok, if_pos hz] at u1
      rw [specSure_at hxok, hways, if_pos hz] at u2
      have r1 := rsize_ok s (by omega)
      have r2 := rsize_ok s' (by omega)
      rw [← f5] at r2
      have g1 : decide ((s : Int) < 0) = false := decide_eq_false (by omega)
      have g2 : decide ((s' : Int) < 0) = false := decide_eq_false (by omega)
      have hEE : ∀ a : Int, (a != a) = false := fun a => by simp
      have hfin : ∀ env : List (Nat × E), lk env 1 = .t (.ptr (tWa w) 0) → lk env 3 = .t (vi w.os.length) → lk env 4 = .t (vi w.fs.length) → lk env 5 = .t (.ptr (tWa (tuW w)) 0) → lk env 12 = .t (.slice 4 (w.os.map tOw)) → lk env 13 = .t (.slice 5 (w.fs.map tFi)) → lk env 18 = .t (.lit (.slice none 0 0)) → lk env 19 = .t (vi 10) → lk env 20 = .t (.lit (.slice none 0 0)) → M10 w { env := env, σ := [] } := fun env a b c d e f g h i => ⟨a, b, c, d, e, f, by rw [h]; unfold tolE; rw [if_pos hz], .inl ⟨hz, g, i, rfl⟩, rfl, rfl⟩
      simp only [oneE, lsE] at c1 c2 k1 k2 u1 u2
      unfold rowOw rowFi at hgx
      unfold rowOw rowFi
      simp only [go_sem, Nat.reduceEqDiff, Nat.reduceAdd, Nat.reduceLeDiff, p1]
      repeat' (first | refine AndL.mk ?_ ?_ | simp only [go_sem, Nat.reduceEqDiff, Nat.reduceAdd, Nat.reduceLeDiff, p1, List.length_map, x1, x2, x3, x4])
      all_goals
        refine awpL_gcpE [] [1, 3, 4, 5, 12, 13] (T10 w) (St.gc_mk (by
          simp only [List.map_cons, List.map_nil, lk, Nat.reduceEqDiff, reduceIte, p1, p3, p4, p5]
          rw [hgx _ rfl rfl rfl, gc_loc (n := 10) (xs := w.os.map tOw) rfl rfl (by simp), gc_loc (n := 10) (xs := w.fs.map tFi) rfl rfl (by simp)]
          rfl) rfl rfl rfl) rfl rfl ?_
        unfold T10
        generalize tuW w = x at *
        unfold tWa wa2 at c1 c2 k1 k2 u1 u2 hfin ⊢
        simp only [go_sem, Nat.reduceEqDiff, Nat.reduceAdd]
        refine ACallL.quiet1 c1 rfl rfl rfl ?_
        simp only [go_sem, Nat.reduceEqDiff, Nat.reduceAdd]
        refine ACallL.quiet1 c2 rfl rfl rfl ?_
        simp only [go_sem, Nat.reduceEqDiff, Nat.reduceAdd]
        refine ACallL.fresh1 u1 rfl ?_
        simp only [go_sem, Nat.reduceEqDiff, Nat.reduceAdd, Int.reduceEq]
        refine ACallL.fresh1 u2 rfl ?_
        simp only [go_sem, Nat.reduceEqDiff, Nat.reduceAdd, Int.reduceEq]
        refine ACallL.quiet1 k1 rfl rfl rfl ?_
        simp only [go_sem, Nat.reduceEqDiff, Nat.reduceAdd]
        refine ACallL.quiet1 k2 rfl rfl rfl ?_
        simp only [go_sem, Nat.reduceEqDiff, beq_self_eq_true, bne_self_eq_false, g1, g2]
        refine ACallL.quiet1 r1 rfl rfl rfl ?_
        simp only [go_sem, Nat.reduceEqDiff, beq_self_eq_true]
        refine ACallL.quiet1 r2 rfl rfl rfl ?_
        simp only [go_sem, Nat.reduceEqDiff, beq_self_eq_true, bne_self_eq_false]
        exact hfin _ rfl rfl rfl rfl rfl rfl rfl rfl rfl
    · rw [if_neg hz] at e1 e2
      rw [e1] at k1
      rw [e2] at k2
      have u1 := Sure_own w hL hok hz
      have u2 := Sure_ok (tuW w) hLx
      rw [specSure_at hxok, hways, if_neg hz] at u2
      have hsl : (sureL w).length = w.fs.length := by unfold sureL; simp
      have hsx : (sureL (tuW w)).length = w.fs.length := by unfold sureL; rw [List.length_map, List.length_range, htf]
      rw [hsl] at u1
      have hEE : ∀ a : Int, (a != a) = false := fun a => by simp
      have hfin : ∀ env : List (Nat × E), lk env 1 = .t (.ptr (tWa w) 0) → lk env 3 = .t (vi w.os.length) → lk env 4 = .t (vi w.fs.length) → lk env 5 = .t (.ptr (tWa (tuW w)) 0) → lk env 12 = .t (.slice 4 (w.os.map tOw)) → lk env 13 = .t (.slice 5 (w.fs.map tFi)) → lk env 18 = .loc 0 w.fs.length → lk env 19 = .t (vi 0) → lk env 20 = .t (.slice 1 ((sureL (tuW w)).map vi)) → M10 w { env := env, σ := [rowI (sureL w)] } := fun env a b c d e f g h i => ⟨a, b, c, d, e, f, by rw [h]; unfold tolE; rw [if_neg hz], .inr ⟨hz, g, i, rfl⟩, rfl, rfl⟩
      simp only [oneE, lsE] at c1 c2 k1 k2 u2
      unfold rowOw rowFi at hgx
      unfold rowOw rowFi
      generalize sureL (tuW w) = S at *
      simp only [go_sem, Nat.reduceEqDiff, Nat.reduceAdd, Nat.reduceLeDiff, p1]
      repeat' (first | refine AndL.mk ?_ ?_ | simp only [go_sem, Nat.reduceEqDiff, Nat.reduceAdd, Nat.reduceLeDiff, p1, List.length_map, x1, x2, x3, x4])
      all_goals
        refine awpL_gcpE [] [1, 3, 4, 5, 12, 13] (T10 w) (St.gc_mk (by
          simp only [List.map_cons, List.map_nil, lk, Nat.reduceEqDiff, reduceIte, p1, p3, p4, p5]
          rw [hgx _ rfl rfl rfl, gc_loc (n := 10) (xs := w.os.map tOw) rfl rfl (by simp), gc_loc (n := 10) (xs := w.fs.map tFi) rfl rfl (by simp)]
          rfl) rfl rfl rfl) rfl rfl ?_
        unfold T10
        generalize tuW w = x at *
        unfold tWa wa2 at c1 c2 k1 k2 u1 u2 hfin ⊢
        generalize hRS : rowI (sureL w) = RS at *
        simp only [go_sem, Nat.reduceEqDiff, Nat.reduceAdd]
        refine ACallL.quiet1 c1 rfl rfl rfl ?_
        simp only [go_sem, Nat.reduceEqDiff, Nat.reduceAdd]
        refine ACallL.quiet1 c2 rfl rfl rfl ?_
        simp only [go_sem, Nat.reduceEqDiff, Nat.reduceAdd]
        refine ACallL.of u1 ?_
        rintro o σ ⟨rfl, rfl⟩
        simp only [go_sem, Nat.reduceEqDiff, Nat.reduceAdd]
        refine ACallL.fresh1 u2 rfl ?_
        simp only [go_sem, Nat.reduceEqDiff, Nat.reduceAdd]
        refine ACallL.quiet1 k1 rfl rfl rfl ?_
        simp only [go_sem, Nat.reduceEqDiff, Nat.reduceAdd]
        refine ACallL.quiet1 k2 rfl rfl rfl ?_
        subst hRS
        unfold rowI
        unfold rowI at hfin
        simp only [go_sem, Nat.reduceEqDiff, Int.reduceLT, decide_false, beq_self_eq_true, bne_self_eq_false, List.length_map, hsl, hsx]
        refine ACallL.quiet1 hr0 rfl rfl rfl ?_
        simp only [go_sem, Nat.reduceEqDiff, beq_self_eq_true]
        refine ACallL.quiet1 hr0 rfl rfl rfl ?_
        simp only [go_sem, Nat.reduceEqDiff, beq_self_eq_true, bne_self_eq_false]
        exact hfin _ rfl rfl rfl rfl rfl rfl rfl rfl rfl
  clear p1 p3 p4 p5
  have hC4 : ∀ q, q < w.fs.length → ((whoseL w.fits).getD q 0) < 64 ∨ waysN w.fits = 0 := fun q hq => by
    by_cases hz : waysN w.fits = 0
    · exact .inr hz
    · refine .inl ?_
      have hs := whose_small w.fits hz
      rw [List.getD_eq_getElem?_getD, List.getElem?_eq_getElem (by rw [hs.1]; omega)]
      exact hs.2 _ (List.getElem_mem _)
  have hWb : ∀ q, q < w.fs.length → ∀ i, ((whoseL w.fits).getD q 0).testBit i = true → i < w.os.length := fun q hq => whose_below hbel (by omega)
  have hWx : ∀ q, q < w.fs.length → (whoseL (tuW w).fits).getD (w.fs.length - 1 - q) 0 = revB w.os.length ((whoseL w.fits).getD q 0) := fun q hq => by
    rw [hft, whose_turn hn5 hbel (by omega) (by omega), hlf, show w.fs.length - 1 - (w.fs.length - 1 - q) = q by omega]
  rintro ⟨env, σ, df, dk⟩ ⟨p1, p3, p4, p5, p12, p13, p19, hT, hdf, hk⟩
  simp only at p1 p3 p4 p5 p12 p13 p19 hdf hk
  subst hdf hk
  refine awpL_chop 1 (c1 := ?e1) (c2 := ?e2) (fun st => lk st.env 1 = .t (.ptr (tWa w) 0) ∧ lk st.env 3 = .t (vi w.os.length) ∧ lk st.env 4 = .t (vi w.fs.length) ∧ lk st.env 5 = .t (.ptr (tWa (tuW w)) 0) ∧ lk st.env 12 = .t (.slice 4 (w.os.map tOw)) ∧ lk st.env 13 = .t (.slice 5 (w.fs.map tFi)) ∧ lk st.env 18 = .loc 0 (tolL w).length ∧ lk st.env 19 = .t (vi (tolE w)) ∧ st.σ = [rowI (tolL w)] ∧ st.df = [] ∧ st.k = 0) ?hc4 ?_ ?_
  case hc4 => simp only [chop]; rfl
  · generalize tWa w = WW at *
    generalize tWa (tuW w) = XX at *
    rcases hT with ⟨hz, p18, p20, hσ⟩ | ⟨hz, p18, p20, hσ⟩
    · simp only at p18 p20 hσ
      subst hσ
      have e1 : tolL w = [] := by unfold tolL; rw [if_pos hz]
      have e2 : tolE w = 10 := by unfold tolE; rw [if_pos hz]
      rw [e1, e2]
      rw [e2] at p19
      simp only [go_sem, p18, List.length_nil]
      refine awpL_loopK 0 (fun j s => s = { env := [(225, .t (vi j)), (1, .t (.ptr WW 0)), (3, .t (vi w.os.length)), (4, .t (vi w.fs.length)), (5, .t (.ptr XX 0)), (12, .t (.slice 4 (w.os.map tOw))), (13, .t (.slice 5 (w.fs.map tFi))), (18, .loc 0 0), (19, .t (vi 10)), (20, .t (.lit (.slice none 0 0))), (224, .t (vi 0))], σ := [rowI []] })
        ⟨_, (Sub.ghost 18 1 (by decide) (by simp only [go_sem, Nat.reduceEqDiff, p18])).trans (Sub.gc [0] [225, 1, 3, 4, 5, 12, 13, 18, 19, 20, 224] rfl rfl), ?_⟩ ?_
      · exact St.gc_mk (by simp only [List.map_cons, List.map_nil, lk, Nat.reduceEqDiff, reduceIte, p1, p3, p4, p5, p12, p13, p18, p19, p20]; rfl) rfl rfl rfl
      rintro j s hj rfl
      obtain rfl : j = 0 := by omega
      simp only [go_sem, Nat.reduceEqDiff, Int.reduceLT, decide_false]
    · simp only at p18 p20 hσ
      subst hσ
      have e1 : tolL w = sureL w := by unfold tolL; rw [if_neg hz]
      have e2 : tolE w = 0 := by unfold tolE; rw [if_neg hz]
      have hsl : (sureL w).length = w.fs.length := by unfold sureL; simp
      have hsx : (sureL (tuW w)).length = w.fs.length := by unfold sureL; rw [List.length_map, List.length_range, htf]
      have hat : ∀ q, q < w.fs.length → ∃ c d : Int, (sureL w)[q]? = some c ∧ (sureL (tuW w))[w.fs.length - 1 - q]? = some d ∧ -1 ≤ c ∧ c < w.os.length ∧ d = if c < 0 then -1 else (w.os.length : Int) - 1 - c := fun q hq => by
        have h64 : ((whoseL w.fits).getD q 0) < 64 := by
          rcases hC4 q hq with h | h
          · exact h
          · exact absurd h hz
        have hl := sole_lt h64 (hWb q hq)
        refine ⟨soleI ((whoseL w.fits).getD q 0), soleI (revB w.os.length ((whoseL w.fits).getD q 0)), ?_, ?_, hl.1, hl.2, sole_turn hn5 h64 (hWb q hq)⟩
        · unfold sureL
          rw [List.getElem?_map, List.getElem?_range hq]; rfl
        · unfold sureL
          rw [List.getElem?_map, List.getElem?_range (by rw [htf]; omega), Option.map_some, hWx q hq]
      rw [e1, e2]
      rw [e2] at p19
      unfold tI at p20
      generalize sureL w = S at *
      generalize sureL (tuW w) = D at *
      rw [hsl]
      have hS : (S.map vi).length = w.fs.length := by rw [List.length_map, hsl]
      simp only [go_sem, p18, List.length_map, hsl]
      refine awpL_loopK w.fs.length (fun j s => s = { env := [(225, .t (vi j)), (1, .t (.ptr WW 0)), (3, .t (vi w.os.length)), (4, .t (vi w.fs.length)), (5, .t (.ptr XX 0)), (12, .t (.slice 4 (w.os.map tOw))), (13, .t (.slice 5 (w.fs.map tFi))), (18, .loc 0 w.fs.length), (19, .t (vi 0)), (20, .t (.slice 1 (D.map vi))), (224, .t (vi w.fs.length))], σ := [rowI S] })
        ⟨_, Sub.gc [0] [225, 1, 3, 4, 5, 12, 13, 18, 19, 20, 224] rfl rfl, ?_⟩ ?_
      · exact St.gc_mk (by simp only [List.map_cons, List.map_nil, lk, Nat.reduceEqDiff, reduceIte, p1, p3, p4, p5, p12, p13, p18, p19, p20]; rfl) (by unfold σgc rowI; simp only [List.map_cons, List.map_nil, List.getD_cons_zero, AO.gc, gc_row]) rfl rfl
      rintro j s hj rfl
      have hj0 : ((j : Int) < 0) = False := eq_false (by omega)
      cases g : decide ((j : Int) < w.fs.length)
      · simp only [go_sem, Nat.reduceEqDiff, g]
      have hjl : j < w.fs.length := by have := of_decide_eq_true g; omega
      obtain ⟨c, d, hc, hd, c1, c2, hcd⟩ := hat j hjl
      have wn1 : IntKind.i64.wrap ((w.fs.length : Int) - 1) = ((w.fs.length - 1 : Nat) : Int) := by rw [wrap_id (by omega) (by omega)]; omega
      have wn2 : IntKind.i64.wrap (((w.fs.length - 1 : Nat) : Int) - (j : Int)) = ((w.fs.length - 1 - j : Nat) : Int) := by rw [wrap_id (by omega) (by omega)]; omega
      have hd0 : (((w.fs.length - 1 - j : Nat) : Int) < 0) = False := eq_false (by omega)
      have hw1 : IntKind.i64.wrap ((j : Int) + 1) = ((j + 1 : Nat) : Int) := by rw [wrap_id (by omega) (by omega)]; omega
      have hjj : ((j : Int) < (w.fs.length : Int)) = True := eq_true (by omega)
      unfold rowI
      by_cases hc0 : c < 0
      · rw [if_pos hc0] at hcd
        subst hcd
        have g1 : decide (c < 0) = true := decide_eq_true hc0
        have g2 : decide (c ≥ 0) = false := decide_eq_false (by omega)
        simp only [go_sem, Nat.reduceEqDiff, Int.reduceLT, Bool.not_true, Int.reduceNeg, decide_true, undef, beq_self_eq_true, hjj, List.length_map, hsl, hsx, wn1, wn2, List.getElem?_map, hc, hd, Option.map_some, g1, g2, hw1]
        exact ⟨hjl, _, Sub.gc [0] [225, 1, 3, 4, 5, 12, 13, 18, 19, 20, 224] rfl rfl, St.gc_mk rfl (by unfold σgc; simp only [List.map_cons, List.map_nil, List.getD_cons_zero, AO.gc, gc_row]) rfl rfl⟩
      · rw [if_neg hc0] at hcd
        have g1 : decide (c < 0) = false := decide_eq_false hc0
        have g2 : decide (c ≥ 0) = true := decide_eq_true (by omega)
        have g3 : decide (d < 0) = false := decide_eq_false (by omega)
        have w3 : IntKind.i64.wrap ((w.os.length : Int) - 1) = (w.os.length : Int) - 1 := wrap_id (by omega) (by omega)
        have w4 : IntKind.i64.wrap ((w.os.length : Int) - 1 - d) = c := by rw [wrap_id (by omega) (by omega)]; omega
        simp only [go_sem, Nat.reduceEqDiff, Bool.not_true, decide_true, beq_self_eq_true, bne_self_eq_false, hjj, List.length_map, hsl, hsx, wn1, wn2, List.getElem?_map, hc, hd, Option.map_some, g1, g2, g3, w3, w4, hw1]
        exact ⟨hjl, _, Sub.gc [0] [225, 1, 3, 4, 5, 12, 13, 18, 19, 20, 224] rfl rfl, St.gc_mk rfl (by unfold σgc; simp only [List.map_cons, List.map_nil, List.getD_cons_zero, AO.gc, gc_row]) rfl rfl⟩
  clear hT p1 p3 p4 p5 p12 p13 p19 env
  rintro ⟨env, σ, df, dk⟩ ⟨p1, p3, p4, p5, p12, p13, p18, p19, hσ, hdf, hk⟩
  simp only at p1 p3 p4 p5 p12 p13 p18 p19 hσ hdf hk
  subst hσ hdf hk
  refine awpL_chop 3 (c1 := ?f1) (c2 := ?f2) (fun st => lk st.env 1 = .t (.ptr (tWa w) 0) ∧ lk st.env 18 = .loc 0 (tolL w).length ∧ lk st.env 19 = .t (vi (tolE w)) ∧ st.σ = [rowI (tolL w)] ∧ st.df = [] ∧ st.k = 0) ?hc5 ?_ ?_
  case hc5 => simp only [chop]; rfl
  · have wn1 : IntKind.i64.wrap ((w.os.length : Int) - 1) = ((w.os.length - 1 : Nat) : Int) ∨ w.os.length = 0 := by
      by_cases h : w.os.length = 0
      · exact .inr h
      · exact .inl (by rw [wrap_id (by omega) (by omega)]; omega)
    have hcan : ∀ q, q < w.fs.length → ∃ C : Nat, C < 64 ∧ (∀ i, C.testBit i = true → i < w.os.length) ∧ specCan w q = ((C : Int), tolE w) ∧ specCan (tuW w) ((w.fs.length - 1 - q : Nat) : Int) = (((revB w.os.length C : Nat) : Int), tolE w) := fun q hq => by
      rw [specCan_at hok hq, specCan_at hxok (show w.fs.length - 1 - q < (tuW w).fs.length by omega), hways]
      unfold tolE
      by_cases hz : waysN w.fits = 0
      · have r0 : revB w.os.length 0 = 0 := by
          apply Nat.eq_of_testBit_eq
          intro i
          rw [revB_bit]; simp
        exact ⟨0, by omega, by simp, by rw [if_pos hz, if_pos hz]; rfl, by rw [if_pos hz, if_pos hz, r0]; rfl⟩
      · have h64 : ((whoseL w.fits).getD q 0) < 64 := by
          rcases hC4 q hq with h | h
          · exact h
          · exact absurd h hz
        exact ⟨_, h64, hWb q hq, by rw [if_neg hz, if_neg hz], by rw [if_neg hz, if_neg hz, hWx q hq]⟩
    have hfit : ∀ q, q < w.fs.length → ∃ C : Nat, C < 64 ∧ (∀ i, C.testBit i = true → i < w.os.length) ∧ specFits w q = ((C : Int), 0) ∧ specFits (tuW w) ((w.fs.length - 1 - q : Nat) : Int) = (((revB w.os.length C : Nat) : Int), 0) := fun q hq => by
      obtain ⟨-, fs2⟩ := fits_small hw
      refine ⟨w.fits.getD q 0, ?_, fun i hi => hbel.at hi, ?_, ?_⟩
      · rw [List.getD_eq_getElem?_getD, List.getElem?_eq_getElem (by omega)]
        exact fs2 _ (List.getElem_mem _)
      · unfold specFits
        rw [hok, if_pos rfl, isF_at hq, if_pos rfl, Int.toNat_natCast]
      · unfold specFits
        rw [hxok, if_pos rfl, isF_at (show w.fs.length - 1 - q < (tuW w).fs.length by omega), if_pos rfl, Int.toNat_natCast, hft, turnL_get (by omega), hlf, show w.fs.length - 1 - (w.fs.length - 1 - q) = q by omega]
    have hwhe : ∀ q, q < w.os.length → ∃ (a b : Int) (n : Bool), specWhere w q = (a, n, tolE w) ∧ specWhere (tuW w) ((w.os.length - 1 - q : Nat) : Int) = (b, n, tolE w) := fun q hq => by
      rw [specWhere_at hok hq, specWhere_at hxok (show w.os.length - 1 - q < (tuW w).os.length by omega), hways]
      unfold tolE
      by_cases hz : waysN w.fits = 0
      · exact ⟨0, 0, false, by rw [if_pos hz, if_pos hz], by rw [if_pos hz, if_pos hz]⟩
      · rw [if_neg hz, if_neg hz, if_neg hz, hft, less_turn hq, ways_turn hn5 (less_below hbel q)]
        exact ⟨_, _, _, rfl, rfl⟩
    have qC := fun i : Nat => Can_ok w (i : Int) hL
    have qCx := fun i : Nat => Can_ok (tuW w) (i : Int) hLx
    have qF := fun i : Nat => Fits_ok w (i : Int) hL
    have qFx := fun i : Nat => Fits_ok (tuW w) (i : Int) hLx
    have qW := fun i : Nat => Where_ok w (i : Int) hL
    have qWx := fun i : Nat => Where_ok (tuW w) (i : Int) hLx
    generalize tolE w = E at *
    generalize hTL : tolL w = TL at *
    have hrT : ∀ kp : List Nat, True := fun _ => trivial
    generalize tuW w = x at *
    unfold rowI
    unfold tWa wa2 at p1 p5 qC qCx qF qFx qW qWx ⊢
    simp only [go_sem, Nat.reduceEqDiff, Nat.reduceAdd, p1, List.length_map]
    refine awpL_loopK w.fs.length (fun j s => s = { env := [(266, .t (vi j)), (1, .t (.ptr (.agg [.slice 4 (w.os.map tOw), .slice 5 (w.fs.map tFi)]) 0)), (3, .t (vi w.os.length)), (4, .t (vi w.fs.length)), (5, .t (.ptr (.agg [.slice 4 (x.os.map tOw), .slice 5 (x.fs.map tFi)]) 0)), (12, .t (.slice 4 (w.os.map tOw))), (13, .t (.slice 5 (w.fs.map tFi))), (18, .loc 0 TL.length), (19, .t (vi E)), (265, .t (vi w.fs.length))], σ := [.row 1 ((TL.map vi).map .t)] })
      ⟨_, Sub.gc [0] [266, 1, 3, 4, 5, 12, 13, 18, 19, 265] rfl rfl, ?_⟩ ?_
    · exact St.gc_mk (by simp only [List.map_cons, List.map_nil, lk, Nat.reduceEqDiff, reduceIte, p1, p3, p4, p5, p12, p13, p18, p19]; rfl) (by unfold σgc; simp only [List.map_cons, List.map_nil, List.getD_cons_zero, AO.gc, gc_row]) rfl rfl
    clear p1 p3 p4 p5 p12 p13 p18 p19 env
    rintro j s hj rfl
    have hj0 : ((j : Int) < 0) = False := eq_false (by omega)
    cases g : decide ((j : Int) < w.fs.length)
    rotate_left
    · have hjl : j < w.fs.length := by have := of_decide_eq_true g; omega
      obtain ⟨C, hC, hCb, hC1, hC2⟩ := hcan j hjl
      obtain ⟨F, hF, hFb, hF1, hF2⟩ := hfit j hjl
      have c1 := qC j
      have c2 := qCx (w.fs.length - 1 - j)
      have f1 := qF j
      have f2 := qFx (w.fs.length - 1 - j)
      rw [hC1] at c1
      rw [hC2] at c2
      rw [hF1] at f1
      rw [hF2] at f2
      simp only [oneE] at c1 c2 f1 f2
      have v1 : IntKind.i64.wrap ((w.fs.length : Int) - 1) = ((w.fs.length - 1 : Nat) : Int) := by rw [wrap_id (by omega) (by omega)]; omega
      have v2 : IntKind.i64.wrap (((w.fs.length - 1 : Nat) : Int) - (j : Int)) = ((w.fs.length - 1 - j : Nat) : Int) := by rw [wrap_id (by omega) (by omega)]; omega
      have hw1 : IntKind.i64.wrap ((j : Int) + 1) = ((j + 1 : Nat) : Int) := by rw [wrap_id (by omega) (by omega)]; omega
      have hEE : ∀ a : Int, (a != a) = false := fun a => by simp
      generalize w.fs.length - 1 - j = d at *
      generalize w.fs.length - 1 = d1 at *
      simp only [go_sem, Nat.reduceEqDiff, Nat.reduceAdd, g]
      refine ACallL.quiet1 c1 rfl rfl rfl ?_
      simp only [go_sem, Nat.reduceEqDiff, Nat.reduceAdd, v1, v2]
      refine ACallL.quiet1 c2 rfl rfl rfl ?_
      simp only [go_sem, Nat.reduceEqDiff, Nat.reduceAdd]
      refine ACallL.quiet1 f1 rfl rfl rfl ?_
      simp only [go_sem, Nat.reduceEqDiff, Nat.reduceAdd, v1, v2]
      refine ACallL.quiet1 f2 rfl rfl rfl ?_
      simp only [go_sem, Nat.reduceEqDiff, beq_self_eq_true, bne_self_eq_false]
      refine awpL_loopK w.os.length (fun k s => s = { env := [(308, .t (vi k)), (1, .t (.ptr (.agg [.slice 4 (w.os.map tOw), .slice 5 (w.fs.map tFi)]) 0)), (3, .t (vi w.os.length)), (4, .t (vi w.fs.length)), (5, .t (.ptr (.agg [.slice 4 (x.os.map tOw), .slice 5 (x.fs.map tFi)]) 0)), (12, .t (.slice 4 (w.os.map tOw))), (13, .t (.slice 5 (w.fs.map tFi))), (18, .loc 0 TL.length), (19, .t (vi E)), (30, .t (vi C)), (32, .t (vi (revB w.os.length C : Nat))), (34, .t (vi F)), (36, .t (vi (revB w.os.length F : Nat))), (265, .t (vi w.fs.length)), (266, .t (vi j)), (307, .t (vi w.os.length))], σ := [.row 1 ((TL.map vi).map .t)] })
        ⟨_, Sub.gc [0] [308, 1, 3, 4, 5, 12, 13, 18, 19, 30, 32, 34, 36, 265, 266, 307] rfl rfl, ?_⟩ ?_
      · exact St.gc_mk rfl (by unfold σgc; simp only [List.map_cons, List.map_nil, List.getD_cons_zero, AO.gc, gc_row]) rfl rfl
      rintro k s hk rfl
      have hk0 : ((k : Int) < 0) = False := eq_false (by omega)
      cases g2 : decide ((k : Int) < w.os.length)
      · simp only [go_sem, Nat.reduceEqDiff, g2, hw1]
        exact ⟨hjl, _, Sub.gc [0] [266, 1, 3, 4, 5, 12, 13, 18, 19, 265] rfl rfl, St.gc_mk rfl (by unfold σgc; simp only [List.map_cons, List.map_nil, List.getD_cons_zero, AO.gc, gc_row]) rfl rfl⟩
      have hkl : k < w.os.length := by have := of_decide_eq_true g2; omega
      have u1 : IntKind.i64.wrap ((w.os.length : Int) - 1) = ((w.os.length - 1 : Nat) : Int) := by rw [wrap_id (by omega) (by omega)]; omega
      have u2 : IntKind.i64.wrap (((w.os.length - 1 : Nat) : Int) - (k : Int)) = ((w.os.length - 1 - k : Nat) : Int) := by rw [wrap_id (by omega) (by omega)]; omega
      have u0 : (((w.os.length - 1 - k : Nat) : Int) < 0) = False := eq_false (by omega)
      have hw2 : IntKind.i64.wrap ((k : Int) + 1) = ((k + 1 : Nat) : Int) := by rw [wrap_id (by omega) (by omega)]; omega
      have hp : 2 ^ w.os.length ≤ 2 ^ 5 := Nat.pow_le_pow_right (by omega) hn5
      have lt1 := revB_lt w.os.length C
      have lt2 := revB_lt w.os.length F
      have b1 := bit_val (a := C) (i := k) (by omega)
      have b2 := bit_val (a := revB w.os.length C) (i := w.os.length - 1 - k) (by omega)
      have b3 := bit_val (a := F) (i := k) (by omega)
      have b4 := bit_val (a := revB w.os.length F) (i := w.os.length - 1 - k) (by omega)
      rw [revB_bit, decide_eq_true (show w.os.length - 1 - k < w.os.length by omega), Bool.true_and, show w.os.length - 1 - (w.os.length - 1 - k) = k by omega] at b2 b4
      generalize revB w.os.length C = C' at *
      generalize revB w.os.length F = F' at *
      generalize w.os.length - 1 - k = e at *
      generalize w.os.length - 1 = e1 at *
      generalize (C.testBit k).toNat = B1 at *
      generalize (F.testBit k).toNat = B2 at *
      simp only [go_sem, Nat.reduceEqDiff, beq_self_eq_true, bne_self_eq_false, g2, hk0, u1, u2, u0, IntKind.bits, b1, b2, b3, b4, hw2]
      exact ⟨hkl, _, Sub.gc [0] [308, 1, 3, 4, 5, 12, 13, 18, 19, 30, 32, 34, 36, 265, 266, 307] rfl rfl, St.gc_mk rfl (by unfold σgc; simp only [List.map_cons, List.map_nil, List.getD_cons_zero, AO.gc, gc_row]) rfl rfl⟩
    simp only [go_sem, Nat.reduceEqDiff, g, List.length_map]
    refine awpL_loopK w.os.length (fun j s => s = { env := [(342, .t (vi j)), (1, .t (.ptr (.agg [.slice 4 (w.os.map tOw), .slice 5 (w.fs.map tFi)]) 0)), (3, .t (vi w.os.length)), (5, .t (.ptr (.agg [.slice 4 (x.os.map tOw), .slice 5 (x.fs.map tFi)]) 0)), (12, .t (.slice 4 (w.os.map tOw))), (13, .t (.slice 5 (w.fs.map tFi))), (18, .loc 0 TL.length), (19, .t (vi E)), (341, .t (vi w.os.length))], σ := [.row 1 ((TL.map vi).map .t)] })
      ⟨_, Sub.gc [0] [342, 1, 3, 5, 12, 13, 18, 19, 341] rfl rfl, ?_⟩ ?_
    · exact St.gc_mk rfl (by unfold σgc; simp only [List.map_cons, List.map_nil, List.getD_cons_zero, AO.gc, gc_row]) rfl rfl
    clear g hj0 hj j
    rintro j s hj rfl
    have hj0 : ((j : Int) < 0) = False := eq_false (by omega)
    cases g : decide ((j : Int) < w.os.length)
    rotate_left
    · have hjl : j < w.os.length := by have := of_decide_eq_true g; omega
      obtain ⟨a, b, n, hw1, hw2⟩ := hwhe j hjl
      have c1 := qW j
      have c2 := qWx (w.os.length - 1 - j)
      rw [hw1] at c1
      rw [hw2] at c2
      simp only [whrE] at c1 c2
      have v1 : IntKind.i64.wrap ((w.os.length : Int) - 1) = ((w.os.length - 1 : Nat) : Int) := by rw [wrap_id (by omega) (by omega)]; omega
      have v2 : IntKind.i64.wrap (((w.os.length - 1 : Nat) : Int) - (j : Int)) = ((w.os.length - 1 - j : Nat) : Int) := by rw [wrap_id (by omega) (by omega)]; omega
      have hwj : IntKind.i64.wrap ((j : Int) + 1) = ((j + 1 : Nat) : Int) := by rw [wrap_id (by omega) (by omega)]; omega
      have hEE : ∀ a : Int, (a != a) = false := fun a => by simp
      have hxj : w.os[j]? = some w.os[j] := List.getElem?_eq_getElem hjl
      generalize w.os[j] = o at *
      have hto : tOw o = .agg [vi o.set_, vi o.lo, vi o.hi, vi o.huts] := rfl
      generalize w.os.length - 1 - j = d at *
      generalize w.os.length - 1 = d1 at *
      simp only [go_sem, Nat.reduceEqDiff, Nat.reduceAdd, g]
      refine ACallL.quiet1 c1 rfl rfl rfl ?_
      simp only [go_sem, Nat.reduceEqDiff, Nat.reduceAdd, v1, v2]
      refine ACallL.quiet1 c2 rfl rfl rfl ?_
      cases n
      · simp only [go_sem, Nat.reduceEqDiff, Nat.reduceAdd, Bool.not_true, beq_self_eq_true, bne_self_eq_false, List.getElem?_map, hxj, Option.map_some, hto, toKey4O, kEq4O, hwj]
        exact ⟨hjl, _, Sub.gc [0] [342, 1, 3, 5, 12, 13, 18, 19, 341] rfl rfl, St.gc_mk rfl (by unfold σgc; simp only [List.map_cons, List.map_nil, List.getD_cons_zero, AO.gc, gc_row]) rfl rfl⟩
      · simp only [go_sem, Nat.reduceEqDiff, Nat.reduceAdd, Bool.not_true, beq_self_eq_true, bne_self_eq_false, List.getElem?_map, hxj, Option.map_some, hto, toKey4O, kEq4O, hwj]
        exact ⟨hjl, _, Sub.gc [0] [342, 1, 3, 5, 12, 13, 18, 19, 341] rfl rfl, St.gc_mk rfl (by unfold σgc; simp only [List.map_cons, List.map_nil, List.getD_cons_zero, AO.gc, gc_row]) rfl rfl⟩
    simp only [go_sem, Nat.reduceEqDiff, g, List.length_map]
    refine awpL_loopK w.fs.length (fun j s => s = { env := [(385, .t (vi j)), (1, .t (.ptr (.agg [.slice 4 (w.os.map tOw), .slice 5 (w.fs.map tFi)]) 0)), (13, .t (.slice 5 (w.fs.map tFi))), (18, .loc 0 TL.length), (19, .t (vi E)), (384, .t (vi w.fs.length))], σ := [.row 1 ((TL.map vi).map .t)] })
      ⟨_, Sub.gc [0] [385, 1, 13, 18, 19, 384] rfl rfl, ?_⟩ ?_
    · exact St.gc_mk rfl (by unfold σgc; simp only [List.map_cons, List.map_nil, List.getD_cons_zero, AO.gc, gc_row]) rfl rfl
    clear g hj0 hj j
    rintro j s hj rfl
    have hj0 : ((j : Int) < 0) = False := eq_false (by omega)
    cases g : decide ((j : Int) < w.fs.length)
    · simp only [go_sem, Nat.reduceEqDiff, g]
    have hjl : j < w.fs.length := by have := of_decide_eq_true g; omega
    have hwj : IntKind.i64.wrap ((j : Int) + 1) = ((j + 1 : Nat) : Int) := by rw [wrap_id (by omega) (by omega)]; omega
    have hxj : w.fs[j]? = some w.fs[j] := List.getElem?_eq_getElem hjl
    generalize w.fs[j] = f at *
    have hto : tFi f = .agg [vi f.hut, vi f.minute, vi f.lo, vi f.hi, vb f.stopped] := rfl
    simp only [go_sem, Nat.reduceEqDiff, Nat.reduceAdd, Bool.not_true, g, List.getElem?_map, hxj, Option.map_some, hto, toKey5F, kEq5F, hwj]
    exact ⟨hjl, _, Sub.gc [0] [385, 1, 13, 18, 19, 384] rfl rfl, St.gc_mk rfl (by unfold σgc; simp only [List.map_cons, List.map_nil, List.getD_cons_zero, AO.gc, gc_row]) rfl rfl⟩
  clear p1 p3 p4 p5 p12 p13 p18 p19 env
  rintro ⟨env, σ, df, dk⟩ ⟨p1, p18, p19, hσ, hdf, hk⟩
  simp only at p1 p18 p19 hσ hdf hk
  subst hσ hdf hk
  have hT5 : (tolL w).length ≤ 4 := by
    unfold tolL
    split
    · simp
    · unfold sureL; simp; omega
  have us := Sure_ok w hL
  have hsp : specSure w = (tolL w, tolE w) := by
    unfold tolL tolE
    rw [specSure_at hok]
    split <;> rfl
  rw [hsp] at us
  have hts : lsE (tolL w) (tolE w) = .ret (.tup [.t (if waysN w.fits = 0 then .lit (.slice none 0 0) else .slice 1 ((tolL w).map vi)), .t (vi (tolE w))]) := by
    unfold lsE tolE
    by_cases hz : waysN w.fits = 0
    · rw [if_pos hz, if_pos hz, if_neg (by decide)]
    · rw [if_neg hz, if_neg hz, if_pos rfl]
  simp only at us
  rw [hts] at us
  have hints : ACall Tryd.prog 21 [.t (if waysN w.fits = 0 then .lit (.slice none 0 0) else .slice 1 ((tolL w).map vi)), .t (.slice 1 ((tolL w).map vi))] [] (ret (vb true)) := by
    by_cases hz : waysN w.fits = 0
    · have e1 : tolL w = [] := by unfold tolL; rw [if_pos hz]
      rw [if_pos hz, e1]
      exact intsN_ok
    · rw [if_neg hz]
      have := ints_ok (tolL w) (tolL w) (by omega)
      rw [decide_eq_true rfl] at this
      exact this
  generalize (if waysN w.fits = 0 then T.lit (.slice none 0 0) else .slice 1 ((tolL w).map vi)) = RT at *
  generalize tolE w = E at *
  generalize tolL w = TL at *
  have x1 : (TL.length ≤ maxLen) = True := eq_true (by unfold maxLen; omega)
  have x2 : (TL.length * 8 ≤ 140737488355328) = True := eq_true (by omega)
  unfold rowI
  unfold tWa wa2 at p1 us
  simp only [go_sem, Nat.reduceEqDiff, p18, List.length_map, x1, x2]
  refine awpL_loopK TL.length (fun j s => ∃ X : List Int, X.length = TL.length ∧ s = { env := [(404, .t (vi j)), (1, .t (.ptr (.agg [.slice 4 (w.os.map tOw), .slice 5 (w.fs.map tFi)]) 0)), (18, .loc 0 TL.length), (19, .t (vi E)), (47, .loc 1 TL.length), (403, .t (vi TL.length))], σ := [.row 1 ((X.map vi).map .t), .row 1 ((TL.map vi).map .t)] })
    ⟨_, Sub.gc [0, 1] [404, 1, 18, 19, 47, 403] rfl rfl, TL, rfl, ?_⟩ ?_
  · exact St.gc_mk (by simp only [List.map_cons, List.map_nil, lk, Nat.reduceEqDiff, reduceIte, p1, p18, p19]; rfl) (by unfold σgc; simp only [List.map_cons, List.map_nil, List.getD_cons_zero, List.getD_cons_succ, AO.gc, gc_row]) rfl rfl
  clear p1 p18 p19 env
  rintro j s hj ⟨X, hX, rfl⟩
  have hj0 : ((j : Int) < 0) = False := eq_false (by omega)
  cases g : decide ((j : Int) < TL.length)
  · have hEE : (E == E) = true := beq_self_eq_true E
    simp only [go_sem, Nat.reduceEqDiff, Nat.reduceAdd, g]
    refine ACallL.fresh1 us rfl ?_
    simp only [go_sem, Nat.reduceEqDiff, beq_self_eq_true]
    refine ACallL.quiet1 hints rfl (by
      simp only [List.map_cons, List.map_nil]
      rw [gc_loc (n := 10) (id := 1) (xs := TL.map vi) rfl rfl (by simp)]
      rfl) rfl ?_
    simp only [go_sem, Nat.reduceEqDiff, beq_self_eq_true]
    refine ACallL.quiet1 alive_ok rfl rfl rfl ?_
    simp only [go_sem, Nat.reduceEqDiff]
    exact finL_ret [] ⟨rfl, rfl, rfl, rfl, _, rfl, res_mk rfl⟩
  have hjl : j < TL.length := by have := of_decide_eq_true g; omega
  have hjj : ((j : Int) < (TL.length : Int)) = True := eq_true (by omega)
  have hwj : IntKind.i64.wrap ((j : Int) + 1) = ((j + 1 : Nat) : Int) := by rw [wrap_id (by omega) (by omega)]; omega
  have hXj : X[j]? = some X[j] := List.getElem?_eq_getElem (by omega)
  have hset : ((X.map vi).map Ab.E.t).set j (Ab.E.t (vi (-9))) = ((X.set j (-9)).map vi).map Ab.E.t := by rw [List.map_set, List.map_set]
  generalize X[j] = xj at *
  simp only [go_sem, Nat.reduceEqDiff, Bool.not_false, Int.reduceNeg, decide_true, undef, hjj, List.length_map, hX, List.getElem?_map, hXj, Option.map_some, hset, hwj]
  exact ⟨hjl, _, Sub.gc [0, 1] [404, 1, 18, 19, 47, 403] rfl rfl, X.set j (-9), by simp [hX], St.gc_mk rfl (by unfold σgc; simp only [List.map_cons, List.map_nil, List.getD_cons_zero, List.getD_cons_succ, AO.gc, gc_row]) rfl rfl⟩
end Go.Proofs.YtnmmhkkmejbckaaDoor
