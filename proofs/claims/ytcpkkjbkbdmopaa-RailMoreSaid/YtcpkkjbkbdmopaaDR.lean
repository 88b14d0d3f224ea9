/- Proved here: laws that the statements need (RaC310, RaS9). No conditions but those that each law states. -/
import Derived.Test.YtcpkkjbkbdmopaaFL
import Derived.Test.YtcpkkjbkbdmopaaFP
import Derived.Test.YtcpkkjbkbdmopaaProg
import Derived.Test.YtcpkkjbkbdmopaaDQ

set_option linter.unusedSimpArgs false
set_option linter.unusedVariables false

/- Compiled code of functions, printed by program; each is checked to be the program's. No conditions. -/
namespace Go.Proofs.Ytcpkkjbkbdmopaa
open Go Go.Ab
/-- dipworks/dipworkslaw11.RailMore -/
def c10 : AC :=
 .seq (.reg [⟨(some 5), none, .box (.tmp 0)⟩,
 ⟨(some 10), none, .mov (.lit (.bool false))⟩])
 (.seq (.seq (.reg [⟨(some 42), none, .load true 10 (.tmp 5)⟩,
 ⟨(some 43), none, .call (.fn 37) [(.tmp 42)]⟩,
 ⟨(some 44), none, .mov (.tmp 43)⟩,
 ⟨(some 45), (some (44, false)), .load true 10 (.tmp 5)⟩,
 ⟨(some 46), (some (44, false)), .call (.fn 12) [(.tmp 45)]⟩,
 ⟨(some 47), (some (44, false)), .un .not (.tmp 46)⟩,
 ⟨(some 48), none, .pick (.tmp 44) (.lit (.bool true)) (.tmp 47)⟩])
 (.cond (.tmp 48) (.seq (.reg [⟨(some 49), none, .call (.fn 24) []⟩,
 ⟨(some 10), none, .mov (.tmp 49)⟩])
 (.ret))
 (.skip)))
 (.seq (.draw (.step ⟨(some 50), none, .mov (.tmp 3)⟩ (
 .step ⟨(some 51), none, .conv .i64 (.tmp 50)⟩ (
 .step ⟨(some 52), none, .faddr 4 (.tmp 5)⟩ (
 .step ⟨(some 53), none, .load false 1 (.tmp 52)⟩ (
 .step ⟨(some 54), none, .bin .add (.tmp 53) (.lit (.int .i64 1))⟩ (
 .step ⟨(some 55), none, .bin .rem (.tmp 51) (.tmp 54)⟩ (
 .step ⟨(some 56), none, .mov (.tmp 4)⟩ (
 .step ⟨(some 57), none, .conv .i64 (.tmp 56)⟩ (
 .step ⟨(some 58), none, .bin .rem (.tmp 57) (.lit (.int .i64 61))⟩ (
 .step ⟨(some 59), none, .faddr 8 (.tmp 5)⟩ (
 .step ⟨(some 60), none, .load false 1 (.tmp 59)⟩ (
 .step ⟨(some 61), none, .len (.tmp 60)⟩ (
 .step ⟨(some 11), none, .mov (.tmp 55)⟩ (
 .step ⟨(some 12), none, .mov (.tmp 58)⟩ (
 .step ⟨(some 13), none, .mov (.tmp 61)⟩ (
 .done)))))))))))))))))
 (.seq (.draw (.step ⟨(some 62), none, .load true 10 (.tmp 5)⟩ (
 .step ⟨(some 63), none, .load true 10 (.tmp 5)⟩ (
 .ev ⟨(some 14), none, .alloc [(.slice none 0 0), (.slice none 0 0), (.slice none 0 0), (.int .i64 0), (.int .i64 0), (.int .i64 0), (.int .i64 0), (.int .i64 0), (.slice none 0 0), (.int .i64 0)]⟩ [⟨(some 63), none, .load true 10 (.tmp 5)⟩, ⟨(some 62), none, .load true 10 (.tmp 5)⟩] (
 .ev ⟨(some 15), none, .alloc [(.slice none 0 0), (.slice none 0 0), (.slice none 0 0), (.int .i64 0), (.int .i64 0), (.int .i64 0), (.int .i64 0), (.int .i64 0), (.slice none 0 0), (.int .i64 0)]⟩ [⟨(some 63), none, .load true 10 (.tmp 5)⟩, ⟨(some 62), none, .load true 10 (.tmp 5)⟩] (
 .ev ⟨none, none, .store 10 (.tmp 14) (.tmp 62)⟩ [⟨(some 63), none, .load true 10 (.tmp 5)⟩] (
 .ev ⟨none, none, .store 10 (.tmp 15) (.tmp 63)⟩ [] (
 .done)
 (.stop))
 (.stop))
 (.stop))
 (.ev ⟨(some 15), none, .alloc [(.slice none 0 0), (.slice none 0 0), (.slice none 0 0), (.int .i64 0), (.int .i64 0), (.int .i64 0), (.int .i64 0), (.int .i64 0), (.slice none 0 0), (.int .i64 0)]⟩ [⟨(some 63), none, .load true 10 (.tmp 5)⟩, ⟨(some 62), none, .load true 10 (.tmp 5)⟩] (
 .ev ⟨(some 14), none, .alloc [(.slice none 0 0), (.slice none 0 0), (.slice none 0 0), (.int .i64 0), (.int .i64 0), (.int .i64 0), (.int .i64 0), (.int .i64 0), (.slice none 0 0), (.int .i64 0)]⟩ [⟨(some 63), none, .load true 10 (.tmp 5)⟩, ⟨(some 62), none, .load true 10 (.tmp 5)⟩] (
 .ev ⟨none, none, .store 10 (.tmp 14) (.tmp 62)⟩ [⟨(some 63), none, .load true 10 (.tmp 5)⟩] (
 .ev ⟨none, none, .store 10 (.tmp 15) (.tmp 63)⟩ [] (
 .done)
 (.stop))
 (.stop))
 (.stop))
 (.stop))))))
 (.seq (.reg [⟨(some 64), none, .bslice 4 (.agg #[(.int .i64 0), (.int .i64 0), (.int .i64 0), (.int .i64 0)]) 0 []⟩,
 ⟨(some 65), none, .faddr 8 (.tmp 5)⟩,
 ⟨(some 66), none, .load false 1 (.tmp 65)⟩,
 ⟨(some 67), none, .app 4 32 (.tmp 64) (.tmp 66)⟩,
 ⟨(some 68), none, .faddr 8 (.tmp 14)⟩,
 ⟨none, none, .store 1 (.tmp 68) (.tmp 67)⟩,
 ⟨(some 69), none, .faddr 8 (.tmp 15)⟩,
 ⟨none, none, .store 1 (.tmp 69) (.lit (.slice none 0 0))⟩])
 (.seq (.seq (.seq (.gcp)
 (.reg [⟨(some 70), none, .faddr 8 (.tmp 5)⟩,
 ⟨(some 71), none, .load false 1 (.tmp 70)⟩,
 ⟨(some 72), none, .len (.tmp 71)⟩,
 ⟨(some 73), none, .mov (.lit (.int .i64 0))⟩]))
 (.block 0 (.loop (.seq (.reg [⟨(some 74), none, .bin .lss (.tmp 73) (.tmp 72)⟩])
 (.seq (.cond (.tmp 74) (.skip)
 (.exit 0))
 (.seq (.block 1 (.seq (.reg [⟨(some 75), none, .mov (.tmp 73)⟩,
 ⟨(some 16), none, .mov (.tmp 75)⟩])
 (.draw (.step ⟨(some 76), none, .faddr 8 (.tmp 15)⟩ (
 .step ⟨(some 77), none, .load false 1 (.tmp 76)⟩ (
 .step ⟨(some 78), none, .faddr 8 (.tmp 5)⟩ (
 .step ⟨(some 79), none, .load false 1 (.tmp 78)⟩ (
 .step ⟨(some 80), none, .mov (.tmp 13)⟩ (
 .step ⟨(some 81), none, .bin .sub (.tmp 80) (.lit (.int .i64 1))⟩ (
 .step ⟨(some 82), none, .mov (.tmp 16)⟩ (
 .step ⟨(some 83), none, .bin .sub (.tmp 81) (.tmp 82)⟩ (
 .step ⟨(some 84), none, .iaddr 4 (.tmp 79) (.tmp 83)⟩ (
 .step ⟨(some 85), none, .load true 4 (.tmp 84)⟩ (
 .ev ⟨(some 86), none, .bslice 4 (.agg #[(.int .i64 0), (.int .i64 0), (.int .i64 0), (.int .i64 0)]) 1 [(0, (.tmp 85))]⟩ [⟨(some 84), none, .iaddr 4 (.tmp 79) (.tmp 83)⟩, ⟨(some 79), none, .load false 1 (.tmp 78)⟩, ⟨(some 78), none, .faddr 8 (.tmp 5)⟩, ⟨(some 77), none, .load false 1 (.tmp 76)⟩, ⟨(some 76), none, .faddr 8 (.tmp 15)⟩] (
 .ev ⟨(some 87), none, .app 4 32 (.tmp 77) (.tmp 86)⟩ [⟨(some 85), none, .load true 4 (.tmp 84)⟩, ⟨(some 84), none, .iaddr 4 (.tmp 79) (.tmp 83)⟩, ⟨(some 79), none, .load false 1 (.tmp 78)⟩, ⟨(some 78), none, .faddr 8 (.tmp 5)⟩, ⟨(some 76), none, .faddr 8 (.tmp 15)⟩] (
 .step ⟨(some 88), none, .faddr 8 (.tmp 15)⟩ (
 .ev ⟨none, none, .store 1 (.tmp 88) (.tmp 87)⟩ [] (
 .done)
 (.stop)))
 (.stop))
 (.stop)))))))))))))))
 (.reg [⟨(some 89), none, .bin .add (.tmp 73) (.lit (.int .i64 1))⟩,
 ⟨(some 73), none, .mov (.tmp 89)⟩])))))))
 (.seq (.reg [⟨(some 90), none, .mov (.tmp 2)⟩,
 ⟨(some 91), none, .conv .i64 (.tmp 90)⟩,
 ⟨(some 92), none, .faddr 4 (.tmp 5)⟩,
 ⟨(some 93), none, .load false 1 (.tmp 92)⟩,
 ⟨(some 94), none, .bin .rem (.tmp 91) (.tmp 93)⟩,
 ⟨(some 95), none, .bin .shl (.lit (.int .i64 1)) (.tmp 94)⟩,
 ⟨(some 17), none, .mov (.tmp 95)⟩])
 (.seq (.block 2 (.seq (.reg [⟨(some 106), none, .mov (.tmp 1)⟩,
 ⟨(some 107), none, .bin .rem (.tmp 106) (.lit (.int .u8 6))⟩,
 ⟨(some 108), none, .bin .eql (.tmp 107) (.lit (.int .u8 0))⟩,
 ⟨(some 105), none, .mov (.tmp 108)⟩])
 (.cond (.tmp 105) (.reg [⟨(some 109), none, .faddr 6 (.tmp 14)⟩,
 ⟨(some 110), none, .load false 1 (.tmp 109)⟩,
 ⟨(some 111), none, .mov (.tmp 17)⟩,
 ⟨(some 112), none, .bin .andNot (.tmp 110) (.tmp 111)⟩,
 ⟨(some 113), none, .faddr 6 (.tmp 14)⟩,
 ⟨none, none, .store 1 (.tmp 113) (.tmp 112)⟩])
 (.seq (.reg [⟨(some 115), none, .mov (.tmp 1)⟩,
 ⟨(some 116), none, .bin .rem (.tmp 115) (.lit (.int .u8 6))⟩,
 ⟨(some 117), none, .bin .eql (.tmp 116) (.lit (.int .u8 1))⟩,
 ⟨(some 114), none, .mov (.tmp 117)⟩])
 (.cond (.tmp 114) (.reg [⟨(some 118), none, .faddr 7 (.tmp 14)⟩,
 ⟨(some 119), none, .load false 1 (.tmp 118)⟩,
 ⟨(some 120), none, .mov (.tmp 17)⟩,
 ⟨(some 121), none, .bin .andNot (.tmp 119) (.tmp 120)⟩,
 ⟨(some 122), none, .faddr 7 (.tmp 14)⟩,
 ⟨none, none, .store 1 (.tmp 122) (.tmp 121)⟩])
 (.seq (.reg [⟨(some 124), none, .mov (.tmp 1)⟩,
 ⟨(some 125), none, .bin .rem (.tmp 124) (.lit (.int .u8 6))⟩,
 ⟨(some 126), none, .bin .eql (.tmp 125) (.lit (.int .u8 2))⟩,
 ⟨(some 123), none, .mov (.tmp 126)⟩])
 (.cond (.tmp 123) (.reg [⟨(some 127), none, .faddr 5 (.tmp 14)⟩,
 ⟨(some 128), none, .load false 1 (.tmp 127)⟩,
 ⟨(some 129), none, .mov (.tmp 17)⟩,
 ⟨(some 130), none, .bin .or (.tmp 128) (.tmp 129)⟩,
 ⟨(some 131), none, .faddr 5 (.tmp 14)⟩,
 ⟨none, none, .store 1 (.tmp 131) (.tmp 130)⟩])
 (.seq (.reg [⟨(some 133), none, .mov (.tmp 1)⟩,
 ⟨(some 134), none, .bin .rem (.tmp 133) (.lit (.int .u8 6))⟩,
 ⟨(some 135), none, .bin .eql (.tmp 134) (.lit (.int .u8 3))⟩,
 ⟨(some 136), none, .mov (.tmp 135)⟩,
 ⟨(some 137), (some (136, true)), .mov (.tmp 13)⟩,
 ⟨(some 138), (some (136, true)), .bin .gtr (.tmp 137) (.lit (.int .i64 0))⟩,
 ⟨(some 139), none, .pick (.tmp 136) (.tmp 138) (.lit (.bool false))⟩,
 ⟨(some 132), none, .mov (.tmp 139)⟩])
 (.cond (.tmp 132) (.seq (.draw (.step ⟨(some 140), none, .faddr 8 (.tmp 14)⟩ (
 .step ⟨(some 141), none, .load false 1 (.tmp 140)⟩ (
 .step ⟨(some 142), none, .mov (.tmp 2)⟩ (
 .step ⟨(some 143), none, .conv .i64 (.tmp 142)⟩ (
 .step ⟨(some 144), none, .mov (.tmp 13)⟩ (
 .step ⟨(some 145), none, .bin .rem (.tmp 143) (.tmp 144)⟩ (
 .step ⟨(some 146), none, .iaddr 4 (.tmp 141) (.tmp 145)⟩ (
 .step ⟨(some 147), none, .faddr 2 (.tmp 146)⟩ (
 .step ⟨(some 18), none, .mov (.tmp 147)⟩ (
 .done)))))))))))
 (.seq (.reg [⟨(some 148), none, .mov (.tmp 18)⟩,
 ⟨(some 149), none, .mov (.tmp 18)⟩,
 ⟨(some 150), none, .nilck (.tmp 149)⟩,
 ⟨(some 151), none, .faddr 0 (.tmp 150)⟩,
 ⟨(some 152), none, .load false 1 (.tmp 151)⟩,
 ⟨(some 153), none, .bin .sub (.tmp 152) (.lit (.int .i64 1))⟩,
 ⟨(some 154), none, .mxmn true (.lit (.int .i64 1)) [(.tmp 153)]⟩,
 ⟨(some 155), none, .nilck (.tmp 148)⟩,
 ⟨(some 156), none, .faddr 0 (.tmp 155)⟩,
 ⟨none, none, .store 1 (.tmp 156) (.tmp 154)⟩])
 (.draw (.step ⟨(some 157), none, .mov (.tmp 18)⟩ (
 .step ⟨(some 158), none, .mov (.tmp 18)⟩ (
 .step ⟨(some 159), none, .nilck (.tmp 158)⟩ (
 .step ⟨(some 160), none, .faddr 0 (.tmp 159)⟩ (
 .step ⟨(some 161), none, .load false 1 (.tmp 160)⟩ (
 .step ⟨(some 162), none, .mov (.tmp 18)⟩ (
 .step ⟨(some 163), none, .nilck (.tmp 162)⟩ (
 .step ⟨(some 164), none, .faddr 1 (.tmp 163)⟩ (
 .step ⟨(some 165), none, .load false 1 (.tmp 164)⟩ (
 .step ⟨(some 166), none, .bin .sub (.tmp 165) (.lit (.int .i64 1))⟩ (
 .step ⟨(some 167), none, .mxmn true (.tmp 161) [(.tmp 166)]⟩ (
 .step ⟨(some 168), none, .nilck (.tmp 157)⟩ (
 .step ⟨(some 169), none, .faddr 1 (.tmp 168)⟩ (
 .ev ⟨none, none, .store 1 (.tmp 169) (.tmp 167)⟩ [⟨(some 168), none, .nilck (.tmp 157)⟩] (
 .done)
 (.stop))))))))))))))))))
 (.seq (.reg [⟨(some 171), none, .mov (.tmp 1)⟩,
 ⟨(some 172), none, .bin .rem (.tmp 171) (.lit (.int .u8 6))⟩,
 ⟨(some 173), none, .bin .eql (.tmp 172) (.lit (.int .u8 4))⟩,
 ⟨(some 174), none, .mov (.tmp 173)⟩,
 ⟨(some 175), (some (174, true)), .mov (.tmp 13)⟩,
 ⟨(some 176), (some (174, true)), .bin .gtr (.tmp 175) (.lit (.int .i64 0))⟩,
 ⟨(some 177), none, .pick (.tmp 174) (.tmp 176) (.lit (.bool false))⟩,
 ⟨(some 170), none, .mov (.tmp 177)⟩])
 (.cond (.tmp 170) (.seq (.draw (.step ⟨(some 178), none, .faddr 8 (.tmp 14)⟩ (
 .step ⟨(some 179), none, .load false 1 (.tmp 178)⟩ (
 .step ⟨(some 180), none, .mov (.tmp 2)⟩ (
 .step ⟨(some 181), none, .conv .i64 (.tmp 180)⟩ (
 .step ⟨(some 182), none, .mov (.tmp 13)⟩ (
 .step ⟨(some 183), none, .bin .rem (.tmp 181) (.tmp 182)⟩ (
 .step ⟨(some 184), none, .iaddr 4 (.tmp 179) (.tmp 183)⟩ (
 .step ⟨(some 19), none, .mov (.tmp 184)⟩ (
 .done))))))))))
 (.reg [⟨(some 185), none, .mov (.tmp 19)⟩,
 ⟨(some 186), none, .mov (.tmp 19)⟩,
 ⟨(some 187), none, .nilck (.tmp 186)⟩,
 ⟨(some 188), none, .faddr 1 (.tmp 187)⟩,
 ⟨(some 189), none, .load false 1 (.tmp 188)⟩,
 ⟨(some 190), none, .bin .sub (.tmp 189) (.lit (.int .i64 1))⟩,
 ⟨(some 191), none, .mxmn true (.lit (.int .i64 0)) [(.tmp 190)]⟩,
 ⟨(some 192), none, .nilck (.tmp 185)⟩,
 ⟨(some 193), none, .faddr 1 (.tmp 192)⟩,
 ⟨none, none, .store 1 (.tmp 193) (.tmp 191)⟩]))
 (.reg [⟨(some 96), none, .faddr 3 (.tmp 14)⟩,
 ⟨(some 97), none, .load false 1 (.tmp 96)⟩,
 ⟨(some 98), none, .bin .add (.tmp 97) (.lit (.int .i64 1))⟩,
 ⟨(some 99), none, .mov (.tmp 2)⟩,
 ⟨(some 100), none, .conv .i64 (.tmp 99)⟩,
 ⟨(some 101), none, .bin .rem (.tmp 100) (.lit (.int .i64 5))⟩,
 ⟨(some 102), none, .bin .add (.tmp 98) (.tmp 101)⟩,
 ⟨(some 103), none, .mxmn false (.lit (.int .i64 60)) [(.tmp 102)]⟩,
 ⟨(some 104), none, .faddr 3 (.tmp 14)⟩,
 ⟨none, none, .store 1 (.tmp 104) (.tmp 103)⟩]))))))))))))
 (.seq (.reg [⟨(some 194), none, .bslice 4 (.agg #[(.int .i64 0), (.int .i64 0), (.int .i64 0), (.int .i64 0)]) 0 []⟩,
 ⟨(some 195), none, .faddr 8 (.tmp 5)⟩,
 ⟨(some 196), none, .load false 1 (.tmp 195)⟩,
 ⟨(some 197), none, .app 4 32 (.tmp 194) (.tmp 196)⟩,
 ⟨(some 20), none, .mov (.tmp 197)⟩])
 (.seq (.seq (.gcp)
 (.reg [⟨(some 199), none, .load true 10 (.tmp 5)⟩,
 ⟨(some 200), none, .mov (.tmp 11)⟩,
 ⟨(some 201), none, .call (.fn 14) [(.tmp 199), (.tmp 200)]⟩,
 ⟨(some 198), none, .mov (.tmp 201)⟩,
 ⟨(some 202), none, .ext (.tmp 198) 0⟩,
 ⟨(some 203), none, .ext (.tmp 198) 1⟩,
 ⟨(some 21), none, .alloc [(.int .i64 0), (.int .i64 0)]⟩,
 ⟨none, none, .store 2 (.tmp 21) (.tmp 202)⟩,
 ⟨(some 22), none, .mov (.tmp 203)⟩]))
 (.seq (.reg [⟨(some 205), none, .load true 10 (.tmp 14)⟩,
 ⟨(some 206), none, .mov (.tmp 11)⟩,
 ⟨(some 207), none, .call (.fn 14) [(.tmp 205), (.tmp 206)]⟩,
 ⟨(some 204), none, .mov (.tmp 207)⟩,
 ⟨(some 208), none, .ext (.tmp 204) 0⟩,
 ⟨(some 209), none, .ext (.tmp 204) 1⟩,
 ⟨(some 23), none, .alloc [(.int .i64 0), (.int .i64 0)]⟩,
 ⟨none, none, .store 2 (.tmp 23) (.tmp 208)⟩,
 ⟨(some 24), none, .mov (.tmp 209)⟩])
 (.seq (.reg [⟨(some 211), none, .load true 10 (.tmp 15)⟩,
 ⟨(some 212), none, .mov (.tmp 11)⟩,
 ⟨(some 213), none, .call (.fn 14) [(.tmp 211), (.tmp 212)]⟩,
 ⟨(some 210), none, .mov (.tmp 213)⟩,
 ⟨(some 214), none, .ext (.tmp 210) 0⟩,
 ⟨(some 215), none, .ext (.tmp 210) 1⟩,
 ⟨(some 25), none, .alloc [(.int .i64 0), (.int .i64 0)]⟩,
 ⟨none, none, .store 2 (.tmp 25) (.tmp 214)⟩,
 ⟨(some 26), none, .mov (.tmp 215)⟩])
 (.seq (.reg [⟨(some 217), none, .load true 10 (.tmp 5)⟩,
 ⟨(some 218), none, .mov (.tmp 11)⟩,
 ⟨(some 219), none, .mov (.tmp 12)⟩,
 ⟨(some 220), none, .call (.fn 34) [(.tmp 217), (.tmp 218), (.tmp 219)]⟩,
 ⟨(some 216), none, .mov (.tmp 220)⟩,
 ⟨(some 221), none, .ext (.tmp 216) 0⟩,
 ⟨(some 222), none, .ext (.tmp 216) 1⟩,
 ⟨(some 27), none, .mov (.tmp 221)⟩,
 ⟨(some 28), none, .mov (.tmp 222)⟩])
 (.seq (.reg [⟨(some 224), none, .load true 10 (.tmp 14)⟩,
 ⟨(some 225), none, .mov (.tmp 11)⟩,
 ⟨(some 226), none, .mov (.tmp 12)⟩,
 ⟨(some 227), none, .call (.fn 34) [(.tmp 224), (.tmp 225), (.tmp 226)]⟩,
 ⟨(some 223), none, .mov (.tmp 227)⟩,
 ⟨(some 228), none, .ext (.tmp 223) 0⟩,
 ⟨(some 229), none, .ext (.tmp 223) 1⟩,
 ⟨(some 29), none, .mov (.tmp 228)⟩,
 ⟨(some 30), none, .mov (.tmp 229)⟩])
 (.seq (.reg [⟨(some 231), none, .load true 10 (.tmp 5)⟩,
 ⟨(some 232), none, .mov (.tmp 2)⟩,
 ⟨(some 233), none, .conv .i64 (.tmp 232)⟩,
 ⟨(some 234), none, .bin .rem (.tmp 233) (.lit (.int .i64 8))⟩,
 ⟨(some 235), none, .bin .add (.lit (.int .i64 1)) (.tmp 234)⟩,
 ⟨(some 236), none, .mov (.tmp 11)⟩,
 ⟨(some 237), none, .call (.fn 29) [(.tmp 231), (.tmp 235), (.tmp 236)]⟩,
 ⟨(some 230), none, .mov (.tmp 237)⟩,
 ⟨(some 238), none, .ext (.tmp 230) 0⟩,
 ⟨(some 239), none, .ext (.tmp 230) 1⟩,
 ⟨(some 31), none, .mov (.tmp 238)⟩,
 ⟨(some 32), none, .mov (.tmp 239)⟩])
 (.seq (.reg [⟨(some 241), none, .load true 10 (.tmp 14)⟩,
 ⟨(some 242), none, .mov (.tmp 2)⟩,
 ⟨(some 243), none, .conv .i64 (.tmp 242)⟩,
 ⟨(some 244), none, .bin .rem (.tmp 243) (.lit (.int .i64 8))⟩,
 ⟨(some 245), none, .bin .add (.lit (.int .i64 1)) (.tmp 244)⟩,
 ⟨(some 246), none, .mov (.tmp 11)⟩,
 ⟨(some 247), none, .call (.fn 29) [(.tmp 241), (.tmp 245), (.tmp 246)]⟩,
 ⟨(some 240), none, .mov (.tmp 247)⟩,
 ⟨(some 248), none, .ext (.tmp 240) 0⟩,
 ⟨(some 249), none, .ext (.tmp 240) 1⟩,
 ⟨(some 33), none, .mov (.tmp 248)⟩,
 ⟨(some 34), none, .mov (.tmp 249)⟩])
 (.seq (.seq (.reg [⟨(some 250), none, .mov (.tmp 24)⟩,
 ⟨(some 251), none, .mov (.tmp 22)⟩,
 ⟨(some 252), none, .bin .neq (.tmp 250) (.tmp 251)⟩,
 ⟨(some 253), none, .mov (.tmp 252)⟩,
 ⟨(some 254), (some (253, false)), .mov (.tmp 26)⟩,
 ⟨(some 255), (some (253, false)), .mov (.tmp 22)⟩,
 ⟨(some 256), (some (253, false)), .bin .neq (.tmp 254) (.tmp 255)⟩,
 ⟨(some 257), none, .pick (.tmp 253) (.lit (.bool true)) (.tmp 256)⟩,
 ⟨(some 258), none, .mov (.tmp 257)⟩,
 ⟨(some 259), (some (258, false)), .mov (.tmp 28)⟩,
 ⟨(some 260), (some (258, false)), .mov (.tmp 22)⟩,
 ⟨(some 261), (some (258, false)), .bin .neq (.tmp 259) (.tmp 260)⟩,
 ⟨(some 262), none, .pick (.tmp 258) (.lit (.bool true)) (.tmp 261)⟩,
 ⟨(some 263), none, .mov (.tmp 262)⟩,
 ⟨(some 264), (some (263, false)), .mov (.tmp 30)⟩,
 ⟨(some 265), (some (263, false)), .mov (.tmp 22)⟩,
 ⟨(some 266), (some (263, false)), .bin .neq (.tmp 264) (.tmp 265)⟩,
 ⟨(some 267), none, .pick (.tmp 263) (.lit (.bool true)) (.tmp 266)⟩,
 ⟨(some 268), none, .mov (.tmp 267)⟩,
 ⟨(some 269), (some (268, false)), .load true 2 (.tmp 25)⟩,
 ⟨(some 270), (some (268, false)), .load true 2 (.tmp 21)⟩,
 ⟨(some 271), (some (268, false)), .eqs true [(some .i64), (some .i64)] (.tmp 269) (.tmp 270)⟩,
 ⟨(some 272), none, .pick (.tmp 268) (.lit (.bool true)) (.tmp 271)⟩,
 ⟨(some 273), none, .mov (.tmp 272)⟩,
 ⟨(some 274), (some (273, false)), .faddr 0 (.tmp 23)⟩,
 ⟨(some 275), (some (273, false)), .load false 1 (.tmp 274)⟩,
 ⟨(some 276), (some (273, false)), .faddr 0 (.tmp 21)⟩,
 ⟨(some 277), (some (273, false)), .load false 1 (.tmp 276)⟩,
 ⟨(some 278), (some (273, false)), .bin .lss (.tmp 275) (.tmp 277)⟩,
 ⟨(some 279), none, .pick (.tmp 273) (.lit (.bool true)) (.tmp 278)⟩,
 ⟨(some 280), none, .mov (.tmp 279)⟩,
 ⟨(some 281), (some (280, false)), .faddr 1 (.tmp 23)⟩,
 ⟨(some 282), (some (280, false)), .load false 1 (.tmp 281)⟩,
 ⟨(some 283), (some (280, false)), .faddr 1 (.tmp 21)⟩,
 ⟨(some 284), (some (280, false)), .load false 1 (.tmp 283)⟩,
 ⟨(some 285), (some (280, false)), .bin .lss (.tmp 282) (.tmp 284)⟩,
 ⟨(some 286), none, .pick (.tmp 280) (.lit (.bool true)) (.tmp 285)⟩,
 ⟨(some 287), none, .mov (.tmp 286)⟩,
 ⟨(some 288), (some (287, false)), .mov (.tmp 29)⟩,
 ⟨(some 289), (some (287, false)), .mov (.tmp 27)⟩,
 ⟨(some 290), (some (287, false)), .bin .gtr (.tmp 288) (.tmp 289)⟩,
 ⟨(some 291), none, .pick (.tmp 287) (.lit (.bool true)) (.tmp 290)⟩,
 ⟨(some 292), none, .mov (.tmp 291)⟩,
 ⟨(some 293), (some (292, false)), .mov (.tmp 32)⟩,
 ⟨(some 294), (some (292, false)), .bin .eql (.tmp 293) (.lit (.int .i64 0))⟩,
 ⟨(some 295), (some (292, false)), .mov (.tmp 294)⟩,
 ⟨(some 296), (some (295, true)), .mov (.tmp 34)⟩,
 ⟨(some 297), (some (295, true)), .bin .neq (.tmp 296) (.lit (.int .i64 0))⟩,
 ⟨(some 298), (some (295, true)), .mov (.tmp 297)⟩,
 ⟨(some 299), (some (298, false)), .mov (.tmp 33)⟩,
 ⟨(some 300), (some (298, false)), .mov (.tmp 31)⟩,
 ⟨(some 301), (some (298, false)), .bin .lss (.tmp 299) (.tmp 300)⟩,
 ⟨(some 302), (some (295, true)), .pick (.tmp 298) (.lit (.bool true)) (.tmp 301)⟩,
 ⟨(some 303), (some (292, false)), .pick (.tmp 295) (.tmp 302) (.lit (.bool false))⟩,
 ⟨(some 304), none, .pick (.tmp 292) (.lit (.bool true)) (.tmp 303)⟩])
 (.cond (.tmp 304) (.seq (.reg [⟨(some 10), none, .mov (.lit (.bool false))⟩])
 (.ret))
 (.skip)))
 (.seq (.seq (.reg [⟨(some 305), none, .faddr 8 (.tmp 5)⟩,
 ⟨(some 306), none, .load false 1 (.tmp 305)⟩,
 ⟨(some 307), none, .len (.tmp 306)⟩,
 ⟨(some 308), none, .mov (.lit (.int .i64 0))⟩])
 (.block 3 (.loop (.seq (.reg [⟨(some 309), none, .bin .lss (.tmp 308) (.tmp 307)⟩])
 (.seq (.cond (.tmp 309) (.skip)
 (.exit 3))
 (.seq (.block 4 (.seq (.reg [⟨(some 310), none, .mov (.tmp 308)⟩,
 ⟨(some 35), none, .mov (.tmp 310)⟩])
 (.seq (.reg [⟨(some 312), none, .load true 10 (.tmp 5)⟩,
 ⟨(some 313), none, .mov (.tmp 35)⟩,
 ⟨(some 314), none, .call (.fn 25) [(.tmp 312), (.tmp 313)]⟩,
 ⟨(some 311), none, .mov (.tmp 314)⟩,
 ⟨(some 315), none, .ext (.tmp 311) 0⟩,
 ⟨(some 316), none, .ext (.tmp 311) 1⟩,
 ⟨(some 36), none, .alloc [(.int .i64 0), (.int .i64 0)]⟩,
 ⟨none, none, .store 2 (.tmp 36) (.tmp 315)⟩,
 ⟨(some 37), none, .mov (.tmp 316)⟩])
 (.seq (.reg [⟨(some 318), none, .load true 10 (.tmp 14)⟩,
 ⟨(some 319), none, .mov (.tmp 35)⟩,
 ⟨(some 320), none, .call (.fn 25) [(.tmp 318), (.tmp 319)]⟩,
 ⟨(some 317), none, .mov (.tmp 320)⟩,
 ⟨(some 321), none, .ext (.tmp 317) 0⟩,
 ⟨(some 322), none, .ext (.tmp 317) 1⟩,
 ⟨(some 38), none, .alloc [(.int .i64 0), (.int .i64 0)]⟩,
 ⟨none, none, .store 2 (.tmp 38) (.tmp 321)⟩,
 ⟨(some 39), none, .mov (.tmp 322)⟩])
 (.seq (.reg [⟨(some 324), none, .load true 10 (.tmp 15)⟩,
 ⟨(some 325), none, .mov (.tmp 13)⟩,
 ⟨(some 326), none, .bin .sub (.tmp 325) (.lit (.int .i64 1))⟩,
 ⟨(some 327), none, .mov (.tmp 35)⟩,
 ⟨(some 328), none, .bin .sub (.tmp 326) (.tmp 327)⟩,
 ⟨(some 329), none, .call (.fn 25) [(.tmp 324), (.tmp 328)]⟩,
 ⟨(some 323), none, .mov (.tmp 329)⟩,
 ⟨(some 330), none, .ext (.tmp 323) 0⟩,
 ⟨(some 331), none, .ext (.tmp 323) 1⟩,
 ⟨(some 40), none, .alloc [(.int .i64 0), (.int .i64 0)]⟩,
 ⟨none, none, .store 2 (.tmp 40) (.tmp 330)⟩,
 ⟨(some 41), none, .mov (.tmp 331)⟩])
 (.seq (.draw (.step ⟨(some 332), none, .mov (.tmp 37)⟩ (
 .step ⟨(some 333), none, .bin .eql (.tmp 332) (.lit (.int .i64 0))⟩ (
 .step ⟨(some 334), none, .mov (.tmp 333)⟩ (
 .step ⟨(some 335), (some (334, true)), .mov (.tmp 39)⟩ (
 .step ⟨(some 336), (some (334, true)), .bin .neq (.tmp 335) (.lit (.int .i64 0))⟩ (
 .step ⟨(some 337), (some (334, true)), .mov (.tmp 336)⟩ (
 .step ⟨(some 338), (some (337, false)), .faddr 0 (.tmp 38)⟩ (
 .step ⟨(some 339), (some (337, false)), .load false 1 (.tmp 338)⟩ (
 .step ⟨(some 340), (some (337, false)), .faddr 0 (.tmp 36)⟩ (
 .step ⟨(some 341), (some (337, false)), .load false 1 (.tmp 340)⟩ (
 .step ⟨(some 342), (some (337, false)), .bin .gtr (.tmp 339) (.tmp 341)⟩ (
 .step ⟨(some 343), (some (334, true)), .pick (.tmp 337) (.lit (.bool true)) (.tmp 342)⟩ (
 .step ⟨(some 344), (some (334, true)), .mov (.tmp 343)⟩ (
 .step ⟨(some 345), (some (344, false)), .faddr 1 (.tmp 38)⟩ (
 .step ⟨(some 346), (some (344, false)), .load false 1 (.tmp 345)⟩ (
 .step ⟨(some 347), (some (344, false)), .faddr 1 (.tmp 36)⟩ (
 .step ⟨(some 348), (some (344, false)), .load false 1 (.tmp 347)⟩ (
 .step ⟨(some 349), (some (344, false)), .bin .gtr (.tmp 346) (.tmp 348)⟩ (
 .step ⟨(some 350), (some (334, true)), .pick (.tmp 344) (.lit (.bool true)) (.tmp 349)⟩ (
 .step ⟨(some 351), none, .pick (.tmp 334) (.tmp 350) (.lit (.bool false))⟩ (
 .step ⟨(some 352), none, .mov (.tmp 351)⟩ (
 .step ⟨(some 353), (some (352, false)), .load true 2 (.tmp 40)⟩ (
 .step ⟨(some 354), (some (352, false)), .load true 2 (.tmp 36)⟩ (
 .step ⟨(some 355), (some (352, false)), .eqs true [(some .i64), (some .i64)] (.tmp 353) (.tmp 354)⟩ (
 .step ⟨(some 356), none, .pick (.tmp 352) (.lit (.bool true)) (.tmp 355)⟩ (
 .step ⟨(some 357), none, .mov (.tmp 356)⟩ (
 .step ⟨(some 358), (some (357, false)), .mov (.tmp 41)⟩ (
 .step ⟨(some 359), (some (357, false)), .mov (.tmp 37)⟩ (
 .step ⟨(some 360), (some (357, false)), .bin .neq (.tmp 358) (.tmp 359)⟩ (
 .step ⟨(some 361), none, .pick (.tmp 357) (.lit (.bool true)) (.tmp 360)⟩ (
 .step ⟨(some 362), none, .mov (.tmp 361)⟩ (
 .step ⟨(some 363), (some (362, false)), .mov (.tmp 20)⟩ (
 .step ⟨(some 364), (some (362, false)), .mov (.tmp 35)⟩ (
 .step ⟨(some 365), (some (362, false)), .iaddr 4 (.tmp 363) (.tmp 364)⟩ (
 .step ⟨(some 366), (some (362, false)), .load true 4 (.tmp 365)⟩ (
 .step ⟨(some 367), (some (362, false)), .faddr 8 (.tmp 5)⟩ (
 .step ⟨(some 368), (some (362, false)), .load false 1 (.tmp 367)⟩ (
 .step ⟨(some 369), (some (362, false)), .mov (.tmp 35)⟩ (
 .step ⟨(some 370), (some (362, false)), .iaddr 4 (.tmp 368) (.tmp 369)⟩ (
 .step ⟨(some 371), (some (362, false)), .load true 4 (.tmp 370)⟩ (
 .step ⟨(some 372), (some (362, false)), .eqs true [(some .i64), (some .i64), (some .i64), (some .i64)] (.tmp 366) (.tmp 371)⟩ (
 .step ⟨(some 373), none, .pick (.tmp 362) (.lit (.bool true)) (.tmp 372)⟩ (
 .done))))))))))))))))))))))))))))))))))))))))))))
 (.cond (.tmp 373) (.seq (.reg [⟨(some 10), none, .mov (.lit (.bool false))⟩])
 (.ret))
 (.skip))))))))
 (.reg [⟨(some 374), none, .bin .add (.tmp 308) (.lit (.int .i64 1))⟩,
 ⟨(some 308), none, .mov (.tmp 374)⟩])))))))
 (.seq (.reg [⟨(some 375), none, .call (.fn 24) []⟩,
 ⟨(some 10), none, .mov (.tmp 375)⟩])
 (.ret)))))))))))))))))))
theorem k10 : FnC Try.prog 10 376 [] [6, 27] [.tmp 10] c10 5 := ⟨Try.f10, _, Try.func10, rfl, by decide, rfl, by decide, by kernel_rfl, by kernel_rfl⟩
end Go.Proofs.Ytcpkkjbkbdmopaa

/- RailMore: with less rain, more sun, drier lines or a greater stock nothing is worse. -/
namespace Go.Proofs.Ytcpkkjbkbdmopaa
open Go Go.Ab

/-- The cells of a rail whose lines are an own row. -/
def raC (r : Ra) (e : E) : List E := (tw3 r.tw).map .t ++ [.t (vi r.stock), .t (vi r.hours), .t (vi r.sun), .t (vi r.rain), .t (vi r.perhaps), e, .t (vi r.price)]

def MoA (r : Ra) (w1 w2 hour many : Nat) (s : St) : Prop := lk s.env 1 = .t (.lit (.int .u8 w1)) ∧ lk s.env 2 = .t (.lit (.int .u8 w2)) ∧ lk s.env 5 = .ptr 0 0 ∧ lk s.env 11 = .t (vi hour) ∧ lk s.env 12 = .t (vi many) ∧ lk s.env 13 = .t (vi r.lines.length)

set_option maxRecDepth 8000 in
set_option maxHeartbeats 8000000 in
theorem RailMore_ok (r : Ra) (hL : Lens r) (w1 : Nat) (hw1 : w1 < 256) (w2 : Nat) (hw2 : w2 < 256) (w3 : Nat) (hw3 : w3 < 256) (w4 : Nat) (hw4 : w4 < 256) :
    ACall Try.prog 10 [.t (tRa r), .t (.lit (.int .u8 w1)), .t (.lit (.int .u8 w2)), .t (.lit (.int .u8 w3)), .t (.lit (.int .u8 w4))] [] (ret (vb true)) := by
  refine ACall.walk k10 ?_
  have hlong := long_ok r
  have hrail := rrail_ok r hL.l
  unfold c10
  refine awpL_chop 3 (c1 := ?a1) (c2 := ?a2) (fun s => r.OK ∧ r.ok = true ∧ MoA r w1 w2 (w3 % (r.H + 1)) (w4 % 61) s ∧ s.σ = [.cells ((tw3 r.tw ++ ra7 r).map .t)] ∧ s.df = [] ∧ s.k = 0) ?hc ?_ ?_
  case hc => simp only [chop]; rfl
  · unfold tRa at hlong hrail ⊢
    unfold tw3 ra7 at hlong hrail ⊢
    simp only [List.cons_append, List.nil_append] at hlong hrail
    simp only [go_sem, Nat.reduceEqDiff, Nat.reduceAdd]
    refine ACallL.quiet1 hlong rfl rfl rfl ?_
    cases h1 : r.long
    rotate_left
    · simp only [go_sem, Nat.reduceEqDiff, Bool.not_true, undef]
      refine aliveL ?_
      simp only [go_sem, Nat.reduceEqDiff]
      exact finL_ret [] ⟨rfl, rfl, rfl, rfl, _, rfl, ret_mk rfl⟩
    simp only [go_sem, Nat.reduceEqDiff, Nat.reduceAdd, beq_self_eq_true]
    refine ACallL.quiet1 hrail rfl rfl rfl ?_
    cases hok : r.ok
    · simp only [go_sem, Nat.reduceEqDiff, Bool.not_false, beq_self_eq_true]
      refine aliveL ?_
      simp only [go_sem, Nat.reduceEqDiff]
      exact finL_ret [] ⟨rfl, rfl, rfl, rfl, _, rfl, ret_mk rfl⟩
    have hr := (r.ok_iff).1 hok
    obtain ⟨g1, g2, g3⟩ := hr.H
    have e1 : IntKind.i64.wrap (w3 : Int) = w3 := wrap_id (by omega) (by omega)
    have e2 : IntKind.i64.wrap (w4 : Int) = w4 := wrap_id (by omega) (by omega)
    have e3 : IntKind.i64.wrap (r.hours + 1) = ((r.H + 1 : Nat) : Int) := by rw [g3, wrap_id (by omega) (by omega)]; omega
    have e4 : (((r.H + 1 : Nat) : Int) = 0) = False := eq_false (by omega)
    have e5 : (w4 : Int).tmod 61 = ((w4 % 61 : Nat) : Int) := mod_nat w4 61
    simp only [go_sem, Nat.reduceEqDiff, Nat.reduceAdd, Nat.reduceLeDiff, Bool.not_true, Int.reduceEq, beq_self_eq_true, e1, e2, e3, e4, e5, mod_nat, List.length_map]
    exact ⟨hr, rfl, rfl, rfl, rfl, rfl, rfl⟩
  rintro ⟨env, σ, df, k⟩ ⟨hr, hok, ⟨q1, q2, q5, q11, q12, q13⟩, hσ, hdf, hk⟩
  simp only at q1 q2 q5 q11 q12 q13 hσ hdf hk
  subst hσ hdf hk
  obtain ⟨g1, g2, g3⟩ := hr.H
  obtain ⟨hour, hhe, hh⟩ : ∃ n, w3 % (r.H + 1) = n ∧ n ≤ r.H := ⟨_, rfl, by have := Nat.mod_lt w3 (show 0 < r.H + 1 by omega); omega⟩
  obtain ⟨many, hme, hm⟩ : ∃ n, w4 % 61 = n ∧ n ≤ 60 := ⟨_, rfl, by omega⟩
  rw [hhe] at q11
  rw [hme] at q12
  clear hhe hme
  have hnl := hr.nl
  have x1 : (r.lines.length ≤ maxLen) = True := eq_true (by unfold maxLen; omega)
  have x2 : (r.lines.length * 32 ≤ 140737488355328) = True := eq_true (by omega)
  refine awpL_chop 2 (c1 := ?b1) (c2 := ?b2) (fun s => MoA r w1 w2 hour many s ∧ (∃ i j, ((i = 1 ∧ j = 2) ∨ (i = 2 ∧ j = 1)) ∧ lk s.env 14 = .ptr i 0 ∧ lk s.env 15 = .ptr j 0 ∧ (∃ a b, s.σ = [.cells ((tw3 r.tw ++ ra7 r).map .t), a, b, .row 4 ((r.lines.map tLn).map .t)]) ∧ s.σ[i]? = some (.cells (raC r (.loc 3 r.lines.length))) ∧ s.σ[j]? = some (.cells (raC r (.t (.lit (.slice none 0 0)))))) ∧ s.df = [] ∧ s.k = 0) ?hc2 ?_ ?_
  case hc2 => simp only [chop]; rfl
  · unfold tw3 ra7
    simp only [go_sem, Nat.reduceEqDiff, Nat.reduceAdd, q5]
    refine AndL.mk ?_ ?_
    · simp only [go_sem, Nat.reduceEqDiff, Nat.reduceAdd, Nat.reduceLeDiff, undef, q5, x1, x2, List.length_map]
      exact ⟨⟨q1, q2, q5, q11, q12, q13⟩, 1, 2, .inl ⟨rfl, rfl⟩, rfl, rfl, ⟨_, _, rfl⟩, rfl, rfl⟩
    · simp only [go_sem, Nat.reduceEqDiff, Nat.reduceAdd, Nat.reduceLeDiff, undef, q5, x1, x2, List.length_map]
      exact ⟨⟨q1, q2, q5, q11, q12, q13⟩, 2, 1, .inr ⟨rfl, rfl⟩, rfl, rfl, ⟨_, _, rfl⟩, rfl, rfl⟩
  clear q1 q2 q5 q11 q12 q13
  rintro ⟨env, σ, df, k⟩ ⟨⟨q1, q2, q5, q11, q12, q13⟩, ⟨i, j, hij, q14, q15, ⟨a, b, hσ⟩, oi, oj⟩, hdf, hk⟩
  simp only at q1 q2 q5 q11 q12 q13 q14 q15 hσ oi oj hdf hk
  subst hσ hdf hk
  have hgl : ∀ (kp : List Nat) (σ : List AO) (id m n : Nat), pos? kp id = some m → E.gc kp σ 11 (.loc id n) = .loc m n := by
    intro kp σ id m n h
    rw [E.gc]
    simp only [h]
  refine awpL_chop 1 (c1 := ?d1) (c2 := ?d2) (fun s => MoA r w1 w2 hour many s ∧ lk s.env 14 = .ptr 1 0 ∧ lk s.env 15 = .ptr 2 0 ∧ s.σ = [.cells ((tw3 r.tw ++ ra7 r).map .t), .cells (raC r (.loc 3 r.lines.length)), .cells (raC r (.loc 4 r.lines.length)), .row 4 ((r.lines.map tLn).map .t), .row 4 ((r.lines.reverse.map tLn).map .t)] ∧ s.df = [] ∧ s.k = 0) ?hc3 ?_ ?_
  case hc3 => simp only [chop]; rfl
  · refine awpL_cut (fun s => s = { env := [(73, .t (vi 0)), (72, .t (vi r.lines.length)), (71, .t (.slice 4 (r.lines.map tLn))), (70, .ptr 0 8), (1, .t (.lit (.int .u8 w1))), (2, .t (.lit (.int .u8 w2))), (5, .ptr 0 0), (11, .t (vi hour)), (12, .t (vi many)), (13, .t (vi r.lines.length)), (14, .ptr 1 0), (15, .ptr 2 0)], σ := [.cells ((tw3 r.tw ++ ra7 r).map .t), .cells (raC r (.loc 3 r.lines.length)), .cells (raC r (.t (.lit (.slice none 0 0)))), .row 4 ((r.lines.map tLn).map .t)] }) ?_ ?_
    · unfold raC tw3 ra7 at *
      simp only [go_sem]
      rcases hij with ⟨rfl, rfl⟩ | ⟨rfl, rfl⟩
      · simp only [List.getElem?_cons_succ, List.getElem?_cons_zero, Option.some.injEq] at oi oj
        subst oi oj
        refine awpL_gcpE [0, 1, 2, 3] [1, 2, 5, 11, 12, 13, 14, 15] { env := [(1, .t (.lit (.int .u8 w1))), (2, .t (.lit (.int .u8 w2))), (5, .ptr 0 0), (11, .t (vi hour)), (12, .t (vi many)), (13, .t (vi r.lines.length)), (14, .ptr 1 0), (15, .ptr 2 0)], σ := [.cells ((tw3 r.tw ++ ra7 r).map .t), .cells (raC r (.loc 3 r.lines.length)), .cells (raC r (.t (.lit (.slice none 0 0)))), .row 4 ((r.lines.map tLn).map .t)] } ?_ rfl rfl ?_
        · refine St.gc_mk ?_ ?_ rfl rfl
          · simp only [List.map_cons, List.map_nil, q1, q2, q5, q11, q12, q13, q14, q15]; rfl
          · unfold σgc
            simp only [List.map_cons, List.map_nil, List.getD_cons_zero, List.getD_cons_succ, AO.gc, gc_row]
            rfl
        unfold raC tw3 ra7
        simp only [go_sem, Nat.reduceEqDiff, Nat.reduceAdd, Nat.reduceLeDiff, List.length_map]
      · simp only [List.getElem?_cons_succ, List.getElem?_cons_zero, Option.some.injEq] at oi oj
        subst oi oj
        refine awpL_gcpE [0, 2, 1, 3] [1, 2, 5, 11, 12, 13, 14, 15] { env := [(1, .t (.lit (.int .u8 w1))), (2, .t (.lit (.int .u8 w2))), (5, .ptr 0 0), (11, .t (vi hour)), (12, .t (vi many)), (13, .t (vi r.lines.length)), (14, .ptr 1 0), (15, .ptr 2 0)], σ := [.cells ((tw3 r.tw ++ ra7 r).map .t), .cells (raC r (.loc 3 r.lines.length)), .cells (raC r (.t (.lit (.slice none 0 0)))), .row 4 ((r.lines.map tLn).map .t)] } ?_ rfl rfl ?_
        · refine St.gc_mk ?_ ?_ rfl rfl
          · simp only [List.map_cons, List.map_nil, q1, q2, q5, q11, q12, q13, q14, q15]; rfl
          · unfold σgc
            simp only [List.map_cons, List.map_nil, List.getD_cons_zero, List.getD_cons_succ, AO.gc, gc_row]
            rfl
        unfold raC tw3 ra7
        simp only [go_sem, Nat.reduceEqDiff, Nat.reduceAdd, Nat.reduceLeDiff, List.length_map]
    · rintro s rfl
      have hT : ∀ (j : Nat) (hj : j < r.lines.length), r.lines.reverse.take (j + 1) = r.lines.reverse.take j ++ [r.lines[r.lines.length - 1 - j]'(by omega)] := fun j hj => by
        rw [List.take_succ_eq_append_getElem (by simpa using hj), List.getElem_reverse]
      rw [awpL_block]
      refine awpL_for (i := 73) (L := 72) r.lines.length (fun j s => s = { env := [(73, .t (vi j)), (72, .t (vi r.lines.length)), (71, .t (.slice 4 (r.lines.map tLn))), (1, .t (.lit (.int .u8 w1))), (2, .t (.lit (.int .u8 w2))), (5, .ptr 0 0), (11, .t (vi hour)), (12, .t (vi many)), (13, .t (vi r.lines.length)), (14, .ptr 1 0), (15, .ptr 2 0)], σ := [.cells ((tw3 r.tw ++ ra7 r).map .t), .cells (raC r (.loc 3 r.lines.length)), .cells (raC r (.loc 4 j)), .row 4 ((r.lines.map tLn).map .t), .row 4 (((r.lines.reverse.take j).map tLn).map .t)] }) ?_
        ⟨_, (Sub.ghostC 2 8 4 (by decide) rfl rfl).trans (Sub.gc [0, 1, 2, 3, 4] [73, 72, 71, 1, 2, 5, 11, 12, 13, 14, 15] rfl rfl), ?_⟩ ?_ ?_
      · rintro k s rfl; exact ⟨rfl, rfl⟩
      · refine St.gc_mk rfl ?_ rfl rfl
        unfold raC tw3 ra7 σgc
        simp only [List.map_cons, List.map_nil, List.getD_cons_zero, List.getD_cons_succ, AO.gc, gc_row, List.cons_append, List.nil_append, List.length_cons, List.length_nil, List.set_cons_succ, List.set_cons_zero, List.take_zero]
        rfl
      · rintro j s hj rfl
        rw [hT j hj]
        have hx : r.lines[r.lines.length - 1 - j]? = some (r.lines[r.lines.length - 1 - j]'(by omega)) := List.getElem?_eq_getElem (by omega)
        generalize r.lines[r.lines.length - 1 - j]'(by omega) = l at *
        have n1 : IntKind.i64.wrap ((r.lines.length : Int) - 1) = (r.lines.length : Int) - 1 := wrap_id (by omega) (by omega)
        have n2 : IntKind.i64.wrap ((r.lines.length : Int) - 1 - j) = ((r.lines.length - 1 - j : Nat) : Int) := by rw [wrap_id (by omega) (by omega)]; omega
        have hw : IntKind.i64.wrap ((j : Int) + 1) = ((j + 1 : Nat) : Int) := by rw [wrap_id (by omega) (by omega)]; omega
        have hlen : (r.lines.reverse.take j).length = j := by simp; omega
        have x3 : (j + 1 ≤ maxLen) = True := eq_true (by unfold maxLen; omega)
        have x4 : ((j + 1) * 32 ≤ 140737488355328) = True := eq_true (by omega)
        have htl : tLn l = .agg [vi l.many, vi l.from_, vi l.lo, vi l.hi] := rfl
        unfold raC tw3 ra7
        simp only [go_sem, Nat.reduceEqDiff, Nat.reduceAdd, Nat.reduceLT, Nat.reduceLeDiff, undef, n1, n2, hw, hx, htl, hlen, x3, x4, List.length_map, List.getElem?_map, Option.map_some]
        have happ : ((r.lines.reverse.take j).map tLn).map E.t ++ [E.t (T.agg [vi l.many, vi l.from_, vi l.lo, vi l.hi])] = ((r.lines.reverse.take j ++ [l]).map tLn).map E.t := by simp [htl]
        rw [happ]
        refine ⟨_, Sub.gc [0, 1, 2, 3, 4] [73, 72, 71, 1, 2, 5, 11, 12, 13, 14, 15] rfl rfl, ?_⟩
        refine St.gc_mk rfl ?_ rfl rfl
        unfold σgc
        simp only [List.map_cons, List.map_nil, List.getD_cons_zero, List.getD_cons_succ, AO.gc, gc_row]
        rfl
      · rintro s rfl
        rw [show r.lines.reverse.take r.lines.length = r.lines.reverse by rw [← List.length_reverse, List.take_length]]
        unfold raC tw3 ra7
        simp only [go_sem, Nat.reduceEqDiff]
        exact ⟨rfl, rfl, rfl, rfl, rfl, rfl⟩
  clear q1 q2 q5 q11 q12 q13 q14 q15 hij oi oj hgl
  rintro ⟨env, σ, df, k⟩ ⟨⟨q1, q2, q5, q11, q12, q13⟩, q14, q15, hσ, hdf, hk⟩
  simp only at q1 q2 q5 q11 q12 q13 q14 q15 hσ hdf hk
  subst hσ hdf hk
  have p2 : IntKind.i64.wrap (w2 : Int) = w2 := wrap_id (by omega) (by omega)
  have hHz : (r.hours = 0) = False := eq_false (by omega)
  have hmH : (w2 : Int).tmod r.hours = ((w2 % r.H : Nat) : Int) := by rw [g3, mod_nat]
  refine awpL_chop 1 (c1 := ?e1) (c2 := ?e2) (fun s => MoA r w1 w2 hour many s ∧ lk s.env 14 = .ptr 1 0 ∧ lk s.env 15 = .ptr 2 0 ∧ lk s.env 17 = .t (vi ((2 ^ (w2 % r.H) : Nat) : Int)) ∧ s.σ = [.cells ((tw3 r.tw ++ ra7 r).map .t), .cells (raC r (.loc 3 r.lines.length)), .cells (raC r (.loc 4 r.lines.length)), .row 4 ((r.lines.map tLn).map .t), .row 4 ((r.lines.reverse.map tLn).map .t)] ∧ s.df = [] ∧ s.k = 0) ?hc4 ?_ ?_
  case hc4 => simp only [chop]; rfl
  · have hpl := Nat.mod_lt w2 (show 0 < r.H by omega)
    generalize w2 % r.H = p at *
    have hp : IntKind.i64.wrap (1 * 2 ^ (min p 64)) = ((2 ^ p : Nat) : Int) := shl_one (by omega)
    have hpn : ((p : Int) < 0) = False := eq_false (by omega)
    generalize ((2 ^ p : Nat) : Int) = P at *
    unfold raC tw3 ra7
    simp only [go_sem, Nat.reduceEqDiff, Nat.reduceAdd, Nat.reduceLeDiff, q2, q5, q14, q15, p2, hHz, hmH, hpn, IntKind.bits, hp]
    exact ⟨q1, q2, q5, q11, q12, q13⟩
  clear q1 q2 q5 q11 q12 q13 q14 q15
  rintro ⟨env, σ, df, k⟩ ⟨⟨q1, q2, q5, q11, q12, q13⟩, q14, q15, q17, hσ, hdf, hk⟩
  simp only at q1 q2 q5 q11 q12 q13 q14 q15 q17 hσ hdf hk
  subst hσ hdf hk
  obtain ⟨b1, b2, b3⟩ := hr.rains
  have hbit : 2 ^ (w2 % r.H) < 2 ^ r.hours.toNat := Nat.pow_lt_pow_right (by omega) (Nat.mod_lt w2 (show 0 < r.H by omega))
  have hbit2 : 2 ^ r.hours.toNat ≤ 2 ^ 12 := Nat.pow_le_pow_right (by omega) (by omega)
  generalize 2 ^ (w2 % r.H) = bit at *
  have hR : r.rain = ((r.R : Nat) : Int) := by unfold Ra.R; have := hr.rain; omega
  have hP : r.perhaps = ((r.Pe : Nat) : Int) := by unfold Ra.Pe; have := hr.perhaps; omega
  have hS : r.sun = ((r.S : Nat) : Int) := by unfold Ra.S; have := hr.sun; omega
  have d1 : bits .andNot .i64 r.rain (bit : Int) = ((ndiff r.R bit : Nat) : Int) := by rw [hR]; exact bits_andNot (by omega) (by omega)
  have d2 : bits .andNot .i64 r.perhaps (bit : Int) = ((ndiff r.Pe bit : Nat) : Int) := by rw [hP]; exact bits_andNot (by omega) (by omega)
  have d3 : bits .or .i64 r.sun (bit : Int) = ((r.S ||| bit : Nat) : Int) := by rw [hS]; exact bits_or (by omega) (by omega)
  refine awpL_chop 1 (c1 := ?f1) (c2 := ?f2) (fun s => ∃ x : Ra, x.OK ∧ Better r x ∧ MoA r w1 w2 hour many s ∧ lk s.env 14 = .ptr 1 0 ∧ lk s.env 15 = .ptr 2 0 ∧ s.σ = [.cells ((tw3 r.tw ++ ra7 r).map .t), .cells (raC x (.loc 3 r.lines.length)), .cells (raC r (.loc 4 r.lines.length)), .row 4 ((x.lines.map tLn).map .t), .row 4 ((r.lines.reverse.map tLn).map .t)] ∧ s.df = [] ∧ s.k = 0) ?hc5 ?_ ?_
  case hc5 => simp only [chop]; rfl
  · have hc6 := mod_nat w1 6
    have hcl := Nat.mod_lt w1 (show 0 < 6 by omega)
    generalize w1 % 6 = c at hc6 hcl
    have hc : c = 0 ∨ c = 1 ∨ c = 2 ∨ c = 3 ∨ c = 4 ∨ c = 5 := by omega
    have u1 : (w2 : Int).tmod 5 = ((w2 % 5 : Nat) : Int) := mod_nat w2 5
    have hst := hr.stock
    have u2 : IntKind.i64.wrap (r.stock + 1) = r.stock + 1 := wrap_id (by omega) (by omega)
    have u3 : IntKind.i64.wrap (r.stock + 1 + ((w2 % 5 : Nat) : Int)) = r.stock + 1 + ((w2 % 5 : Nat) : Int) := wrap_id (by omega) (by omega)
    have u4 : r.stock ≤ min 60 (r.stock + 1 + ((w2 % 5 : Nat) : Int)) := by omega
    have u5 : min 60 (r.stock + 1 + ((w2 % 5 : Nat) : Int)) ≤ 60 := by omega
    unfold raC tw3 ra7
    rcases hc with rfl | rfl | rfl | rfl | rfl | rfl
    · have hc6 : (w1 : Int).tmod 6 = 0 := hc6
      simp only [go_sem, Nat.reduceEqDiff, Nat.reduceAdd, Nat.reduceLeDiff, Int.reduceEq, undef, beq_self_eq_true, q1, q14, q15, q17, hc6, d1]
      exact ⟨r.less bit, (less_ok hr bit).1, (less_ok hr bit).2, ⟨q1, q2, q5, q11, q12, q13⟩, rfl⟩
    · have hc6 : (w1 : Int).tmod 6 = 1 := hc6
      simp only [go_sem, Nat.reduceEqDiff, Nat.reduceAdd, Nat.reduceLeDiff, Int.reduceEq, Int.reduceBEq, undef, beq_self_eq_true, q1, q14, q15, q17, hc6, d2]
      exact ⟨r.surer bit, (surer_ok hr bit).1, (surer_ok hr bit).2, ⟨q1, q2, q5, q11, q12, q13⟩, rfl⟩
    · have hc6 : (w1 : Int).tmod 6 = 2 := hc6
      simp only [go_sem, Nat.reduceEqDiff, Nat.reduceAdd, Nat.reduceLeDiff, Int.reduceEq, Int.reduceBEq, undef, beq_self_eq_true, q1, q14, q15, q17, hc6, d3]
      exact ⟨r.sunny bit, (sunny_ok hr hbit).1, (sunny_ok hr hbit).2, ⟨q1, q2, q5, q11, q12, q13⟩, rfl⟩
    · have hc6 : (w1 : Int).tmod 6 = 3 := hc6
      rcases Nat.eq_zero_or_pos r.lines.length with hz | hz
      · have z1 : decide ((r.lines.length : Int) > 0) = false := decide_eq_false (by omega)
        simp only [go_sem, Nat.reduceEqDiff, Nat.reduceAdd, Nat.reduceLeDiff, Int.reduceEq, Int.reduceBEq, undef, beq_self_eq_true, q1, q2, q13, q14, q15, hc6, z1, p2, u1, u2, u3]
        exact ⟨r.stocked _, (restock_ok hr u4 u5).1, (restock_ok hr u4 u5).2, ⟨q1, q2, q5, q11, q12, q13⟩, rfl⟩
      · have z1 : decide ((r.lines.length : Int) > 0) = true := decide_eq_true (by omega)
        have z2 : ((r.lines.length : Int) = 0) = False := eq_false (by omega)
        have hlt := Nat.mod_lt w2 hz
        have hx : r.lines[w2 % r.lines.length]? = some (r.lines[w2 % r.lines.length]'hlt) := List.getElem?_eq_getElem hlt
        generalize r.lines[w2 % r.lines.length]'hlt = l at *
        obtain ⟨l1, l2, l3, l4, l5, l6, l7⟩ := hr.ln l (List.mem_of_getElem? hx)
        have v1 : IntKind.i64.wrap (l.lo - 1) = l.lo - 1 := wrap_id (by omega) (by omega)
        have v2 : IntKind.i64.wrap (l.hi - 1) = l.hi - 1 := wrap_id (by omega) (by omega)
        have htl : tLn l = .agg [vi l.many, vi l.from_, vi l.lo, vi l.hi] := rfl
        generalize hk : w2 % r.lines.length = kk at *
        have hkl : ((kk : Int) < r.lines.length) = True := eq_true (by omega)
        have hks : (kk < r.lines.length) = True := eq_true hlt
        have gs : ∀ e : E, (((r.lines.map tLn).map E.t).set kk e)[kk]? = some e := fun e => List.getElem?_set_self (by simpa using hlt)
        have ss : ∀ e e' : E, (((r.lines.map tLn).map E.t).set kk e).set kk e' = ((r.lines.map tLn).map E.t).set kk e' := fun e e' => List.set_set _
        simp only [go_sem, Nat.reduceEqDiff, Nat.reduceAdd, Nat.reduceLeDiff, Bool.not_false, Int.reduceEq, Int.reduceBEq, undef, beq_self_eq_true, q1, q2, q13, q14, q15, hc6, z1, z2, p2, mod_nat, hk, hx, htl, v1, v2, hkl, gs, ss, List.length_set, List.length_map, List.getElem?_map, Option.map_some]
        have es : ∀ l' : Ln, ((r.lines.map tLn).map E.t).set kk (E.t (tLn l')) = ((r.lines.set kk l').map tLn).map E.t := fun l' => by rw [List.map_set, List.map_set]
        obtain ⟨o1, o2⟩ := drier_ok hr hx
        refine ⟨_, o1, o2, ⟨q1, q2, q5, q11, q12, q13⟩, ?_⟩
        show _ = [_, _, _, AO.row 4 (((r.lines.set kk _).map tLn).map E.t), _]
        rw [← es]
        rfl
    · have hc6 : (w1 : Int).tmod 6 = 4 := hc6
      rcases Nat.eq_zero_or_pos r.lines.length with hz | hz
      · have z1 : decide ((r.lines.length : Int) > 0) = false := decide_eq_false (by omega)
        simp only [go_sem, Nat.reduceEqDiff, Nat.reduceAdd, Nat.reduceLeDiff, Int.reduceEq, Int.reduceBEq, undef, beq_self_eq_true, q1, q2, q13, q14, q15, hc6, z1, p2, u1, u2, u3]
        exact ⟨r.stocked _, (restock_ok hr u4 u5).1, (restock_ok hr u4 u5).2, ⟨q1, q2, q5, q11, q12, q13⟩, rfl⟩
      · have z1 : decide ((r.lines.length : Int) > 0) = true := decide_eq_true (by omega)
        have z2 : ((r.lines.length : Int) = 0) = False := eq_false (by omega)
        have hlt := Nat.mod_lt w2 hz
        have hx : r.lines[w2 % r.lines.length]? = some (r.lines[w2 % r.lines.length]'hlt) := List.getElem?_eq_getElem hlt
        generalize r.lines[w2 % r.lines.length]'hlt = l at *
        obtain ⟨l1, l2, l3, l4, l5, l6, l7⟩ := hr.ln l (List.mem_of_getElem? hx)
        have v1 : IntKind.i64.wrap (l.from_ - 1) = l.from_ - 1 := wrap_id (by omega) (by omega)
        have htl : tLn l = .agg [vi l.many, vi l.from_, vi l.lo, vi l.hi] := rfl
        generalize hk : w2 % r.lines.length = kk at *
        have hkl : ((kk : Int) < r.lines.length) = True := eq_true (by omega)
        have hks : (kk < r.lines.length) = True := eq_true hlt
        have gs : ∀ e : E, (((r.lines.map tLn).map E.t).set kk e)[kk]? = some e := fun e => List.getElem?_set_self (by simpa using hlt)
        have ss : ∀ e e' : E, (((r.lines.map tLn).map E.t).set kk e).set kk e' = ((r.lines.map tLn).map E.t).set kk e' := fun e e' => List.set_set _
        simp only [go_sem, Nat.reduceEqDiff, Nat.reduceAdd, Nat.reduceLeDiff, Bool.not_false, Int.reduceEq, Int.reduceBEq, undef, beq_self_eq_true, q1, q2, q13, q14, q15, hc6, z1, z2, p2, mod_nat, hk, hx, htl, v1, hkl, List.length_map, List.getElem?_map, Option.map_some]
        have es : ∀ l' : Ln, ((r.lines.map tLn).map E.t).set kk (E.t (tLn l')) = ((r.lines.set kk l').map tLn).map E.t := fun l' => by rw [List.map_set, List.map_set]
        obtain ⟨o1, o2⟩ := earlier_ok hr hx
        refine ⟨_, o1, o2, ⟨q1, q2, q5, q11, q12, q13⟩, ?_⟩
        show _ = [_, _, _, AO.row 4 (((r.lines.set kk _).map tLn).map E.t), _]
        rw [← es]
        rfl
    · have hc6 : (w1 : Int).tmod 6 = 5 := hc6
      simp only [go_sem, Nat.reduceEqDiff, Nat.reduceAdd, Nat.reduceLeDiff, Int.reduceEq, Int.reduceBEq, undef, q1, q2, q14, q15, hc6, p2, u1, u2, u3]
      exact ⟨r.stocked _, (restock_ok hr u4 u5).1, (restock_ok hr u4 u5).2, ⟨q1, q2, q5, q11, q12, q13⟩, rfl⟩
  clear q1 q2 q5 q11 q12 q13 q14 q15 q17 d1 d2 d3
  rintro ⟨env, σ, df, k⟩ ⟨x, hxo, hbt, ⟨q1, q2, q5, q11, q12, q13⟩, q14, q15, hσ, hdf, hk⟩
  simp only at q1 q2 q5 q11 q12 q13 q14 q15 hσ hdf hk
  subst hσ hdf hk
  have hxl := hbt.len
  refine awpL_chop 1 (c1 := ?g1) (c2 := ?g2) (fun s => MoA r w1 w2 hour many s ∧ lk s.env 14 = .ptr 1 0 ∧ lk s.env 15 = .ptr 2 0 ∧ lk s.env 20 = .loc 5 r.lines.length ∧ s.σ = [.cells ((tw3 r.tw ++ ra7 r).map .t), .cells (raC x (.loc 3 r.lines.length)), .cells (raC r (.loc 4 r.lines.length)), .row 4 ((x.lines.map tLn).map .t), .row 4 ((r.lines.reverse.map tLn).map .t), .row 4 ((r.lines.map tLn).map .t)] ∧ s.df = [] ∧ s.k = 0) ?hc6 ?_ ?_
  case hc6 => simp only [chop]; rfl
  · unfold raC tw3 ra7
    simp only [go_sem, Nat.reduceEqDiff, Nat.reduceAdd, Nat.reduceLeDiff, q5, q14, q15, x1, x2, List.length_map]
    exact ⟨q1, q2, q5, q11, q12, q13⟩
  clear q1 q2 q5 q11 q12 q13 q14 q15
  rintro ⟨env, σ, df, k⟩ ⟨⟨q1, q2, q5, q11, q12, q13⟩, q14, q15, q20, hσ, hdf, hk⟩
  simp only at q1 q2 q5 q11 q12 q13 q14 q15 q20 hσ hdf hk
  subst hσ hdf hk
  obtain ⟨S0, S1, T0, T1, D, I, e, s1, s2, s3, s4, s5, hb0, hb1, hb2⟩ := told_three hr hxo hbt hh hm
  obtain ⟨pp, qq, ee, ee', s6, s7, hee⟩ := told_late (much := 1 + w2 % 8) hr hxo hbt (by omega) hh
  have hLx : Lens x := ⟨by rw [hbt.tw]; exact hL.b, by omega⟩
  have hLy : Lens r.rev := ⟨hL.b, by show r.lines.reverse.length < _; rw [List.length_reverse]; exact hL.l⟩
  have h1 := Ready_ok r hour hL
  have h2 := Ready_ok x hour hLx
  have h3 := Ready_ok r.rev hour hLy
  have h4 := Buy_ok r hour many hL
  have h5 := Buy_ok x hour many hLx
  have h6 := Latest_ok r ((1 + w2 % 8 : Nat) : Int) hour hL
  have h7 := Latest_ok x ((1 + w2 % 8 : Nat) : Int) hour hLx
  rw [s1] at h1; rw [s2] at h2; rw [s3] at h3; rw [s4] at h4; rw [s5] at h5; rw [s6] at h6; rw [s7] at h7
  clear s1 s2 s3 s4 s5 s6 s7
  have gP : ∀ (σ : List AO) (id m : Nat) (y : Ra), σ[id]? = some (.cells (raC y (.loc m r.lines.length))) → σ[m]? = some (.row 4 ((y.lines.map tLn).map .t)) → y.lines.length = r.lines.length → E.gc [] σ 12 (.ptr id 0) = .t (.ptr (tRa y) 0) := by
    intro σ id m y h0 h1 hl
    have h2 : E.gc [] σ 11 (.loc m r.lines.length) = .t (.slice 4 (y.lines.map tLn)) := gc_loc (n := 9) rfl h1 (by simp [hl])
    have ht : ∀ x : T, E.gc [] σ 11 (.t x) = .t x := fun x => rfl
    rw [E.gc]
    simp only [pos?, h0, raC, tw3, List.map_cons, List.map_nil, List.cons_append, List.nil_append, h2, ht]
    rfl
  have g0 : ∀ σ : List AO, σ[0]? = some (.cells ((tw3 r.tw ++ ra7 r).map .t)) → E.gc [] σ 12 (.ptr 0 0) = .t (.ptr (tRa r) 0) := by
    intro σ h0
    have ht : ((tw3 r.tw ++ ra7 r).map E.t).map (E.gc [] σ 11) = (tw3 r.tw ++ ra7 r).map E.t := gc_row _
    rw [E.gc]
    simp only [pos?, h0, ht, allT_t]
    rfl
  have gL : ∀ σ : List AO, σ[5]? = some (.row 4 ((r.lines.map tLn).map .t)) → E.gc [] σ 12 (.loc 5 r.lines.length) = .t (.slice 4 (r.lines.map tLn)) := fun σ h => gc_loc (n := 10) rfl h (by simp)
  refine awpL_chop 8 (c1 := ?i1) (c2 := ?i2) (fun s => lk s.env 5 = .t (.ptr (tRa r) 0) ∧ lk s.env 13 = .t (vi r.lines.length) ∧ lk s.env 14 = .t (.ptr (tRa x) 0) ∧ lk s.env 15 = .t (.ptr (tRa r.rev) 0) ∧ lk s.env 20 = .t (.slice 4 (r.lines.map tLn)) ∧ (∃ o1 o2 o3, s.σ = [o1, o2, o3]) ∧ s.df = [] ∧ s.k = 0) ?hc7 ?_ ?_
  case hc7 => simp only [chop]; rfl
  · simp only [go_sem]
    refine awpL_gcpE [] [2, 5, 11, 12, 13, 14, 15, 20] { env := [(2, .t (.lit (.int .u8 w2))), (5, .t (.ptr (tRa r) 0)), (11, .t (vi hour)), (12, .t (vi many)), (13, .t (vi r.lines.length)), (14, .t (.ptr (tRa x) 0)), (15, .t (.ptr (tRa r.rev) 0)), (20, .t (.slice 4 (r.lines.map tLn)))], σ := [] } ?_ rfl rfl ?_
    · refine St.gc_mk ?_ rfl rfl rfl
      simp only [List.map_cons, List.map_nil, q2, q5, q11, q12, q13, q14, q15, q20]
      rw [gP _ 1 3 x rfl rfl hxl, gP _ 2 4 r.rev rfl rfl (by show r.lines.reverse.length = _; simp)]
      rw [g0 _ rfl, gL _ rfl]
      rfl
    have p2 : IntKind.i64.wrap (w2 : Int) = w2 := wrap_id (by omega) (by omega)
    have p8 : (w2 : Int).tmod 8 = ((w2 % 8 : Nat) : Int) := mod_nat w2 8
    have p9 : IntKind.i64.wrap (1 + ((w2 % 8 : Nat) : Int)) = ((1 + w2 % 8 : Nat) : Int) := by rw [wrap_id (by omega) (by omega)]; omega
    have z0 : (e != e) = false := by simp
    have z1 : decide (T0 < S0) = false := decide_eq_false (by omega)
    have z2 : decide (T1 < S1) = false := decide_eq_false (by omega)
    have z3 : decide (I > D) = false := decide_eq_false (by omega)
    simp only [spanE, oneE, tS] at h1 h2 h3 h4 h5 h6 h7
    unfold tRa at h1 h2 h3 h4 h5 h6 h7 ⊢
    unfold tw3 ra7 at h1 h2 h3 h4 h5 h6 h7 ⊢
    simp only [List.cons_append, List.nil_append] at h1 h2 h3 h4 h5 h6 h7 ⊢
    simp only [go_sem, Nat.reduceEqDiff, Nat.reduceAdd]
    refine ACallL.fresh1 h1 rfl ?_
    simp only [go_sem, Nat.reduceEqDiff, Nat.reduceAdd, undef]
    refine ACallL.fresh1 h2 rfl ?_
    simp only [go_sem, Nat.reduceEqDiff, Nat.reduceAdd, undef]
    refine ACallL.fresh1 h3 rfl ?_
    simp only [go_sem, Nat.reduceEqDiff, Nat.reduceAdd, undef]
    refine ACallL.fresh1 h4 rfl ?_
    simp only [go_sem, Nat.reduceEqDiff, Nat.reduceAdd]
    refine ACallL.fresh1 h5 rfl ?_
    simp only [go_sem, Nat.reduceEqDiff, Nat.reduceAdd, Int.reduceEq, p2, p8, p9]
    refine ACallL.fresh1 h6 rfl ?_
    simp only [go_sem, Nat.reduceEqDiff, Nat.reduceAdd, Int.reduceEq, p2, p8, p9]
    refine ACallL.fresh1 h7 rfl ?_
    rcases hee with hee | ⟨rfl, rfl, hpq⟩
    · have z4 : (ee == 0) = false := beq_eq_false_iff_ne.2 hee
      simp only [go_sem, Nat.reduceEqDiff, Nat.reduceAdd, Nat.reduceLeDiff, Bool.not_true, undef, beq_self_eq_true, bne_self_eq_false, Bool.and_true, toKey, cellKeys, cellKey, kEq, cellEq, z1, z2, z3, z4]
      exact ⟨_, _, _, rfl⟩
    · have z5 : decide (qq < pp) = false := decide_eq_false (by omega)
      simp only [go_sem, Nat.reduceEqDiff, Nat.reduceAdd, Nat.reduceLeDiff, Bool.not_true, beq_self_eq_true, bne_self_eq_false, Bool.and_true, toKey, cellKeys, cellKey, kEq, cellEq, z1, z2, z3, z5]
      exact ⟨_, _, _, rfl⟩
  clear q1 q2 q5 q11 q12 q13 q14 q15 q20 h1 h2 h3 h4 h5 h6 h7 gP g0 gL hb0 hb1 hb2 hee
  rintro ⟨env, σ, df, k⟩ ⟨q5, q13, q14, q15, q20, ⟨o1, o2, o3, hσ⟩, hdf, hk⟩
  simp only at q5 q13 q14 q15 q20 hσ hdf hk
  subst hσ hdf hk
  refine awpL_chop 1 (c1 := ?j1) (c2 := ?j2) (fun s => s.df = [] ∧ s.k = 0) ?hc8 ?_ ?_
  case hc8 => simp only [chop]; rfl
  · unfold tRa at q5 q14 q15
    unfold tw3 ra7 at q5 q14 q15
    simp only [List.cons_append, List.nil_append] at q5 q14 q15
    simp only [go_sem, Nat.reduceEqDiff, Nat.reduceAdd, q5, List.length_map]
    refine awpL_for (i := 308) (L := 307) r.lines.length (fun j s => s = { env := [(308, .t (vi j)), (307, .t (vi r.lines.length)), (5, .t (.ptr (tRa r) 0)), (13, .t (vi r.lines.length)), (14, .t (.ptr (tRa x) 0)), (15, .t (.ptr (tRa r.rev) 0)), (20, .t (.slice 4 (r.lines.map tLn)))], σ := [] }) ?_
      ⟨_, Sub.gc [] [308, 307, 5, 13, 14, 15, 20] rfl rfl, St.gc_mk (by simp only [List.map_cons, List.map_nil, lk, Nat.reduceEqDiff, reduceIte, q5, q13, q14, q15, q20]; rfl) rfl rfl rfl⟩ ?_ ?_
    · rintro k s rfl; exact ⟨rfl, rfl⟩
    · rintro j s hj rfl
      obtain ⟨A, B, A', B', e, e', s1, s2, s3, he⟩ := told_dry hr hxo hbt hj
      have h1 := Dry_ok r j hL
      have h2 := Dry_ok x j hLx
      have h3 := Dry_ok r.rev ((r.lines.length - 1 - j : Nat) : Int) hLy
      rw [s1] at h1; rw [s2] at h2; rw [s3] at h3
      have hx : r.lines[j]? = some r.lines[j] := List.getElem?_eq_getElem hj
      generalize r.lines[j] = l at *
      have htl : tLn l = .agg [vi l.many, vi l.from_, vi l.lo, vi l.hi] := rfl
      have n1 : IntKind.i64.wrap ((r.lines.length : Int) - 1) = (r.lines.length : Int) - 1 := wrap_id (by omega) (by omega)
      have n2 : IntKind.i64.wrap ((r.lines.length : Int) - 1 - j) = ((r.lines.length - 1 - j : Nat) : Int) := by rw [wrap_id (by omega) (by omega)]; omega
      have hw : IntKind.i64.wrap ((j : Int) + 1) = ((j + 1 : Nat) : Int) := by rw [wrap_id (by omega) (by omega)]; omega
      have z0 : (e != e) = false := by simp
      simp only [spanE, tS] at h1 h2 h3
      unfold tRa at h1 h2 h3 ⊢
      unfold tw3 ra7 at h1 h2 h3 ⊢
      simp only [List.cons_append, List.nil_append] at h1 h2 h3 ⊢
      simp only [go_sem, Nat.reduceEqDiff, Nat.reduceAdd]
      refine ACallL.fresh1 h1 rfl ?_
      simp only [go_sem, Nat.reduceEqDiff, Nat.reduceAdd, undef]
      refine ACallL.fresh1 h2 rfl ?_
      simp only [go_sem, Nat.reduceEqDiff, Nat.reduceAdd, undef, n1, n2]
      refine ACallL.fresh1 h3 rfl ?_
      rcases he with he | ⟨rfl, rfl, ha, hb⟩
      · have z4 : (e == 0) = false := beq_eq_false_iff_ne.2 he
        simp only [go_sem, Nat.reduceEqDiff, Nat.reduceAdd, Bool.not_true, undef, beq_self_eq_true, bne_self_eq_false, Bool.and_true, toKey, cellKeys, cellKey, kEq, cellEq, z4, hx, htl, hw, List.getElem?_map, Option.map_some]
        exact ⟨_, Sub.gc [] [308, 307, 5, 13, 14, 15, 20] rfl rfl, St.gc_mk rfl rfl rfl rfl⟩
      · have z5 : decide (A' > A) = false := decide_eq_false (by omega)
        have z6 : decide (B' > B) = false := decide_eq_false (by omega)
        simp only [go_sem, Nat.reduceEqDiff, Nat.reduceAdd, Nat.reduceLeDiff, Bool.not_true, undef, beq_self_eq_true, bne_self_eq_false, Bool.and_true, toKey, cellKeys, cellKey, kEq, cellEq, z5, z6, hx, htl, hw, List.getElem?_map, Option.map_some]
        exact ⟨_, Sub.gc [] [308, 307, 5, 13, 14, 15, 20] rfl rfl, St.gc_mk rfl rfl rfl rfl⟩
    · rintro s rfl
      simp only [go_sem, and_self]
  rintro ⟨env, σ, df, k⟩ ⟨hdf, hk⟩
  simp only at hdf hk
  subst hdf hk
  simp only [go_sem]
  refine aliveL ?_
  simp only [go_sem]
  exact finL_ret [] ⟨rfl, rfl, rfl, rfl, _, rfl, ret_mk rfl⟩
end Go.Proofs.Ytcpkkjbkbdmopaa
