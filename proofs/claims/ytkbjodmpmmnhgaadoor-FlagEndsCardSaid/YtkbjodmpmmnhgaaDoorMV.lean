/- Proved here: laws that the statements need (FlC37, FlX9). No conditions but those that each law states. -/
import Derived.Test.YtkbjodmpmmnhgaaDoorFL
import Derived.Test.YtkbjodmpmmnhgaaDoorProg
import Derived.Test.YtkbjodmpmmnhgaaDoorMN

set_option linter.unusedSimpArgs false
set_option linter.unusedVariables false

/- Compiled code of functions, printed by program; each is checked to be the program's. No conditions. -/
namespace Go.Proofs.YtkbjodmpmmnhgaaDoor
open Go Go.Ab
/-- dipworks/dipworkslaw10.FlagEnds -/
def c7 : AC :=
 .seq (.reg [⟨(some 3), none, .box (.tmp 0)⟩,
 ⟨(some 6), none, .mov (.lit (.bool false))⟩])
 (.seq (.seq (.reg [⟨(some 43), none, .load true 5 (.tmp 3)⟩,
 ⟨(some 44), none, .call (.fn 35) [(.tmp 43)]⟩])
 (.cond (.tmp 44) (.seq (.reg [⟨(some 45), none, .call (.fn 14) []⟩,
 ⟨(some 6), none, .mov (.tmp 45)⟩])
 (.ret))
 (.skip)))
 (.seq (.seq (.reg [⟨(some 46), none, .load true 5 (.tmp 3)⟩,
 ⟨(some 47), none, .call (.fn 36) [(.tmp 46)]⟩,
 ⟨(some 48), none, .un .not (.tmp 47)⟩])
 (.cond (.tmp 48) (.seq (.reg [⟨(some 50), none, .load true 5 (.tmp 3)⟩,
 ⟨(some 51), none, .call (.fn 19) [(.tmp 50)]⟩,
 ⟨(some 49), none, .mov (.tmp 51)⟩,
 ⟨(some 52), none, .ext (.tmp 49) 0⟩,
 ⟨(some 53), none, .ext (.tmp 49) 1⟩,
 ⟨(some 7), none, .mov (.tmp 52)⟩,
 ⟨(some 8), none, .mov (.tmp 53)⟩])
 (.seq (.reg [⟨(some 55), none, .load true 5 (.tmp 3)⟩,
 ⟨(some 56), none, .call (.fn 17) [(.tmp 55)]⟩,
 ⟨(some 54), none, .mov (.tmp 56)⟩,
 ⟨(some 57), none, .ext (.tmp 54) 0⟩,
 ⟨(some 58), none, .ext (.tmp 54) 1⟩,
 ⟨(some 59), none, .ext (.tmp 54) 2⟩,
 ⟨(some 9), none, .mov (.tmp 57)⟩,
 ⟨(some 10), none, .mov (.tmp 58)⟩,
 ⟨(some 11), none, .mov (.tmp 59)⟩])
 (.seq (.reg [⟨(some 60), none, .mov (.tmp 8)⟩,
 ⟨(some 61), none, .bin .eql (.tmp 60) (.lit (.int .i64 1))⟩,
 ⟨(some 62), none, .mov (.tmp 61)⟩,
 ⟨(some 63), (some (62, true)), .mov (.tmp 11)⟩,
 ⟨(some 64), (some (62, true)), .mov (.tmp 8)⟩,
 ⟨(some 65), (some (62, true)), .bin .eql (.tmp 63) (.tmp 64)⟩,
 ⟨(some 66), none, .pick (.tmp 62) (.tmp 65) (.lit (.bool false))⟩,
 ⟨(some 67), none, .mov (.tmp 66)⟩,
 ⟨(some 68), (some (67, true)), .call (.fn 14) []⟩,
 ⟨(some 69), none, .pick (.tmp 67) (.tmp 68) (.lit (.bool false))⟩,
 ⟨(some 6), none, .mov (.tmp 69)⟩])
 (.ret))))
 (.skip)))
 (.seq (.reg [⟨(some 71), none, .load true 5 (.tmp 3)⟩,
 ⟨(some 72), none, .faddr 3 (.tmp 3)⟩,
 ⟨(some 73), none, .load false 1 (.tmp 72)⟩,
 ⟨(some 74), none, .len (.tmp 73)⟩,
 ⟨(some 75), none, .call (.fn 15) [(.tmp 71), (.tmp 74)]⟩,
 ⟨(some 70), none, .mov (.tmp 75)⟩,
 ⟨(some 76), none, .ext (.tmp 70) 0⟩,
 ⟨(some 77), none, .ext (.tmp 70) 1⟩,
 ⟨(some 12), none, .mov (.tmp 76)⟩,
 ⟨(some 13), none, .mov (.tmp 77)⟩])
 (.seq (.reg [⟨(some 79), none, .load true 5 (.tmp 3)⟩,
 ⟨(some 80), none, .call (.fn 23) [(.tmp 79), (.lit (.int .i64 0)), (.lit (.int .i64 0))]⟩,
 ⟨(some 78), none, .mov (.tmp 80)⟩,
 ⟨(some 81), none, .ext (.tmp 78) 0⟩,
 ⟨(some 82), none, .ext (.tmp 78) 1⟩,
 ⟨(some 14), none, .mov (.tmp 81)⟩,
 ⟨(some 15), none, .mov (.tmp 82)⟩])
 (.seq (.reg [⟨(some 84), none, .load true 5 (.tmp 3)⟩,
 ⟨(some 85), none, .call (.fn 25) [(.tmp 84), (.lit (.int .i64 (-1)))]⟩,
 ⟨(some 83), none, .mov (.tmp 85)⟩,
 ⟨(some 86), none, .ext (.tmp 83) 0⟩,
 ⟨(some 87), none, .ext (.tmp 83) 1⟩,
 ⟨(some 16), none, .mov (.tmp 86)⟩,
 ⟨(some 17), none, .mov (.tmp 87)⟩])
 (.seq (.seq (.reg [⟨(some 88), none, .mov (.tmp 13)⟩,
 ⟨(some 89), none, .bin .neq (.tmp 88) (.lit (.int .i64 2))⟩,
 ⟨(some 90), none, .mov (.tmp 89)⟩,
 ⟨(some 91), (some (90, false)), .mov (.tmp 15)⟩,
 ⟨(some 92), (some (90, false)), .mov (.tmp 13)⟩,
 ⟨(some 93), (some (90, false)), .bin .neq (.tmp 91) (.tmp 92)⟩,
 ⟨(some 94), none, .pick (.tmp 90) (.lit (.bool true)) (.tmp 93)⟩,
 ⟨(some 95), none, .mov (.tmp 94)⟩,
 ⟨(some 96), (some (95, false)), .mov (.tmp 17)⟩,
 ⟨(some 97), (some (95, false)), .mov (.tmp 13)⟩,
 ⟨(some 98), (some (95, false)), .bin .neq (.tmp 96) (.tmp 97)⟩,
 ⟨(some 99), none, .pick (.tmp 95) (.lit (.bool true)) (.tmp 98)⟩])
 (.cond (.tmp 99) (.seq (.reg [⟨(some 6), none, .mov (.lit (.bool false))⟩])
 (.ret))
 (.skip)))
 (.seq (.reg [⟨(some 101), none, .load true 5 (.tmp 3)⟩,
 ⟨(some 102), none, .call (.fn 37) [(.tmp 101), (.lit (.int .i64 300))]⟩,
 ⟨(some 100), none, .mov (.tmp 102)⟩,
 ⟨(some 103), none, .ext (.tmp 100) 0⟩,
 ⟨(some 104), none, .ext (.tmp 100) 1⟩,
 ⟨(some 18), none, .mov (.tmp 103)⟩,
 ⟨(some 19), none, .mov (.tmp 104)⟩])
 (.seq (.seq (.reg [⟨(some 105), none, .mov (.tmp 19)⟩,
 ⟨(some 106), none, .un .not (.tmp 105)⟩,
 ⟨(some 107), none, .mov (.tmp 106)⟩,
 ⟨(some 108), (some (107, false)), .faddr 3 (.tmp 3)⟩,
 ⟨(some 109), (some (107, false)), .load false 1 (.tmp 108)⟩,
 ⟨(some 110), (some (107, false)), .len (.tmp 109)⟩,
 ⟨(some 111), (some (107, false)), .bin .eql (.tmp 110) (.lit (.int .i64 0))⟩,
 ⟨(some 112), none, .pick (.tmp 107) (.lit (.bool true)) (.tmp 111)⟩])
 (.cond (.tmp 112) (.seq (.reg [⟨(some 113), none, .call (.fn 14) []⟩,
 ⟨(some 6), none, .mov (.tmp 113)⟩])
 (.ret))
 (.skip)))
 (.seq (.reg [⟨(some 114), none, .mov (.tmp 1)⟩,
 ⟨(some 115), none, .conv .i64 (.tmp 114)⟩,
 ⟨(some 116), none, .faddr 3 (.tmp 3)⟩,
 ⟨(some 117), none, .load false 1 (.tmp 116)⟩,
 ⟨(some 118), none, .len (.tmp 117)⟩,
 ⟨(some 119), none, .bin .rem (.tmp 115) (.tmp 118)⟩,
 ⟨(some 20), none, .mov (.tmp 119)⟩])
 (.seq (.reg [⟨(some 120), none, .mov (.tmp 20)⟩,
 ⟨(some 121), none, .bin .add (.tmp 120) (.lit (.int .i64 1))⟩,
 ⟨(some 122), none, .mov (.tmp 2)⟩,
 ⟨(some 123), none, .conv .i64 (.tmp 122)⟩,
 ⟨(some 124), none, .faddr 3 (.tmp 3)⟩,
 ⟨(some 125), none, .load false 1 (.tmp 124)⟩,
 ⟨(some 126), none, .len (.tmp 125)⟩,
 ⟨(some 127), none, .mov (.tmp 20)⟩,
 ⟨(some 128), none, .bin .sub (.tmp 126) (.tmp 127)⟩,
 ⟨(some 129), none, .bin .rem (.tmp 123) (.tmp 128)⟩,
 ⟨(some 130), none, .bin .add (.tmp 121) (.tmp 129)⟩,
 ⟨(some 21), none, .mov (.tmp 130)⟩])
 (.seq (.draw (.step ⟨(some 131), none, .faddr 3 (.tmp 3)⟩ (
 .step ⟨(some 132), none, .load false 1 (.tmp 131)⟩ (
 .step ⟨(some 133), none, .len (.tmp 132)⟩ (
 .step ⟨(some 134), none, .bin .shl (.lit (.int .i64 1)) (.tmp 133)⟩ (
 .step ⟨(some 135), none, .bin .sub (.tmp 134) (.lit (.int .i64 1))⟩ (
 .step ⟨(some 22), none, .mov (.lit (.int .i64 0))⟩ (
 .step ⟨(some 23), none, .mov (.tmp 135)⟩ (
 .step ⟨(some 24), none, .mov (.lit (.int .i64 0))⟩ (
 .done))))))))))
 (.seq (.reg [⟨(some 136), none, .call (.fn 38) [(.lit (.int .i64 40)), (.lit (.int .i64 0))]⟩,
 ⟨(some 25), none, .alloc [(.int .i64 0), (.int .i64 0)]⟩,
 ⟨none, none, .store 2 (.tmp 25) (.tmp 136)⟩,
 ⟨(some 26), none, .mov (.lit (.int .i64 0))⟩])
 (.seq (.seq (.reg [⟨(some 137), none, .mov (.tmp 18)⟩,
 ⟨(some 138), none, .len (.tmp 137)⟩,
 ⟨(some 139), none, .mov (.lit (.int .i64 0))⟩])
 (.block 0 (.loop (.seq (.reg [⟨(some 140), none, .bin .lss (.tmp 139) (.tmp 138)⟩])
 (.seq (.cond (.tmp 140) (.skip)
 (.exit 0))
 (.seq (.block 1 (.seq (.reg [⟨(some 141), none, .iaddr 1 (.tmp 137) (.tmp 139)⟩,
 ⟨(some 142), none, .load false 1 (.tmp 141)⟩,
 ⟨(some 28), none, .mov (.tmp 142)⟩])
 (.seq (.reg [⟨(some 143), none, .load true 5 (.tmp 3)⟩,
 ⟨(some 144), none, .mov (.tmp 28)⟩,
 ⟨(some 145), none, .call (.fn 33) [(.tmp 143), (.tmp 144)]⟩,
 ⟨(some 29), none, .mov (.tmp 145)⟩])
 (.seq (.reg [⟨(some 30), none, .mov (.lit (.bool true))⟩])
 (.seq (.seq (.reg [⟨(some 146), none, .faddr 4 (.tmp 3)⟩,
 ⟨(some 147), none, .load false 1 (.tmp 146)⟩,
 ⟨(some 148), none, .len (.tmp 147)⟩,
 ⟨(some 149), none, .mov (.lit (.int .i64 0))⟩])
 (.block 2 (.loop (.seq (.reg [⟨(some 150), none, .bin .lss (.tmp 149) (.tmp 148)⟩])
 (.seq (.cond (.tmp 150) (.skip)
 (.exit 2))
 (.seq (.block 3 (.seq (.reg [⟨(some 151), none, .iaddr 2 (.tmp 147) (.tmp 149)⟩,
 ⟨(some 152), none, .load true 2 (.tmp 151)⟩,
 ⟨(some 32), none, .alloc [(.int .i64 0), (.bool false)]⟩,
 ⟨none, none, .store 2 (.tmp 32) (.tmp 152)⟩])
 (.draw (.step ⟨(some 153), none, .mov (.tmp 30)⟩ (
 .step ⟨(some 154), none, .mov (.tmp 153)⟩ (
 .step ⟨(some 155), (some (154, true)), .mov (.tmp 29)⟩ (
 .step ⟨(some 156), (some (154, true)), .faddr 0 (.tmp 32)⟩ (
 .step ⟨(some 157), (some (154, true)), .load false 1 (.tmp 156)⟩ (
 .step ⟨(some 158), (some (154, true)), .bin .shr (.tmp 155) (.tmp 157)⟩ (
 .step ⟨(some 159), (some (154, true)), .bin .and (.tmp 158) (.lit (.int .i64 1))⟩ (
 .step ⟨(some 160), (some (154, true)), .bin .eql (.tmp 159) (.lit (.int .i64 1))⟩ (
 .step ⟨(some 161), (some (154, true)), .faddr 1 (.tmp 32)⟩ (
 .step ⟨(some 162), (some (154, true)), .load false 1 (.tmp 161)⟩ (
 .step ⟨(some 163), (some (154, true)), .eqb false (.tmp 160) (.tmp 162)⟩ (
 .step ⟨(some 164), none, .pick (.tmp 154) (.tmp 163) (.lit (.bool false))⟩ (
 .step ⟨(some 30), none, .mov (.tmp 164)⟩ (
 .done)))))))))))))))))
 (.reg [⟨(some 165), none, .bin .add (.tmp 149) (.lit (.int .i64 1))⟩,
 ⟨(some 149), none, .mov (.tmp 165)⟩])))))))
 (.seq (.seq (.reg [⟨(some 166), none, .mov (.tmp 30)⟩,
 ⟨(some 167), none, .un .not (.tmp 166)⟩])
 (.cond (.tmp 167) (.exit 1)
 (.skip)))
 (.seq (.reg [⟨(some 168), none, .mov (.tmp 29)⟩,
 ⟨(some 169), none, .call (.fn 39) [(.tmp 168)]⟩,
 ⟨(some 33), none, .mov (.tmp 169)⟩])
 (.seq (.reg [⟨(some 170), none, .mov (.tmp 22)⟩,
 ⟨(some 171), none, .bin .add (.tmp 170) (.lit (.int .i64 1))⟩,
 ⟨(some 172), none, .mov (.tmp 23)⟩,
 ⟨(some 173), none, .mov (.tmp 29)⟩,
 ⟨(some 174), none, .bin .and (.tmp 172) (.tmp 173)⟩,
 ⟨(some 175), none, .mov (.tmp 24)⟩,
 ⟨(some 176), none, .mov (.tmp 29)⟩,
 ⟨(some 177), none, .bin .or (.tmp 175) (.tmp 176)⟩,
 ⟨(some 178), none, .faddr 0 (.tmp 25)⟩,
 ⟨(some 179), none, .load false 1 (.tmp 178)⟩,
 ⟨(some 180), none, .mov (.tmp 33)⟩,
 ⟨(some 181), none, .mxmn false (.tmp 179) [(.tmp 180)]⟩,
 ⟨(some 182), none, .faddr 1 (.tmp 25)⟩,
 ⟨(some 183), none, .load false 1 (.tmp 182)⟩,
 ⟨(some 184), none, .mov (.tmp 33)⟩,
 ⟨(some 185), none, .mxmn true (.tmp 183) [(.tmp 184)]⟩,
 ⟨(some 186), none, .call (.fn 38) [(.tmp 181), (.tmp 185)]⟩,
 ⟨(some 22), none, .mov (.tmp 171)⟩,
 ⟨(some 23), none, .mov (.tmp 174)⟩,
 ⟨(some 24), none, .mov (.tmp 177)⟩,
 ⟨none, none, .store 2 (.tmp 25) (.tmp 186)⟩])
 (.seq (.draw (.step ⟨(some 187), none, .mov (.tmp 29)⟩ (
 .step ⟨(some 188), none, .mov (.tmp 20)⟩ (
 .step ⟨(some 189), none, .bin .shr (.tmp 187) (.tmp 188)⟩ (
 .step ⟨(some 190), none, .mov (.tmp 21)⟩ (
 .step ⟨(some 191), none, .mov (.tmp 20)⟩ (
 .step ⟨(some 192), none, .bin .sub (.tmp 190) (.tmp 191)⟩ (
 .step ⟨(some 193), none, .bin .shl (.lit (.int .i64 1)) (.tmp 192)⟩ (
 .step ⟨(some 194), none, .bin .sub (.tmp 193) (.lit (.int .i64 1))⟩ (
 .step ⟨(some 195), none, .bin .and (.tmp 189) (.tmp 194)⟩ (
 .step ⟨(some 196), none, .bin .neq (.tmp 195) (.lit (.int .i64 0))⟩ (
 .done))))))))))))
 (.cond (.tmp 196) (.reg [⟨(some 197), none, .mov (.tmp 26)⟩,
 ⟨(some 198), none, .bin .add (.tmp 197) (.lit (.int .i64 1))⟩,
 ⟨(some 26), none, .mov (.tmp 198)⟩])
 (.skip)))))))))))
 (.reg [⟨(some 199), none, .bin .add (.tmp 139) (.lit (.int .i64 1))⟩,
 ⟨(some 139), none, .mov (.tmp 199)⟩])))))))
 (.seq (.reg [⟨(some 201), none, .load true 5 (.tmp 3)⟩,
 ⟨(some 202), none, .call (.fn 19) [(.tmp 201)]⟩,
 ⟨(some 200), none, .mov (.tmp 202)⟩,
 ⟨(some 203), none, .ext (.tmp 200) 0⟩,
 ⟨(some 204), none, .ext (.tmp 200) 1⟩,
 ⟨(some 34), none, .mov (.tmp 203)⟩,
 ⟨(some 35), none, .mov (.tmp 204)⟩])
 (.seq (.reg [⟨(some 206), none, .load true 5 (.tmp 3)⟩,
 ⟨(some 207), none, .call (.fn 17) [(.tmp 206)]⟩,
 ⟨(some 205), none, .mov (.tmp 207)⟩,
 ⟨(some 208), none, .ext (.tmp 205) 0⟩,
 ⟨(some 209), none, .ext (.tmp 205) 1⟩,
 ⟨(some 210), none, .ext (.tmp 205) 2⟩,
 ⟨(some 36), none, .mov (.tmp 208)⟩,
 ⟨(some 37), none, .mov (.tmp 209)⟩,
 ⟨(some 38), none, .mov (.tmp 210)⟩])
 (.seq (.reg [⟨(some 212), none, .load true 5 (.tmp 3)⟩,
 ⟨(some 213), none, .call (.fn 21) [(.tmp 212)]⟩,
 ⟨(some 211), none, .mov (.tmp 213)⟩,
 ⟨(some 214), none, .ext (.tmp 211) 0⟩,
 ⟨(some 215), none, .ext (.tmp 211) 1⟩,
 ⟨(some 39), none, .alloc [(.int .i64 0), (.int .i64 0)]⟩,
 ⟨none, none, .store 2 (.tmp 39) (.tmp 214)⟩,
 ⟨(some 40), none, .mov (.tmp 215)⟩])
 (.seq (.reg [⟨(some 217), none, .load true 5 (.tmp 3)⟩,
 ⟨(some 218), none, .mov (.tmp 20)⟩,
 ⟨(some 219), none, .mov (.tmp 21)⟩,
 ⟨(some 220), none, .call (.fn 23) [(.tmp 217), (.tmp 218), (.tmp 219)]⟩,
 ⟨(some 216), none, .mov (.tmp 220)⟩,
 ⟨(some 221), none, .ext (.tmp 216) 0⟩,
 ⟨(some 222), none, .ext (.tmp 216) 1⟩,
 ⟨(some 41), none, .mov (.tmp 221)⟩,
 ⟨(some 42), none, .mov (.tmp 222)⟩])
 (.seq (.seq (.reg [⟨(some 223), none, .mov (.tmp 35)⟩,
 ⟨(some 224), none, .bin .neq (.tmp 223) (.lit (.int .i64 0))⟩,
 ⟨(some 225), none, .mov (.tmp 224)⟩,
 ⟨(some 226), (some (225, false)), .mov (.tmp 34)⟩,
 ⟨(some 227), (some (225, false)), .mov (.tmp 22)⟩,
 ⟨(some 228), (some (225, false)), .bin .neq (.tmp 226) (.tmp 227)⟩,
 ⟨(some 229), none, .pick (.tmp 225) (.lit (.bool true)) (.tmp 228)⟩])
 (.cond (.tmp 229) (.seq (.reg [⟨(some 6), none, .mov (.lit (.bool false))⟩])
 (.ret))
 (.skip)))
 (.seq (.seq (.reg [⟨(some 230), none, .mov (.tmp 22)⟩,
 ⟨(some 231), none, .bin .eql (.tmp 230) (.lit (.int .i64 0))⟩])
 (.cond (.tmp 231) (.seq (.reg [⟨(some 232), none, .mov (.tmp 38)⟩,
 ⟨(some 233), none, .bin .eql (.tmp 232) (.lit (.int .i64 10))⟩,
 ⟨(some 234), none, .mov (.tmp 233)⟩,
 ⟨(some 235), (some (234, true)), .mov (.tmp 40)⟩,
 ⟨(some 236), (some (234, true)), .mov (.tmp 38)⟩,
 ⟨(some 237), (some (234, true)), .bin .eql (.tmp 235) (.tmp 236)⟩,
 ⟨(some 238), none, .pick (.tmp 234) (.tmp 237) (.lit (.bool false))⟩,
 ⟨(some 239), none, .mov (.tmp 238)⟩,
 ⟨(some 240), (some (239, true)), .mov (.tmp 42)⟩,
 ⟨(some 241), (some (239, true)), .mov (.tmp 38)⟩,
 ⟨(some 242), (some (239, true)), .bin .eql (.tmp 240) (.tmp 241)⟩,
 ⟨(some 243), none, .pick (.tmp 239) (.tmp 242) (.lit (.bool false))⟩,
 ⟨(some 244), none, .mov (.tmp 243)⟩,
 ⟨(some 245), (some (244, true)), .mov (.tmp 36)⟩,
 ⟨(some 246), (some (244, true)), .bin .eql (.tmp 245) (.lit (.int .i64 0))⟩,
 ⟨(some 247), none, .pick (.tmp 244) (.tmp 246) (.lit (.bool false))⟩,
 ⟨(some 248), none, .mov (.tmp 247)⟩,
 ⟨(some 249), (some (248, true)), .mov (.tmp 37)⟩,
 ⟨(some 250), (some (248, true)), .bin .eql (.tmp 249) (.lit (.int .i64 0))⟩,
 ⟨(some 251), none, .pick (.tmp 248) (.tmp 250) (.lit (.bool false))⟩,
 ⟨(some 252), none, .mov (.tmp 251)⟩,
 ⟨(some 253), (some (252, true)), .load true 2 (.tmp 39)⟩,
 ⟨(some 254), (some (252, true)), .build [(.int .i64 0), (.int .i64 0)] []⟩,
 ⟨(some 255), (some (252, true)), .eqs false [(some .i64), (some .i64)] (.tmp 253) (.tmp 254)⟩,
 ⟨(some 256), none, .pick (.tmp 252) (.tmp 255) (.lit (.bool false))⟩,
 ⟨(some 257), none, .mov (.tmp 256)⟩,
 ⟨(some 258), (some (257, true)), .mov (.tmp 41)⟩,
 ⟨(some 259), (some (257, true)), .bin .eql (.tmp 258) (.lit (.int .i64 0))⟩,
 ⟨(some 260), none, .pick (.tmp 257) (.tmp 259) (.lit (.bool false))⟩,
 ⟨(some 261), none, .mov (.tmp 260)⟩,
 ⟨(some 262), (some (261, true)), .call (.fn 14) []⟩,
 ⟨(some 263), none, .pick (.tmp 261) (.tmp 262) (.lit (.bool false))⟩,
 ⟨(some 6), none, .mov (.tmp 263)⟩])
 (.ret))
 (.skip)))
 (.seq (.reg [⟨(some 264), none, .mov (.tmp 38)⟩,
 ⟨(some 265), none, .bin .eql (.tmp 264) (.lit (.int .i64 0))⟩,
 ⟨(some 266), none, .mov (.tmp 265)⟩,
 ⟨(some 267), (some (266, true)), .mov (.tmp 36)⟩,
 ⟨(some 268), (some (266, true)), .mov (.tmp 23)⟩,
 ⟨(some 269), (some (266, true)), .bin .eql (.tmp 267) (.tmp 268)⟩,
 ⟨(some 270), none, .pick (.tmp 266) (.tmp 269) (.lit (.bool false))⟩,
 ⟨(some 271), none, .mov (.tmp 270)⟩,
 ⟨(some 272), (some (271, true)), .mov (.tmp 37)⟩,
 ⟨(some 273), (some (271, true)), .mov (.tmp 24)⟩,
 ⟨(some 274), (some (271, true)), .bin .eql (.tmp 272) (.tmp 273)⟩,
 ⟨(some 275), none, .pick (.tmp 271) (.tmp 274) (.lit (.bool false))⟩,
 ⟨(some 276), none, .mov (.tmp 275)⟩,
 ⟨(some 277), (some (276, true)), .mov (.tmp 40)⟩,
 ⟨(some 278), (some (276, true)), .bin .eql (.tmp 277) (.lit (.int .i64 0))⟩,
 ⟨(some 279), none, .pick (.tmp 276) (.tmp 278) (.lit (.bool false))⟩,
 ⟨(some 280), none, .mov (.tmp 279)⟩,
 ⟨(some 281), (some (280, true)), .load true 2 (.tmp 39)⟩,
 ⟨(some 282), (some (280, true)), .load true 2 (.tmp 25)⟩,
 ⟨(some 283), (some (280, true)), .eqs false [(some .i64), (some .i64)] (.tmp 281) (.tmp 282)⟩,
 ⟨(some 284), none, .pick (.tmp 280) (.tmp 283) (.lit (.bool false))⟩,
 ⟨(some 285), none, .mov (.tmp 284)⟩,
 ⟨(some 286), (some (285, true)), .mov (.tmp 42)⟩,
 ⟨(some 287), (some (285, true)), .bin .eql (.tmp 286) (.lit (.int .i64 0))⟩,
 ⟨(some 288), none, .pick (.tmp 285) (.tmp 287) (.lit (.bool false))⟩,
 ⟨(some 289), none, .mov (.tmp 288)⟩,
 ⟨(some 290), (some (289, true)), .mov (.tmp 41)⟩,
 ⟨(some 291), (some (289, true)), .bin .eql (.tmp 290) (.lit (.int .i64 2))⟩,
 ⟨(some 292), (some (289, true)), .mov (.tmp 26)⟩,
 ⟨(some 293), (some (289, true)), .mov (.tmp 22)⟩,
 ⟨(some 294), (some (289, true)), .bin .eql (.tmp 292) (.tmp 293)⟩,
 ⟨(some 295), (some (289, true)), .eqb false (.tmp 291) (.tmp 294)⟩,
 ⟨(some 296), none, .pick (.tmp 289) (.tmp 295) (.lit (.bool false))⟩,
 ⟨(some 297), none, .mov (.tmp 296)⟩,
 ⟨(some 298), (some (297, true)), .mov (.tmp 41)⟩,
 ⟨(some 299), (some (297, true)), .bin .eql (.tmp 298) (.lit (.int .i64 0))⟩,
 ⟨(some 300), (some (297, true)), .mov (.tmp 26)⟩,
 ⟨(some 301), (some (297, true)), .bin .eql (.tmp 300) (.lit (.int .i64 0))⟩,
 ⟨(some 302), (some (297, true)), .eqb false (.tmp 299) (.tmp 301)⟩,
 ⟨(some 303), none, .pick (.tmp 297) (.tmp 302) (.lit (.bool false))⟩,
 ⟨(some 304), none, .mov (.tmp 303)⟩,
 ⟨(some 305), (some (304, true)), .call (.fn 14) []⟩,
 ⟨(some 306), none, .pick (.tmp 304) (.tmp 305) (.lit (.bool false))⟩,
 ⟨(some 6), none, .mov (.tmp 306)⟩])
 (.ret)))))))))))))))))))))
theorem k7 : FnC Tryd.prog 7 307 [] [] [.tmp 6] c7 3 := ⟨Tryd.f7, _, Tryd.func7, rfl, by decide, rfl, by decide, by kernel_rfl, by kernel_rfl⟩
/-- dipworks/dipworkslaw10.ways -/
def c37 : AC :=
 .seq (.reg [⟨(some 2), none, .box (.tmp 0)⟩,
 ⟨(some 4), none, .mov (.lit (.slice none 0 0))⟩,
 ⟨(some 5), none, .mov (.lit (.bool false))⟩])
 (.seq (.reg [⟨(some 14), none, .bslice 1 (.slice none 0 0) 1 [(0, (.lit (.slice none 0 0)))]⟩,
 ⟨(some 6), none, .mov (.tmp 14)⟩])
 (.seq (.seq (.reg [⟨(some 15), none, .faddr 3 (.tmp 2)⟩,
 ⟨(some 16), none, .load false 1 (.tmp 15)⟩,
 ⟨(some 17), none, .len (.tmp 16)⟩,
 ⟨(some 18), none, .mov (.lit (.int .i64 0))⟩])
 (.block 0 (.loop (.seq (.reg [⟨(some 19), none, .bin .lss (.tmp 18) (.tmp 17)⟩])
 (.seq (.cond (.tmp 19) (.skip)
 (.exit 0))
 (.seq (.block 1 (.seq (.reg [⟨(some 20), none, .mov (.tmp 18)⟩,
 ⟨(some 7), none, .mov (.tmp 20)⟩])
 (.seq (.reg [⟨(some 22), none, .load true 5 (.tmp 2)⟩,
 ⟨(some 23), none, .mov (.tmp 7)⟩,
 ⟨(some 24), none, .call (.fn 15) [(.tmp 22), (.tmp 23)]⟩,
 ⟨(some 21), none, .mov (.tmp 24)⟩,
 ⟨(some 25), none, .ext (.tmp 21) 0⟩,
 ⟨(some 26), none, .ext (.tmp 21) 1⟩,
 ⟨(some 8), none, .mov (.tmp 25)⟩,
 ⟨(some 9), none, .mov (.tmp 26)⟩])
 (.seq (.reg [⟨(some 10), none, .mov (.lit (.slice none 0 0))⟩])
 (.seq (.seq (.reg [⟨(some 27), none, .mov (.tmp 6)⟩,
 ⟨(some 28), none, .len (.tmp 27)⟩,
 ⟨(some 29), none, .mov (.lit (.int .i64 0))⟩])
 (.block 2 (.loop (.seq (.reg [⟨(some 30), none, .bin .lss (.tmp 29) (.tmp 28)⟩])
 (.seq (.cond (.tmp 30) (.skip)
 (.exit 2))
 (.seq (.block 3 (.seq (.reg [⟨(some 31), none, .iaddr 1 (.tmp 27) (.tmp 29)⟩,
 ⟨(some 32), none, .load false 1 (.tmp 31)⟩,
 ⟨(some 12), none, .mov (.tmp 32)⟩])
 (.seq (.reg [⟨(some 33), none, .mov (.lit (.int .i64 0))⟩])
 (.block 4 (.loop (.seq (.reg [⟨(some 34), none, .bin .lss (.tmp 33) (.lit (.int .i64 3))⟩])
 (.seq (.cond (.tmp 34) (.skip)
 (.exit 4))
 (.seq (.block 5 (.seq (.reg [⟨(some 35), none, .mov (.tmp 33)⟩,
 ⟨(some 13), none, .mov (.tmp 35)⟩])
 (.seq (.reg [⟨(some 36), none, .mov (.tmp 9)⟩,
 ⟨(some 37), none, .bin .eql (.tmp 36) (.lit (.int .i64 0))⟩,
 ⟨(some 38), none, .mov (.tmp 37)⟩,
 ⟨(some 39), (some (38, true)), .mov (.tmp 8)⟩,
 ⟨(some 40), (some (38, true)), .mov (.tmp 13)⟩,
 ⟨(some 41), (some (38, true)), .bin .shr (.tmp 39) (.tmp 40)⟩,
 ⟨(some 42), (some (38, true)), .bin .and (.tmp 41) (.lit (.int .i64 1))⟩,
 ⟨(some 43), (some (38, true)), .bin .eql (.tmp 42) (.lit (.int .i64 1))⟩,
 ⟨(some 44), none, .pick (.tmp 38) (.tmp 43) (.lit (.bool false))⟩])
 (.cond (.tmp 44) (.reg [⟨(some 45), none, .mov (.tmp 10)⟩,
 ⟨(some 46), none, .bslice 1 (.int .i64 0) 0 []⟩,
 ⟨(some 47), none, .mov (.tmp 12)⟩,
 ⟨(some 48), none, .app 1 8 (.tmp 46) (.tmp 47)⟩,
 ⟨(some 49), none, .mov (.tmp 13)⟩,
 ⟨(some 50), none, .bslice 1 (.int .i64 0) 1 [(0, (.tmp 49))]⟩,
 ⟨(some 51), none, .app 1 8 (.tmp 48) (.tmp 50)⟩,
 ⟨(some 52), none, .bslice 1 (.slice none 0 0) 1 [(0, (.tmp 51))]⟩,
 ⟨(some 53), none, .app 1 24 (.tmp 45) (.tmp 52)⟩,
 ⟨(some 10), none, .mov (.tmp 53)⟩])
 (.skip)))))
 (.reg [⟨(some 54), none, .bin .add (.tmp 33) (.lit (.int .i64 1))⟩,
 ⟨(some 33), none, .mov (.tmp 54)⟩])))))))))
 (.reg [⟨(some 55), none, .bin .add (.tmp 29) (.lit (.int .i64 1))⟩,
 ⟨(some 29), none, .mov (.tmp 55)⟩])))))))
 (.seq (.reg [⟨(some 56), none, .mov (.tmp 10)⟩,
 ⟨(some 6), none, .mov (.tmp 56)⟩])
 (.seq (.reg [⟨(some 57), none, .mov (.tmp 6)⟩,
 ⟨(some 58), none, .len (.tmp 57)⟩,
 ⟨(some 59), none, .mov (.tmp 1)⟩,
 ⟨(some 60), none, .bin .gtr (.tmp 58) (.tmp 59)⟩])
 (.cond (.tmp 60) (.seq (.reg [⟨(some 4), none, .mov (.lit (.slice none 0 0))⟩,
 ⟨(some 5), none, .mov (.lit (.bool false))⟩])
 (.ret))
 (.skip)))))))))
 (.reg [⟨(some 61), none, .bin .add (.tmp 18) (.lit (.int .i64 1))⟩,
 ⟨(some 18), none, .mov (.tmp 61)⟩])))))))
 (.seq (.reg [⟨(some 62), none, .mov (.tmp 6)⟩,
 ⟨(some 4), none, .mov (.tmp 62)⟩,
 ⟨(some 5), none, .mov (.lit (.bool true))⟩])
 (.ret))))
theorem k37 : FnC Tryd.prog 37 63 [] [] [.tmp 4, .tmp 5] c37 2 := ⟨Tryd.f37, _, Tryd.func37, rfl, by decide, rfl, by decide, by kernel_rfl, by kernel_rfl⟩
end Go.Proofs.YtkbjodmpmmnhgaaDoor

/- The law's own 'ways'. -/
namespace Go.Proofs.YtkbjodmpmmnhgaaDoor
open Go Go.Ab

theorem kls_snoc (f : Fl) : ∀ (l h : Nat), kls f (l + 1) h = (kls f l h).flatMap fun ks => (kset (Kf f (h + l))).map fun k => ks ++ [k]
  | 0, h => by simp [kls, List.flatMap_singleton', List.map_eq_flatMap]
  | l + 1, h => by
    rw [kls, kls_snoc f l (h + 1)]
    conv => rhs; rw [kls]
    simp only [List.flatMap_assoc, List.map_flatMap, List.flatMap_map, List.map_map]
    congr 1
    funext x
    congr 1
    funext ks
    rw [show h + 1 + l = h + (l + 1) by omega]
    rfl
def elK (ks : List Nat) : T := if ks = [] then .lit (.slice none 0 0) else tK ks
/-- What is put behind the list with the first kinds. -/
def putK (m : Nat) (ks : List Nat) (k : Nat) : List (List Nat) := ((List.range k).filter m.testBit).map fun x => ks ++ [x]
theorem putK_succ (m : Nat) (ks : List Nat) (k : Nat) : putK m ks (k + 1) = putK m ks k ++ if m.testBit k then [ks ++ [k]] else [] := by
  unfold putK
  rw [List.range_succ, List.filter_append, List.map_append]
  congr 1
  simp only [List.filter]
  cases m.testBit k <;> rfl
theorem putK3 (m : Nat) (ks : List Nat) : putK m ks 3 = (kset m).map fun x => ks ++ [x] := rfl
/-- The next rows, of the first so many ones. -/
def nextW (m : Nat) (W : List (List Nat)) : List (List Nat) := W.flatMap fun ks => (kset m).map fun x => ks ++ [x]
theorem nextW_take (m : Nat) (W : List (List Nat)) {j : Nat} {ks : List Nat} (h : W[j]? = some ks) : nextW m (W.take (j + 1)) = nextW m (W.take j) ++ (kset m).map fun x => ks ++ [x] := by
  obtain ⟨hk, e⟩ := List.getElem?_eq_some_iff.1 h
  unfold nextW
  rw [List.take_succ_eq_append_getElem hk, List.flatMap_append, e]
  simp
theorem elK_put (ks : List Nat) (k : Nat) : elK (ks ++ [k]) = tK (ks ++ [k]) := by unfold elK; rw [if_neg (by simp)]

theorem gcq {σ : List AO} {O xs : List T} {n : Nat} (h : σ[2]? = some (.row 1 (xs.map E.t))) (hn : n = xs.length) : (O.map E.t ++ [E.loc 2 n]).map (E.gc [0, 1] σ 12) = O.map E.t ++ [E.t (.slice 1 xs)] := by
  rw [List.map_append, gc_row]
  congr 1
  rw [List.map_cons, List.map_nil, gc_loc (n := 10) rfl h hn]

def waysR (f : Fl) (o : Out) (σ : List AO) : Prop := σ = [] ∧ (o = .ret (.tup [.t nilT, .t (vb false)]) ∨ ((rows f).length ≤ 300 ∧ o = .ret (.tup [.t (.slice 1 ((rows f).map elK)), .t (vb true)])))

set_option maxRecDepth 8000 in
set_option maxHeartbeats 4000000 in
theorem waysL_ok (f : Fl) (hL : Lens f) (hf : f.OK) : ACall Tryd.prog 37 [.t (.agg (fl5 f)), .t (vi 300)] [] (waysR f) := by
  refine ACall.walk k37 ?_
  unfold c37 fl5
  have hok := (Fl.ok_iff f).2 hf
  have hn := hf.nh
  simp only [go_sem, Nat.reduceEqDiff, Nat.reduceAdd, Nat.reduceSub, Nat.reduceMul, Nat.reduceLT, Nat.reduceLeDiff, Nat.reduceMod, Nat.reduceDiv, Int.reduceToNat, Int.reduceLT, Int.reduceLE, Bool.not_true, Bool.not_false, reduceIte, Int.reduceEq, Int.reduceBEq, Int.reduceBNe, Int.reduceGT, Int.reduceGE, Int.reduceNeg, Int.reduceAdd, Int.reduceSub, Nat.reduceBEq, decide_true, decide_false, undef, beq_self_eq_true, bne_self_eq_false, Bool.and_true, Bool.true_and, Bool.and_false, Bool.false_and, Bool.or_true, Bool.true_or, Bool.or_false, Bool.false_or, List.length_map]
  refine awpL_for (i := 18) (L := 17) f.hs.length (fun j s => (kls f j 0).length ≤ 300 ∧ s = { env := [(18, .t (vi j)), (17, .t (vi f.hs.length)), (6, .t (.slice 1 ((kls f j 0).map elK))), (1, .t (vi 300)), (2, .ptr 0 0)], σ := [.cells ((fl5 f).map .t)] }) ?_ ⟨_, Sub.gc [0] [18, 17, 6, 1, 2] rfl rfl, by simp [kls], rfl⟩ ?_ ?_
  · rintro k s ⟨_, rfl⟩; exact ⟨rfl, rfl⟩
  · rintro j s hj ⟨hWl, rfl⟩
    have hw : IntKind.i64.wrap ((j : Int) + 1) = ((j + 1 : Nat) : Int) := by rw [wrap_id (by omega) (by omega)]; omega
    have h15 := Kinds_ok f j hL
    have e1 : specKinds f j = (((Kf f j : Nat) : Int), 0) := by simp only [specKinds, hok, isH_iff.2 ⟨Int.natCast_nonneg j, Int.ofNat_lt.2 hj⟩]; rfl
    rw [e1] at h15
    simp only [oneE, fl5] at h15
    have hnext : kls f (j + 1) 0 = nextW (Kf f j) (kls f j 0) := by rw [kls_snoc, Nat.zero_add]; rfl
    have hKl : Kf f j < 8 := by
      unfold Kf
      split
      · exact kindsN_lt _ _
      · decide
    have hlen : ∀ ks ∈ kls f j 0, ks.length = j := fun ks hks => ((kls_mem f _ _ _).1 hks).1
    have hks3 : ∀ m : Nat, (kset m).length ≤ 3 := fun m => by unfold kset; exact Nat.le_trans (List.length_filter_le _ _) (by simp)
    generalize Kf f j = m at *
    generalize kls f j 0 = W at *
    simp only [fl5, go_sem, Nat.reduceEqDiff, Nat.reduceAdd, Nat.reduceSub, Nat.reduceMul, Nat.reduceLT, Nat.reduceLeDiff, Nat.reduceMod, Nat.reduceDiv, Int.reduceToNat, Int.reduceLT, Int.reduceLE, Bool.not_true, Bool.not_false, reduceIte, Int.reduceEq, Int.reduceBEq, Int.reduceBNe, Int.reduceGT, Int.reduceGE, Int.reduceNeg, Int.reduceAdd, Int.reduceSub, Nat.reduceBEq, decide_true, decide_false, undef, beq_self_eq_true, bne_self_eq_false, Bool.and_true, Bool.true_and, Bool.and_false, Bool.false_and, Bool.or_true, Bool.true_or, Bool.or_false, Bool.false_or, undef]
    refine ACallL.quiet1 h15 rfl rfl rfl ?_
    simp only [fl5, go_sem, Nat.reduceEqDiff, Nat.reduceAdd, Nat.reduceSub, Nat.reduceMul, Nat.reduceLT, Nat.reduceLeDiff, Nat.reduceMod, Nat.reduceDiv, Int.reduceToNat, Int.reduceLT, Int.reduceLE, Bool.not_true, Bool.not_false, reduceIte, Int.reduceEq, Int.reduceBEq, Int.reduceBNe, Int.reduceGT, Int.reduceGE, Int.reduceNeg, Int.reduceAdd, Int.reduceSub, Nat.reduceBEq, decide_true, decide_false, undef, beq_self_eq_true, bne_self_eq_false, Bool.and_true, Bool.true_and, Bool.and_false, Bool.false_and, Bool.or_true, Bool.true_or, Bool.or_false, Bool.false_or, undef, List.length_map]
    have hnl : ∀ i, i ≤ W.length → (nextW m (W.take i)).length ≤ 3 * i := by
      intro i
      induction i with
      | zero => intro _; simp [nextW]
      | succ i ih =>
        intro hi
        have := ih (by omega)
        rw [nextW_take m W (List.getElem?_eq_getElem (show i < W.length by omega)), List.length_append, List.length_map]
        have := hks3 m
        omega
    refine awpL_for (i := 29) (L := 28) W.length (fun i s => s = { env := [(29, .t (vi i)), (28, .t (vi W.length)), (27, .t (.slice 1 (W.map elK))), (10, .loc 1 (nextW m (W.take i)).length), (8, .t (vi m)), (9, .t (vi 0)), (18, .t (vi j)), (17, .t (vi f.hs.length)), (1, .t (vi 300)), (2, .ptr 0 0)], σ := [.cells ((fl5 f).map .t), .row 1 (((nextW m (W.take i)).map elK).map .t)] }) ?_ ?_ ?_ ?_
    · rintro k s rfl; exact ⟨rfl, rfl⟩
    · exact ⟨_, (Sub.ghost 10 1 (by decide) rfl).trans (Sub.gc [0, 1] [29, 28, 27, 10, 8, 9, 18, 17, 1, 2] rfl rfl), rfl⟩
    · rintro i s hi rfl
      have hwi : IntKind.i64.wrap ((i : Int) + 1) = ((i + 1 : Nat) : Int) := by rw [wrap_id (by omega) (by omega)]; omega
      have hg : W[i]? = some W[i] := List.getElem?_eq_getElem hi
      have hkl := hlen _ (List.getElem_mem hi)
      have hnt := nextW_take m W hg
      have hb := hnl i (by omega)
      generalize W[i] = ks at *
      generalize nextW m (W.take i) = N at *
      have hil : (i : Int) < (W.length : Int) := by omega
      have hel : (ks = [] ∧ elK ks = .lit (.slice none 0 0)) ∨ elK ks = .slice 1 (ks.map fun k : Nat => vi k) := by
        unfold elK
        by_cases e : ks = []
        · exact .inl ⟨e, if_pos e⟩
        · exact .inr (if_neg e)
      have hput : ∀ k, (N ++ putK m ks (k + 1)) = (N ++ putK m ks k) ++ if m.testBit k then [ks ++ [k]] else [] := fun k => by rw [putK_succ, List.append_assoc]
      have hpl : ∀ k, k < 3 → (putK m ks k).length ≤ 3 := fun k hk => by
        unfold putK
        rw [List.length_map]
        exact Nat.le_trans (List.length_filter_le _ _) (by simp; omega)
      rcases hel with ⟨he0, he⟩ | he
      all_goals
        simp only [fl5, go_sem, Nat.reduceEqDiff, Nat.reduceAdd, Nat.reduceSub, Nat.reduceMul, Nat.reduceLT, Nat.reduceLeDiff, Nat.reduceMod, Nat.reduceDiv, Int.reduceToNat, Int.reduceLT, Int.reduceLE, Bool.not_true, Bool.not_false, reduceIte, Int.reduceEq, Int.reduceBEq, Int.reduceBNe, Int.reduceGT, Int.reduceGE, Int.reduceNeg, Int.reduceAdd, Int.reduceSub, Nat.reduceBEq, decide_true, decide_false, undef, beq_self_eq_true, bne_self_eq_false, Bool.and_true, Bool.true_and, Bool.and_false, Bool.false_and, Bool.or_true, Bool.true_or, Bool.or_false, Bool.false_or, undef, List.length_map, List.getElem?_map, hg, Option.map_some, he]
        refine awpL_forC (i := 33) 3 rfl (fun k s => s = { env := [(33, .t (vi k)), (10, .loc 1 (N ++ putK m ks k).length), (12, .t (elK ks)), (29, .t (vi i)), (28, .t (vi W.length)), (27, .t (.slice 1 (W.map elK))), (8, .t (vi m)), (9, .t (vi 0)), (18, .t (vi j)), (17, .t (vi f.hs.length)), (1, .t (vi 300)), (2, .ptr 0 0)], σ := [.cells ((fl5 f).map .t), .row 1 (((N ++ putK m ks k).map elK).map .t)] }) ?_ ?_ ?_ ?_
        · rintro k s rfl; rfl
        · refine ⟨_, Sub.gc [0, 1] [33, 10, 12, 29, 28, 27, 8, 9, 18, 17, 1, 2] rfl rfl, ?_⟩
          rw [he, show putK m ks 0 = [] from rfl, List.append_nil]
          exact St.gc_mk rfl (by
            show [AO.cells _, AO.row 1 ((List.map E.t _).map (E.gc _ _ _))] = _
            rw [gc_row]
            rfl) rfl rfl
        · rintro k s hk rfl
          have hbit := bit_eq (a := m) (i := k) (by omega)
          have hk0 : ((k : Int) < 0) = False := by simp
          have hwk : IntKind.i64.wrap ((k : Int) + 1) = ((k + 1 : Nat) : Int) := by rw [wrap_id (by omega) (by omega)]; omega
          have hpk := hpl k hk
          have hpp := hput k
          have hol : (N ++ putK m ks k).length ≤ 1000 := by rw [List.length_append]; omega
          generalize N ++ putK m ks k = O at *
          simp only [fl5, go_sem, Nat.reduceEqDiff, Nat.reduceAdd, Nat.reduceSub, Nat.reduceMul, Nat.reduceLT, Nat.reduceLeDiff, Nat.reduceMod, Nat.reduceDiv, Int.reduceToNat, Int.reduceLT, Int.reduceLE, Bool.not_true, Bool.not_false, reduceIte, Int.reduceEq, Int.reduceBEq, Int.reduceBNe, Int.reduceGT, Int.reduceGE, Int.reduceNeg, Int.reduceAdd, Int.reduceSub, Nat.reduceBEq, decide_true, decide_false, undef, beq_self_eq_true, bne_self_eq_false, Bool.and_true, Bool.true_and, Bool.and_false, Bool.false_and, Bool.or_true, Bool.true_or, Bool.or_false, Bool.false_or, undef, hbit, hk0, he]
          cases hb : m.testBit k
          · rw [hb] at hpp
            simp only [Bool.false_eq_true, if_false, List.append_nil] at hpp
            simp only [fl5, go_sem, Nat.reduceEqDiff, Nat.reduceAdd, Nat.reduceSub, Nat.reduceMul, Nat.reduceLT, Nat.reduceLeDiff, Nat.reduceMod, Nat.reduceDiv, Int.reduceToNat, Int.reduceLT, Int.reduceLE, Bool.not_true, Bool.not_false, reduceIte, Int.reduceEq, Int.reduceBEq, Int.reduceBNe, Int.reduceGT, Int.reduceGE, Int.reduceNeg, Int.reduceAdd, Int.reduceSub, Nat.reduceBEq, decide_true, decide_false, undef, beq_self_eq_true, bne_self_eq_false, Bool.and_true, Bool.true_and, Bool.and_false, Bool.false_and, Bool.or_true, Bool.true_or, Bool.or_false, Bool.false_or, undef, hbit, hk0, hb, hwk, he]
            refine ⟨_, Sub.gc [0, 1] [33, 10, 12, 29, 28, 27, 8, 9, 18, 17, 1, 2] rfl rfl, ?_⟩
            rw [hpp]
            exact St.gc_mk rfl (by
              show [AO.cells _, AO.row 1 ((List.map E.t _).map (E.gc _ _ _))] = _
              rw [gc_row]
              rfl) rfl rfl
          · rw [hb] at hpp
            simp only [if_true] at hpp
            simp only [fl5, go_sem, Nat.reduceEqDiff, Nat.reduceAdd, Nat.reduceSub, Nat.reduceMul, Nat.reduceLT, Nat.reduceLeDiff, Nat.reduceMod, Nat.reduceDiv, Int.reduceToNat, Int.reduceLT, Int.reduceLE, Bool.not_true, Bool.not_false, reduceIte, Int.reduceEq, Int.reduceBEq, Int.reduceBNe, Int.reduceGT, Int.reduceGE, Int.reduceNeg, Int.reduceAdd, Int.reduceSub, Nat.reduceBEq, decide_true, decide_false, undef, beq_self_eq_true, bne_self_eq_false, Bool.and_true, Bool.true_and, Bool.and_false, Bool.false_and, Bool.or_true, Bool.true_or, Bool.or_false, Bool.false_or, undef, hbit, hk0, hb, hwk, he, List.length_map]
            first
              | refine ⟨⟨by unfold maxLen; omega, by omega⟩, ⟨by unfold maxLen; omega, by omega⟩, ⟨by unfold maxLen; omega, by omega⟩, _, Sub.gc [0, 1] [33, 10, 12, 29, 28, 27, 8, 9, 18, 17, 1, 2] rfl rfl, ?_⟩
                rw [hpp, List.length_append, List.length_singleton, List.map_append, List.map_append]
                exact St.gc_mk rfl (by
                  show [AO.cells _, AO.row 1 ((List.map E.t _ ++ [E.loc 2 (ks.length + 1)]).map (E.gc [0, 1] _ 12))] = _
                  rw [gcq (xs := (ks ++ [k]).map fun k : Nat => vi k) (by simp) (by simp)]
                  show _ = [_, AO.row 1 (_ ++ [E.t (elK (ks ++ [k]))])]
                  rw [elK_put]
                  rfl) rfl rfl
              | refine ⟨by unfold maxLen; omega, by unfold maxLen; omega, ⟨by unfold maxLen; omega, by omega⟩, _, Sub.gc [0, 1] [33, 10, 12, 29, 28, 27, 8, 9, 18, 17, 1, 2] rfl rfl, ?_⟩
                rw [hpp, List.length_append, List.length_singleton, List.map_append, List.map_append]
                exact St.gc_mk rfl (by
                  show [AO.cells _, AO.row 1 ((List.map E.t _ ++ [E.loc 2 1]).map (E.gc [0, 1] _ 12))] = _
                  rw [gcq (n := 1) (xs := [vi k]) rfl rfl]
                  show _ = [_, AO.row 1 (_ ++ [E.t (elK (ks ++ [k]))])]
                  rw [elK_put, he0]
                  rfl) rfl rfl
        · rintro s rfl
          simp only [fl5, go_sem, Nat.reduceEqDiff, Nat.reduceAdd, Nat.reduceSub, Nat.reduceMul, Nat.reduceLT, Nat.reduceLeDiff, Nat.reduceMod, Nat.reduceDiv, Int.reduceToNat, Int.reduceLT, Int.reduceLE, Bool.not_true, Bool.not_false, reduceIte, Int.reduceEq, Int.reduceBEq, Int.reduceBNe, Int.reduceGT, Int.reduceGE, Int.reduceNeg, Int.reduceAdd, Int.reduceSub, Nat.reduceBEq, decide_true, decide_false, undef, beq_self_eq_true, bne_self_eq_false, Bool.and_true, Bool.true_and, Bool.and_false, Bool.false_and, Bool.or_true, Bool.true_or, Bool.or_false, Bool.false_or, undef, hwi]
          refine ⟨_, Sub.gc [0, 1] [29, 28, 27, 10, 8, 9, 18, 17, 1, 2] rfl rfl, ?_⟩
          rw [hnt, ← putK3]
          exact St.gc_mk rfl (by
            show [AO.cells _, AO.row 1 ((List.map E.t _).map (E.gc _ _ _))] = _
            rw [gc_row]
            rfl) rfl rfl
    · rintro s rfl
      rw [List.take_length]
      simp only [fl5, go_sem, Nat.reduceEqDiff, Nat.reduceAdd, Nat.reduceSub, Nat.reduceMul, Nat.reduceLT, Nat.reduceLeDiff, Nat.reduceMod, Nat.reduceDiv, Int.reduceToNat, Int.reduceLT, Int.reduceLE, Bool.not_true, Bool.not_false, reduceIte, Int.reduceEq, Int.reduceBEq, Int.reduceBNe, Int.reduceGT, Int.reduceGE, Int.reduceNeg, Int.reduceAdd, Int.reduceSub, Nat.reduceBEq, decide_true, decide_false, undef, beq_self_eq_true, bne_self_eq_false, Bool.and_true, Bool.true_and, Bool.and_false, Bool.false_and, Bool.or_true, Bool.true_or, Bool.or_false, Bool.false_or, undef, List.length_map]
      cases g : decide (((nextW m W).length : Int) > 300)
      · have hle : (nextW m W).length ≤ 300 := by have := of_decide_eq_false g; omega
        simp only [fl5, go_sem, Nat.reduceEqDiff, Nat.reduceAdd, Nat.reduceSub, Nat.reduceMul, Nat.reduceLT, Nat.reduceLeDiff, Nat.reduceMod, Nat.reduceDiv, Int.reduceToNat, Int.reduceLT, Int.reduceLE, Bool.not_true, Bool.not_false, reduceIte, Int.reduceEq, Int.reduceBEq, Int.reduceBNe, Int.reduceGT, Int.reduceGE, Int.reduceNeg, Int.reduceAdd, Int.reduceSub, Nat.reduceBEq, decide_true, decide_false, undef, beq_self_eq_true, bne_self_eq_false, Bool.and_true, Bool.true_and, Bool.and_false, Bool.false_and, Bool.or_true, Bool.true_or, Bool.or_false, Bool.false_or, undef, List.length_map, g, hw]
        refine ⟨_, Sub.gc [0] [18, 17, 6, 1, 2] rfl rfl, by rw [hnext]; exact hle, ?_⟩
        rw [hnext]
        refine St.gc_mk ?_ rfl rfl rfl
        simp only [List.map_cons, List.map_nil, lk, Nat.reduceEqDiff, reduceIte]
        rw [gc_loc (n := 10) (xs := (nextW m W).map elK) rfl rfl (by simp)]
        rfl
      · simp only [fl5, go_sem, Nat.reduceEqDiff, Nat.reduceAdd, Nat.reduceSub, Nat.reduceMul, Nat.reduceLT, Nat.reduceLeDiff, Nat.reduceMod, Nat.reduceDiv, Int.reduceToNat, Int.reduceLT, Int.reduceLE, Bool.not_true, Bool.not_false, reduceIte, Int.reduceEq, Int.reduceBEq, Int.reduceBNe, Int.reduceGT, Int.reduceGE, Int.reduceNeg, Int.reduceAdd, Int.reduceSub, Nat.reduceBEq, decide_true, decide_false, undef, beq_self_eq_true, bne_self_eq_false, Bool.and_true, Bool.true_and, Bool.and_false, Bool.false_and, Bool.or_true, Bool.true_or, Bool.or_false, Bool.false_or, undef, List.length_map, g]
        exact finL_ret [] ⟨rfl, rfl, rfl, rfl, _, rfl, ⟨rfl, .inl rfl⟩⟩
  · rintro s ⟨hWl, rfl⟩
    simp only [go_sem, Nat.reduceEqDiff, Nat.reduceAdd, Nat.reduceSub, Nat.reduceMul, Nat.reduceLT, Nat.reduceLeDiff, Nat.reduceMod, Nat.reduceDiv, Int.reduceToNat, Int.reduceLT, Int.reduceLE, Bool.not_true, Bool.not_false, reduceIte, Int.reduceEq, Int.reduceBEq, Int.reduceBNe, Int.reduceGT, Int.reduceGE, Int.reduceNeg, Int.reduceAdd, Int.reduceSub, Nat.reduceBEq, decide_true, decide_false, undef, beq_self_eq_true, bne_self_eq_false, Bool.and_true, Bool.true_and, Bool.and_false, Bool.false_and, Bool.or_true, Bool.true_or, Bool.or_false, Bool.false_or, undef]
    exact finL_ret [] ⟨rfl, rfl, rfl, rfl, _, rfl, ⟨rfl, .inr ⟨hWl, rfl⟩⟩⟩
end Go.Proofs.YtkbjodmpmmnhgaaDoor
