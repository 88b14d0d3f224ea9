/- Proved here: laws that the statements need (BoC39, BoX4). No conditions but those that each law states. -/
import Derived.Test.YtafcdpmcmmfbhaaDoorFL
import Derived.Test.YtafcdpmcmmfbhaaDoorProg
import Derived.Test.YtafcdpmcmmfbhaaDoorBK

set_option linter.unusedSimpArgs false
set_option linter.unusedVariables false

/- Compiled code of functions, printed by program; each is checked to be the program's. No conditions. -/
namespace Go.Proofs.YtafcdpmcmmfbhaaDoor
open Go Go.Ab
/-- dipworks/dipworkslaw12.BoatMet -/
def c9 : AC :=
 .seq (.reg [⟨(some 5), none, .box (.tmp 0)⟩,
 ⟨(some 10), none, .mov (.lit (.bool false))⟩])
 (.seq (.seq (.reg [⟨(some 34), none, .load true 5 (.tmp 5)⟩,
 ⟨(some 35), none, .call (.fn 32) [(.tmp 34)]⟩,
 ⟨(some 36), none, .un .not (.tmp 35)⟩,
 ⟨(some 37), none, .mov (.tmp 36)⟩,
 ⟨(some 38), (some (37, false)), .faddr 4 (.tmp 5)⟩,
 ⟨(some 39), (some (37, false)), .load false 1 (.tmp 38)⟩,
 ⟨(some 40), (some (37, false)), .len (.tmp 39)⟩,
 ⟨(some 41), (some (37, false)), .bin .eql (.tmp 40) (.lit (.int .i64 0))⟩,
 ⟨(some 42), none, .pick (.tmp 37) (.lit (.bool true)) (.tmp 41)⟩])
 (.cond (.tmp 42) (.seq (.reg [⟨(some 43), none, .call (.fn 15) []⟩,
 ⟨(some 10), none, .mov (.tmp 43)⟩])
 (.ret))
 (.skip)))
 (.seq (.draw (.step ⟨(some 44), none, .mov (.tmp 1)⟩ (
 .step ⟨(some 45), none, .conv .i64 (.tmp 44)⟩ (
 .step ⟨(some 46), none, .faddr 4 (.tmp 5)⟩ (
 .step ⟨(some 47), none, .load false 1 (.tmp 46)⟩ (
 .step ⟨(some 48), none, .len (.tmp 47)⟩ (
 .step ⟨(some 49), none, .bin .rem (.tmp 45) (.tmp 48)⟩ (
 .step ⟨(some 50), none, .mov (.tmp 2)⟩ (
 .step ⟨(some 51), none, .conv .i64 (.tmp 50)⟩ (
 .step ⟨(some 52), none, .faddr 4 (.tmp 5)⟩ (
 .step ⟨(some 53), none, .load false 1 (.tmp 52)⟩ (
 .step ⟨(some 54), none, .len (.tmp 53)⟩ (
 .step ⟨(some 55), none, .bin .rem (.tmp 51) (.tmp 54)⟩ (
 .step ⟨(some 56), none, .mov (.tmp 3)⟩ (
 .step ⟨(some 57), none, .conv .i64 (.tmp 56)⟩ (
 .step ⟨(some 58), none, .faddr 3 (.tmp 5)⟩ (
 .step ⟨(some 59), none, .load false 1 (.tmp 58)⟩ (
 .step ⟨(some 60), none, .bin .add (.tmp 59) (.lit (.int .i64 1))⟩ (
 .step ⟨(some 61), none, .bin .rem (.tmp 57) (.tmp 60)⟩ (
 .step ⟨(some 62), none, .mov (.tmp 4)⟩ (
 .step ⟨(some 63), none, .conv .i64 (.tmp 62)⟩ (
 .step ⟨(some 64), none, .load true 5 (.tmp 5)⟩ (
 .ev ⟨(some 65), none, .call (.fn 35) [(.tmp 64)]⟩ [⟨(some 59), none, .load false 1 (.tmp 58)⟩, ⟨(some 58), none, .faddr 3 (.tmp 5)⟩, ⟨(some 54), none, .len (.tmp 53)⟩, ⟨(some 53), none, .load false 1 (.tmp 52)⟩, ⟨(some 52), none, .faddr 4 (.tmp 5)⟩, ⟨(some 48), none, .len (.tmp 47)⟩, ⟨(some 47), none, .load false 1 (.tmp 46)⟩, ⟨(some 46), none, .faddr 4 (.tmp 5)⟩] (
 .step ⟨(some 66), none, .bin .rem (.tmp 63) (.tmp 65)⟩ (
 .step ⟨(some 11), none, .mov (.tmp 49)⟩ (
 .step ⟨(some 12), none, .mov (.tmp 55)⟩ (
 .step ⟨(some 13), none, .mov (.tmp 61)⟩ (
 .step ⟨(some 14), none, .mov (.tmp 66)⟩ (
 .done))))))
 (.stop))))))))))))))))))))))))
 (.seq (.reg [⟨(some 68), none, .load true 5 (.tmp 5)⟩,
 ⟨(some 69), none, .mov (.tmp 11)⟩,
 ⟨(some 70), none, .mov (.tmp 12)⟩,
 ⟨(some 71), none, .call (.fn 24) [(.tmp 68), (.tmp 69), (.tmp 70)]⟩,
 ⟨(some 67), none, .mov (.tmp 71)⟩,
 ⟨(some 72), none, .ext (.tmp 67) 0⟩,
 ⟨(some 73), none, .ext (.tmp 67) 1⟩,
 ⟨(some 15), none, .mov (.tmp 72)⟩,
 ⟨(some 16), none, .mov (.tmp 73)⟩])
 (.seq (.reg [⟨(some 75), none, .load true 5 (.tmp 5)⟩,
 ⟨(some 76), none, .mov (.tmp 11)⟩,
 ⟨(some 77), none, .call (.fn 37) [(.tmp 75), (.tmp 76), (.lit (.int .i64 0))]⟩,
 ⟨(some 74), none, .mov (.tmp 77)⟩,
 ⟨(some 78), none, .ext (.tmp 74) 0⟩,
 ⟨(some 79), none, .ext (.tmp 74) 1⟩,
 ⟨(some 17), none, .mov (.tmp 78)⟩,
 ⟨(some 18), none, .mov (.tmp 79)⟩])
 (.seq (.reg [⟨(some 81), none, .load true 5 (.tmp 5)⟩,
 ⟨(some 82), none, .mov (.tmp 12)⟩,
 ⟨(some 83), none, .call (.fn 37) [(.tmp 81), (.tmp 82), (.lit (.int .i64 0))]⟩,
 ⟨(some 80), none, .mov (.tmp 83)⟩,
 ⟨(some 84), none, .ext (.tmp 80) 0⟩,
 ⟨(some 85), none, .ext (.tmp 80) 1⟩,
 ⟨(some 19), none, .mov (.tmp 84)⟩,
 ⟨(some 20), none, .mov (.tmp 85)⟩])
 (.seq (.seq (.reg [⟨(some 86), none, .mov (.tmp 18)⟩,
 ⟨(some 87), none, .un .not (.tmp 86)⟩,
 ⟨(some 88), none, .mov (.tmp 87)⟩,
 ⟨(some 89), (some (88, false)), .mov (.tmp 20)⟩,
 ⟨(some 90), (some (88, false)), .un .not (.tmp 89)⟩,
 ⟨(some 91), none, .pick (.tmp 88) (.lit (.bool true)) (.tmp 90)⟩])
 (.cond (.tmp 91) (.seq (.reg [⟨(some 92), none, .mov (.tmp 16)⟩,
 ⟨(some 93), none, .bin .eql (.tmp 92) (.lit (.int .i64 10))⟩,
 ⟨(some 94), none, .mov (.tmp 93)⟩,
 ⟨(some 95), (some (94, true)), .mov (.tmp 15)⟩,
 ⟨(some 96), (some (94, true)), .bin .eql (.tmp 95) (.lit (.int .i64 0))⟩,
 ⟨(some 97), none, .pick (.tmp 94) (.tmp 96) (.lit (.bool false))⟩,
 ⟨(some 98), none, .mov (.tmp 97)⟩,
 ⟨(some 99), (some (98, true)), .call (.fn 15) []⟩,
 ⟨(some 100), none, .pick (.tmp 98) (.tmp 99) (.lit (.bool false))⟩,
 ⟨(some 10), none, .mov (.tmp 100)⟩])
 (.ret))
 (.skip)))
 (.seq (.seq (.reg [⟨(some 101), none, .mov (.tmp 16)⟩,
 ⟨(some 102), none, .bin .neq (.tmp 101) (.lit (.int .i64 0))⟩,
 ⟨(some 103), none, .mov (.tmp 102)⟩,
 ⟨(some 104), (some (103, true)), .mov (.tmp 16)⟩,
 ⟨(some 105), (some (103, true)), .bin .neq (.tmp 104) (.lit (.int .i64 4))⟩,
 ⟨(some 106), none, .pick (.tmp 103) (.tmp 105) (.lit (.bool false))⟩,
 ⟨(some 107), none, .mov (.tmp 106)⟩,
 ⟨(some 108), (some (107, false)), .mov (.tmp 11)⟩,
 ⟨(some 109), (some (107, false)), .mov (.tmp 12)⟩,
 ⟨(some 110), (some (107, false)), .bin .eql (.tmp 108) (.tmp 109)⟩,
 ⟨(some 111), (some (107, false)), .mov (.tmp 110)⟩,
 ⟨(some 112), (some (111, true)), .mov (.tmp 16)⟩,
 ⟨(some 113), (some (111, true)), .bin .neq (.tmp 112) (.lit (.int .i64 0))⟩,
 ⟨(some 114), (some (111, true)), .mov (.tmp 113)⟩,
 ⟨(some 115), (some (114, false)), .mov (.tmp 15)⟩,
 ⟨(some 116), (some (114, false)), .bin .neq (.tmp 115) (.lit (.int .i64 0))⟩,
 ⟨(some 117), (some (111, true)), .pick (.tmp 114) (.lit (.bool true)) (.tmp 116)⟩,
 ⟨(some 118), (some (107, false)), .pick (.tmp 111) (.tmp 117) (.lit (.bool false))⟩,
 ⟨(some 119), none, .pick (.tmp 107) (.lit (.bool true)) (.tmp 118)⟩])
 (.cond (.tmp 119) (.seq (.reg [⟨(some 10), none, .mov (.lit (.bool false))⟩])
 (.ret))
 (.skip)))
 (.seq (.seq (.reg [⟨(some 120), none, .faddr 3 (.tmp 5)⟩,
 ⟨(some 121), none, .load false 1 (.tmp 120)⟩,
 ⟨(some 122), none, .bin .add (.tmp 121) (.lit (.int .i64 1))⟩,
 ⟨(some 123), none, .mov (.lit (.int .i64 0))⟩])
 (.block 0 (.loop (.seq (.reg [⟨(some 124), none, .bin .lss (.tmp 123) (.tmp 122)⟩])
 (.seq (.cond (.tmp 124) (.skip)
 (.exit 0))
 (.seq (.block 1 (.seq (.reg [⟨(some 125), none, .mov (.tmp 123)⟩,
 ⟨(some 21), none, .mov (.tmp 125)⟩])
 (.seq (.reg [⟨(some 127), none, .load true 5 (.tmp 5)⟩,
 ⟨(some 128), none, .mov (.tmp 11)⟩,
 ⟨(some 129), none, .mov (.tmp 21)⟩,
 ⟨(some 130), none, .call (.fn 16) [(.tmp 127), (.tmp 128), (.tmp 129)]⟩,
 ⟨(some 126), none, .mov (.tmp 130)⟩,
 ⟨(some 131), none, .ext (.tmp 126) 0⟩,
 ⟨(some 132), none, .ext (.tmp 126) 1⟩,
 ⟨(some 22), none, .mov (.tmp 131)⟩,
 ⟨(some 23), none, .mov (.tmp 132)⟩])
 (.seq (.reg [⟨(some 134), none, .load true 5 (.tmp 5)⟩,
 ⟨(some 135), none, .mov (.tmp 12)⟩,
 ⟨(some 136), none, .mov (.tmp 21)⟩,
 ⟨(some 137), none, .call (.fn 16) [(.tmp 134), (.tmp 135), (.tmp 136)]⟩,
 ⟨(some 133), none, .mov (.tmp 137)⟩,
 ⟨(some 138), none, .ext (.tmp 133) 0⟩,
 ⟨(some 139), none, .ext (.tmp 133) 1⟩,
 ⟨(some 24), none, .mov (.tmp 138)⟩,
 ⟨(some 25), none, .mov (.tmp 139)⟩])
 (.seq (.reg [⟨(some 140), none, .mov (.tmp 23)⟩,
 ⟨(some 141), none, .bin .neq (.tmp 140) (.lit (.int .i64 0))⟩,
 ⟨(some 142), none, .mov (.tmp 141)⟩,
 ⟨(some 143), (some (142, false)), .mov (.tmp 25)⟩,
 ⟨(some 144), (some (142, false)), .bin .neq (.tmp 143) (.lit (.int .i64 0))⟩,
 ⟨(some 145), none, .pick (.tmp 142) (.lit (.bool true)) (.tmp 144)⟩,
 ⟨(some 146), none, .mov (.tmp 145)⟩,
 ⟨(some 147), (some (146, false)), .mov (.tmp 16)⟩,
 ⟨(some 148), (some (146, false)), .bin .eql (.tmp 147) (.lit (.int .i64 0))⟩,
 ⟨(some 149), (some (146, false)), .mov (.tmp 148)⟩,
 ⟨(some 150), (some (149, true)), .mov (.tmp 21)⟩,
 ⟨(some 151), (some (149, true)), .mov (.tmp 15)⟩,
 ⟨(some 152), (some (149, true)), .bin .lss (.tmp 150) (.tmp 151)⟩,
 ⟨(some 153), (some (149, true)), .mov (.tmp 152)⟩,
 ⟨(some 154), (some (153, true)), .mov (.tmp 22)⟩,
 ⟨(some 155), (some (153, true)), .mov (.tmp 24)⟩,
 ⟨(some 156), (some (153, true)), .bin .and (.tmp 154) (.tmp 155)⟩,
 ⟨(some 157), (some (153, true)), .bin .neq (.tmp 156) (.lit (.int .i64 0))⟩,
 ⟨(some 158), (some (149, true)), .pick (.tmp 153) (.tmp 157) (.lit (.bool false))⟩,
 ⟨(some 159), (some (149, true)), .mov (.tmp 158)⟩,
 ⟨(some 160), (some (159, false)), .mov (.tmp 21)⟩,
 ⟨(some 161), (some (159, false)), .mov (.tmp 15)⟩,
 ⟨(some 162), (some (159, false)), .bin .eql (.tmp 160) (.tmp 161)⟩,
 ⟨(some 163), (some (159, false)), .mov (.tmp 162)⟩,
 ⟨(some 164), (some (163, true)), .mov (.tmp 22)⟩,
 ⟨(some 165), (some (163, true)), .mov (.tmp 24)⟩,
 ⟨(some 166), (some (163, true)), .bin .and (.tmp 164) (.tmp 165)⟩,
 ⟨(some 167), (some (163, true)), .bin .eql (.tmp 166) (.lit (.int .i64 0))⟩,
 ⟨(some 168), (some (159, false)), .pick (.tmp 163) (.tmp 167) (.lit (.bool false))⟩,
 ⟨(some 169), (some (149, true)), .pick (.tmp 159) (.lit (.bool true)) (.tmp 168)⟩,
 ⟨(some 170), (some (146, false)), .pick (.tmp 149) (.tmp 169) (.lit (.bool false))⟩,
 ⟨(some 171), none, .pick (.tmp 146) (.lit (.bool true)) (.tmp 170)⟩,
 ⟨(some 172), none, .mov (.tmp 171)⟩,
 ⟨(some 173), (some (172, false)), .mov (.tmp 16)⟩,
 ⟨(some 174), (some (172, false)), .bin .neq (.tmp 173) (.lit (.int .i64 0))⟩,
 ⟨(some 175), (some (172, false)), .mov (.tmp 174)⟩,
 ⟨(some 176), (some (175, true)), .mov (.tmp 22)⟩,
 ⟨(some 177), (some (175, true)), .mov (.tmp 24)⟩,
 ⟨(some 178), (some (175, true)), .bin .and (.tmp 176) (.tmp 177)⟩,
 ⟨(some 179), (some (175, true)), .bin .neq (.tmp 178) (.lit (.int .i64 0))⟩,
 ⟨(some 180), (some (172, false)), .pick (.tmp 175) (.tmp 179) (.lit (.bool false))⟩,
 ⟨(some 181), none, .pick (.tmp 172) (.lit (.bool true)) (.tmp 180)⟩])
 (.cond (.tmp 181) (.seq (.reg [⟨(some 10), none, .mov (.lit (.bool false))⟩])
 (.ret))
 (.skip)))))))
 (.reg [⟨(some 182), none, .bin .add (.tmp 123) (.lit (.int .i64 1))⟩,
 ⟨(some 123), none, .mov (.tmp 182)⟩])))))))
 (.seq (.reg [⟨(some 184), none, .load true 5 (.tmp 5)⟩,
 ⟨(some 185), none, .mov (.tmp 13)⟩,
 ⟨(some 186), none, .mov (.tmp 14)⟩,
 ⟨(some 187), none, .call (.fn 26) [(.tmp 184), (.tmp 185), (.tmp 186)]⟩,
 ⟨(some 183), none, .mov (.tmp 187)⟩,
 ⟨(some 188), none, .ext (.tmp 183) 0⟩,
 ⟨(some 189), none, .ext (.tmp 183) 1⟩,
 ⟨(some 190), none, .ext (.tmp 183) 2⟩,
 ⟨(some 26), none, .mov (.tmp 188)⟩,
 ⟨(some 27), none, .mov (.tmp 189)⟩,
 ⟨(some 28), none, .mov (.tmp 190)⟩])
 (.seq (.reg [⟨(some 29), none, .mov (.lit (.int .i64 0))⟩,
 ⟨(some 30), none, .mov (.lit (.int .i64 0))⟩])
 (.seq (.seq (.reg [⟨(some 191), none, .faddr 4 (.tmp 5)⟩,
 ⟨(some 192), none, .load false 1 (.tmp 191)⟩,
 ⟨(some 193), none, .len (.tmp 192)⟩,
 ⟨(some 194), none, .mov (.lit (.int .i64 0))⟩])
 (.block 2 (.loop (.seq (.reg [⟨(some 195), none, .bin .lss (.tmp 194) (.tmp 193)⟩])
 (.seq (.cond (.tmp 195) (.skip)
 (.exit 2))
 (.seq (.block 3 (.seq (.reg [⟨(some 196), none, .mov (.tmp 194)⟩,
 ⟨(some 31), none, .mov (.tmp 196)⟩])
 (.seq (.reg [⟨(some 198), none, .load true 5 (.tmp 5)⟩,
 ⟨(some 199), none, .mov (.tmp 31)⟩,
 ⟨(some 200), none, .mov (.tmp 13)⟩,
 ⟨(some 201), none, .call (.fn 16) [(.tmp 198), (.tmp 199), (.tmp 200)]⟩,
 ⟨(some 197), none, .mov (.tmp 201)⟩,
 ⟨(some 202), none, .ext (.tmp 197) 0⟩,
 ⟨(some 203), none, .ext (.tmp 197) 1⟩,
 ⟨(some 32), none, .mov (.tmp 202)⟩,
 ⟨(some 33), none, .mov (.tmp 203)⟩])
 (.seq (.seq (.reg [⟨(some 204), none, .mov (.tmp 33)⟩,
 ⟨(some 205), none, .bin .neq (.tmp 204) (.lit (.int .i64 0))⟩])
 (.cond (.tmp 205) (.seq (.reg [⟨(some 206), none, .mov (.tmp 28)⟩,
 ⟨(some 207), none, .bin .eql (.tmp 206) (.lit (.int .i64 10))⟩,
 ⟨(some 208), none, .mov (.tmp 207)⟩,
 ⟨(some 209), (some (208, true)), .mov (.tmp 26)⟩,
 ⟨(some 210), (some (208, true)), .bin .eql (.tmp 209) (.lit (.int .i64 0))⟩,
 ⟨(some 211), none, .pick (.tmp 208) (.tmp 210) (.lit (.bool false))⟩,
 ⟨(some 212), none, .mov (.tmp 211)⟩,
 ⟨(some 213), (some (212, true)), .mov (.tmp 27)⟩,
 ⟨(some 214), (some (212, true)), .bin .eql (.tmp 213) (.lit (.int .i64 0))⟩,
 ⟨(some 215), none, .pick (.tmp 212) (.tmp 214) (.lit (.bool false))⟩,
 ⟨(some 216), none, .mov (.tmp 215)⟩,
 ⟨(some 217), (some (216, true)), .call (.fn 15) []⟩,
 ⟨(some 218), none, .pick (.tmp 216) (.tmp 217) (.lit (.bool false))⟩,
 ⟨(some 10), none, .mov (.tmp 218)⟩])
 (.ret))
 (.skip)))
 (.seq (.seq (.reg [⟨(some 219), none, .mov (.tmp 32)⟩,
 ⟨(some 220), none, .mov (.tmp 14)⟩,
 ⟨(some 221), none, .bin .shr (.tmp 219) (.tmp 220)⟩,
 ⟨(some 222), none, .bin .and (.tmp 221) (.lit (.int .i64 1))⟩,
 ⟨(some 223), none, .bin .eql (.tmp 222) (.lit (.int .i64 1))⟩])
 (.cond (.tmp 223) (.reg [⟨(some 224), none, .mov (.tmp 29)⟩,
 ⟨(some 225), none, .mov (.tmp 31)⟩,
 ⟨(some 226), none, .bin .shl (.lit (.int .i64 1)) (.tmp 225)⟩,
 ⟨(some 227), none, .bin .or (.tmp 224) (.tmp 226)⟩,
 ⟨(some 29), none, .mov (.tmp 227)⟩])
 (.skip)))
 (.seq (.reg [⟨(some 228), none, .mov (.tmp 32)⟩,
 ⟨(some 229), none, .mov (.tmp 14)⟩,
 ⟨(some 230), none, .bin .shl (.lit (.int .i64 1)) (.tmp 229)⟩,
 ⟨(some 231), none, .bin .eql (.tmp 228) (.tmp 230)⟩])
 (.cond (.tmp 231) (.reg [⟨(some 232), none, .mov (.tmp 30)⟩,
 ⟨(some 233), none, .mov (.tmp 31)⟩,
 ⟨(some 234), none, .bin .shl (.lit (.int .i64 1)) (.tmp 233)⟩,
 ⟨(some 235), none, .bin .or (.tmp 232) (.tmp 234)⟩,
 ⟨(some 30), none, .mov (.tmp 235)⟩])
 (.skip))))))))
 (.reg [⟨(some 236), none, .bin .add (.tmp 194) (.lit (.int .i64 1))⟩,
 ⟨(some 194), none, .mov (.tmp 236)⟩])))))))
 (.seq (.reg [⟨(some 237), none, .mov (.tmp 28)⟩,
 ⟨(some 238), none, .bin .eql (.tmp 237) (.lit (.int .i64 0))⟩,
 ⟨(some 239), none, .mov (.tmp 238)⟩,
 ⟨(some 240), (some (239, true)), .mov (.tmp 26)⟩,
 ⟨(some 241), (some (239, true)), .mov (.tmp 30)⟩,
 ⟨(some 242), (some (239, true)), .bin .eql (.tmp 240) (.tmp 241)⟩,
 ⟨(some 243), none, .pick (.tmp 239) (.tmp 242) (.lit (.bool false))⟩,
 ⟨(some 244), none, .mov (.tmp 243)⟩,
 ⟨(some 245), (some (244, true)), .mov (.tmp 27)⟩,
 ⟨(some 246), (some (244, true)), .mov (.tmp 29)⟩,
 ⟨(some 247), (some (244, true)), .bin .eql (.tmp 245) (.tmp 246)⟩,
 ⟨(some 248), none, .pick (.tmp 244) (.tmp 247) (.lit (.bool false))⟩,
 ⟨(some 249), none, .mov (.tmp 248)⟩,
 ⟨(some 250), (some (249, true)), .call (.fn 15) []⟩,
 ⟨(some 251), none, .pick (.tmp 249) (.tmp 250) (.lit (.bool false))⟩,
 ⟨(some 10), none, .mov (.tmp 251)⟩])
 (.ret)))))))))))))
theorem k9 : FnC Tryd.prog 9 252 [] [] [.tmp 10] c9 5 := ⟨Tryd.f9, _, Tryd.func9, rfl, by decide, rfl, by decide, by kernel_rfl, by kernel_rfl⟩
end Go.Proofs.YtafcdpmcmmfbhaaDoor

/- BoatMet. -/
namespace Go.Proofs.YtafcdpmcmmfbhaaDoor
open Go Go.Ab

def Me1 (b : Bo) (x y m p : Nat) (st : St) : Prop := lk st.env 5 = .ptr 0 0 ∧ lk st.env 11 = .t (vi x) ∧ lk st.env 12 = .t (vi y) ∧ lk st.env 13 = .t (vi m) ∧ lk st.env 14 = .t (vi p) ∧ lk st.env 15 = .t (vi (spP (metR b x y)).1) ∧ lk st.env 16 = .t (vi (spP (metR b x y)).2) ∧ st.σ = [.cells ((bo5 b).map .t)] ∧ st.df = [] ∧ st.k = 0
def Me2 (b : Bo) (m p : Nat) (st : St) : Prop := lk st.env 5 = .ptr 0 0 ∧ lk st.env 13 = .t (vi m) ∧ lk st.env 14 = .t (vi p) ∧ st.σ = [.cells ((bo5 b).map .t)] ∧ st.df = [] ∧ st.k = 0
set_option maxRecDepth 8000 in
set_option maxHeartbeats 8000000 in
theorem BoatMet_ok (b : Bo) (hL : Lens b) (u : Nat) (hu : u < 256) (w : Nat) (hw : w < 256) (v : Nat) (hv : v < 256) (z : Nat) (hz : z < 256) : ACall Tryd.prog 9 [.t (.agg (bo5 b)), .t (.lit (.int .u8 u)), .t (.lit (.int .u8 w)), .t (.lit (.int .u8 v)), .t (.lit (.int .u8 z))] [] (res (.ret (.t (vb true)))) := by
  refine ACall.walk k9 ?_
  have h32 := fine_ok b hL
  unfold c9
  refine awpL_chop 8 (c1 := ?a1) (c2 := ?a2) (fun st => b.OK ∧ ∃ x y m p : Nat, x < b.seen.length ∧ y < b.seen.length ∧ m ≤ b.L ∧ p < b.N ∧ isT b x = true ∧ isT b y = true ∧ Me1 b x y m p st) ?hc ?_ ?_
  case hc => simp only [chop]; rfl
  · unfold bo5 at h32 ⊢
    simp only [go_sem, Nat.reduceEqDiff, Nat.reduceAdd, Nat.reduceSub, Nat.reduceMul, Nat.reduceLT, Nat.reduceLeDiff, Nat.reduceMod, Nat.reduceDiv, Int.reduceToNat, Int.reduceLT, Int.reduceLE, Bool.not_true, Bool.not_false, reduceIte, Int.reduceEq, Int.reduceBEq, Int.reduceBNe, Int.reduceGT, Int.reduceGE, Int.reduceNeg, Int.reduceAdd, Int.reduceSub, Nat.reduceBEq, decide_true, decide_false, undef, beq_self_eq_true, bne_self_eq_false, Bool.and_true, Bool.true_and, Bool.and_false, Bool.false_and, Bool.or_true, Bool.true_or, Bool.or_false, Bool.false_or]
    refine ACallL.quiet1 h32 rfl rfl rfl ?_
    cases hF : fineB b
    · simp only [go_sem, Nat.reduceEqDiff, Nat.reduceAdd, Nat.reduceSub, Nat.reduceMul, Nat.reduceLT, Nat.reduceLeDiff, Nat.reduceMod, Nat.reduceDiv, Int.reduceToNat, Int.reduceLT, Int.reduceLE, Bool.not_true, Bool.not_false, reduceIte, Int.reduceEq, Int.reduceBEq, Int.reduceBNe, Int.reduceGT, Int.reduceGE, Int.reduceNeg, Int.reduceAdd, Int.reduceSub, Nat.reduceBEq, decide_true, decide_false, undef, beq_self_eq_true, bne_self_eq_false, Bool.and_true, Bool.true_and, Bool.and_false, Bool.false_and, Bool.or_true, Bool.true_or, Bool.or_false, Bool.false_or, undef]
      refine ACallL.quiet1 awake_ok rfl rfl rfl ?_
      simp only [go_sem, Nat.reduceEqDiff, Nat.reduceAdd, Nat.reduceSub, Nat.reduceMul, Nat.reduceLT, Nat.reduceLeDiff, Nat.reduceMod, Nat.reduceDiv, Int.reduceToNat, Int.reduceLT, Int.reduceLE, Bool.not_true, Bool.not_false, reduceIte, Int.reduceEq, Int.reduceBEq, Int.reduceBNe, Int.reduceGT, Int.reduceGE, Int.reduceNeg, Int.reduceAdd, Int.reduceSub, Nat.reduceBEq, decide_true, decide_false, undef, beq_self_eq_true, bne_self_eq_false, Bool.and_true, Bool.true_and, Bool.and_false, Bool.false_and, Bool.or_true, Bool.true_or, Bool.or_false, Bool.false_or, undef]
      exact finL_ret [] ⟨rfl, rfl, rfl, rfl, _, rfl, res_mk rfl⟩
    obtain ⟨hok, hb⟩ := fine_iff hF
    have hnh := hb.num
    simp only [go_sem, Nat.reduceEqDiff, Nat.reduceAdd, Nat.reduceSub, Nat.reduceMul, Nat.reduceLT, Nat.reduceLeDiff, Nat.reduceMod, Nat.reduceDiv, Int.reduceToNat, Int.reduceLT, Int.reduceLE, Bool.not_true, Bool.not_false, reduceIte, Int.reduceEq, Int.reduceBEq, Int.reduceBNe, Int.reduceGT, Int.reduceGE, Int.reduceNeg, Int.reduceAdd, Int.reduceSub, Nat.reduceBEq, decide_true, decide_false, undef, beq_self_eq_true, bne_self_eq_false, Bool.and_true, Bool.true_and, Bool.and_false, Bool.false_and, Bool.or_true, Bool.true_or, Bool.or_false, Bool.false_or, undef, List.length_map]
    cases h0 : ((b.seen.length : Int) == 0)
    rotate_left
    · simp only [go_sem, Nat.reduceEqDiff, Nat.reduceAdd, Nat.reduceSub, Nat.reduceMul, Nat.reduceLT, Nat.reduceLeDiff, Nat.reduceMod, Nat.reduceDiv, Int.reduceToNat, Int.reduceLT, Int.reduceLE, Bool.not_true, Bool.not_false, reduceIte, Int.reduceEq, Int.reduceBEq, Int.reduceBNe, Int.reduceGT, Int.reduceGE, Int.reduceNeg, Int.reduceAdd, Int.reduceSub, Nat.reduceBEq, decide_true, decide_false, undef, beq_self_eq_true, bne_self_eq_false, Bool.and_true, Bool.true_and, Bool.and_false, Bool.false_and, Bool.or_true, Bool.true_or, Bool.or_false, Bool.false_or, undef, h0]
      refine ACallL.quiet1 awake_ok rfl rfl rfl ?_
      simp only [go_sem, Nat.reduceEqDiff, Nat.reduceAdd, Nat.reduceSub, Nat.reduceMul, Nat.reduceLT, Nat.reduceLeDiff, Nat.reduceMod, Nat.reduceDiv, Int.reduceToNat, Int.reduceLT, Int.reduceLE, Bool.not_true, Bool.not_false, reduceIte, Int.reduceEq, Int.reduceBEq, Int.reduceBNe, Int.reduceGT, Int.reduceGE, Int.reduceNeg, Int.reduceAdd, Int.reduceSub, Nat.reduceBEq, decide_true, decide_false, undef, beq_self_eq_true, bne_self_eq_false, Bool.and_true, Bool.true_and, Bool.and_false, Bool.false_and, Bool.or_true, Bool.true_or, Bool.or_false, Bool.false_or, undef]
      exact finL_ret [] ⟨rfl, rfl, rfl, rfl, _, rfl, res_mk rfl⟩
    have n0 : ¬ ((b.seen.length : Int) = 0) := by simpa using h0
    have hx : u % b.seen.length < b.seen.length := Nat.mod_lt _ (by omega)
    have hy : w % b.seen.length < b.seen.length := Nat.mod_lt _ (by omega)
    have hLb := hb.L
    have hNb := hb.N
    have hm : v % (b.L + 1) ≤ b.L := by have := Nat.mod_lt v (show 0 < b.L + 1 by omega); omega
    have hp : z % b.N < b.N := Nat.mod_lt _ (by omega)
    have t1 := mod_nat u b.seen.length
    have t2 := mod_nat w b.seen.length
    have t3 := mod_nat v (b.L + 1)
    have t4 := mod_nat z b.N
    have w0 : IntKind.i64.wrap (u : Int) = u := wrap_id (by omega) (by omega)
    have w1 : IntKind.i64.wrap (w : Int) = w := wrap_id (by omega) (by omega)
    have w2 : IntKind.i64.wrap (v : Int) = v := wrap_id (by omega) (by omega)
    have w3 : IntKind.i64.wrap (z : Int) = z := wrap_id (by omega) (by omega)
    have w4 : IntKind.i64.wrap (b.last + 1) = ((b.L + 1 : Nat) : Int) := by rw [wrap_id (by omega) (by omega)]; omega
    have n1 : ¬ (((b.L + 1 : Nat) : Int) = 0) := by omega
    have n2 : ¬ ((b.N : Int) = 0) := by omega
    have h35 := places_ok b
    rw [hNb.2.2, wrap_id (n := (b.N : Int)) (by omega) (by omega)] at h35
    have h24 := Met_ok b hL (u % b.seen.length : Nat) (w % b.seen.length : Nat)
    rw [specMet_ok hb hx hy] at h24
    have h37 := set_ok b hL hb (u % b.seen.length) 0 hx (Nat.zero_le _)
    have h37' := set_ok b hL hb (w % b.seen.length) 0 hy (Nat.zero_le _)
    have hself := fun h => met_self hb (i := u % b.seen.length) h
    generalize u % b.seen.length = x at *
    generalize w % b.seen.length = y at *
    generalize v % (b.L + 1) = m at *
    generalize z % b.N = p at *
    generalize tN (placesL (canN b x 0) b.N) = l1 at *
    generalize tN (placesL (canN b y 0) b.N) = l2 at *
    generalize hix : isT b x = ix at *
    generalize hiy : isT b y = iy at *
    simp only [oneE, bo5] at h24 h35 h37 h37'
    simp only [go_sem, Nat.reduceEqDiff, Nat.reduceAdd, Nat.reduceSub, Nat.reduceMul, Nat.reduceLT, Nat.reduceLeDiff, Nat.reduceMod, Nat.reduceDiv, Int.reduceToNat, Int.reduceLT, Int.reduceLE, Bool.not_true, Bool.not_false, reduceIte, Int.reduceEq, Int.reduceBEq, Int.reduceBNe, Int.reduceGT, Int.reduceGE, Int.reduceNeg, Int.reduceAdd, Int.reduceSub, Nat.reduceBEq, decide_true, decide_false, undef, beq_self_eq_true, bne_self_eq_false, Bool.and_true, Bool.true_and, Bool.and_false, Bool.false_and, Bool.or_true, Bool.true_or, Bool.or_false, Bool.false_or, undef, List.length_map, h0, n0, w0, w1, w2, w3, w4, n1, t1, t2, t3]
    refine ACallL.quiet1 h35 rfl rfl rfl ?_
    simp only [go_sem, Nat.reduceEqDiff, Nat.reduceAdd, Nat.reduceSub, Nat.reduceMul, Nat.reduceLT, Nat.reduceLeDiff, Nat.reduceMod, Nat.reduceDiv, Int.reduceToNat, Int.reduceLT, Int.reduceLE, Bool.not_true, Bool.not_false, reduceIte, Int.reduceEq, Int.reduceBEq, Int.reduceBNe, Int.reduceGT, Int.reduceGE, Int.reduceNeg, Int.reduceAdd, Int.reduceSub, Nat.reduceBEq, decide_true, decide_false, undef, beq_self_eq_true, bne_self_eq_false, Bool.and_true, Bool.true_and, Bool.and_false, Bool.false_and, Bool.or_true, Bool.true_or, Bool.or_false, Bool.false_or, undef, List.length_map, h0, n0, w0, w1, w2, w3, w4, n1, n2, t1, t2, t3, t4]
    cases ix
    · simp only [Bool.false_and, Bool.and_false, Bool.false_eq_true, if_false] at h24
      refine ACallL.quiet1 h24 rfl rfl rfl ?_
      simp only [go_sem, Nat.reduceEqDiff, Nat.reduceAdd, Nat.reduceSub, Nat.reduceMul, Nat.reduceLT, Nat.reduceLeDiff, Nat.reduceMod, Nat.reduceDiv, Int.reduceToNat, Int.reduceLT, Int.reduceLE, Bool.not_true, Bool.not_false, reduceIte, Int.reduceEq, Int.reduceBEq, Int.reduceBNe, Int.reduceGT, Int.reduceGE, Int.reduceNeg, Int.reduceAdd, Int.reduceSub, Nat.reduceBEq, decide_true, decide_false, undef, beq_self_eq_true, bne_self_eq_false, Bool.and_true, Bool.true_and, Bool.and_false, Bool.false_and, Bool.or_true, Bool.true_or, Bool.or_false, Bool.false_or, undef]
      refine ACallL.fresh1 h37 rfl ?_
      simp only [go_sem, Nat.reduceEqDiff, Nat.reduceAdd, Nat.reduceSub, Nat.reduceMul, Nat.reduceLT, Nat.reduceLeDiff, Nat.reduceMod, Nat.reduceDiv, Int.reduceToNat, Int.reduceLT, Int.reduceLE, Bool.not_true, Bool.not_false, reduceIte, Int.reduceEq, Int.reduceBEq, Int.reduceBNe, Int.reduceGT, Int.reduceGE, Int.reduceNeg, Int.reduceAdd, Int.reduceSub, Nat.reduceBEq, decide_true, decide_false, undef, beq_self_eq_true, bne_self_eq_false, Bool.and_true, Bool.true_and, Bool.and_false, Bool.false_and, Bool.or_true, Bool.true_or, Bool.or_false, Bool.false_or, undef]
      refine ACallL.fresh1 h37' rfl ?_
      simp only [go_sem, Nat.reduceEqDiff, Nat.reduceAdd, Nat.reduceSub, Nat.reduceMul, Nat.reduceLT, Nat.reduceLeDiff, Nat.reduceMod, Nat.reduceDiv, Int.reduceToNat, Int.reduceLT, Int.reduceLE, Bool.not_true, Bool.not_false, reduceIte, Int.reduceEq, Int.reduceBEq, Int.reduceBNe, Int.reduceGT, Int.reduceGE, Int.reduceNeg, Int.reduceAdd, Int.reduceSub, Nat.reduceBEq, decide_true, decide_false, undef, beq_self_eq_true, bne_self_eq_false, Bool.and_true, Bool.true_and, Bool.and_false, Bool.false_and, Bool.or_true, Bool.true_or, Bool.or_false, Bool.false_or, undef]
      refine ACallL.quiet1 awake_ok rfl rfl rfl ?_
      simp only [go_sem, Nat.reduceEqDiff, Nat.reduceAdd, Nat.reduceSub, Nat.reduceMul, Nat.reduceLT, Nat.reduceLeDiff, Nat.reduceMod, Nat.reduceDiv, Int.reduceToNat, Int.reduceLT, Int.reduceLE, Bool.not_true, Bool.not_false, reduceIte, Int.reduceEq, Int.reduceBEq, Int.reduceBNe, Int.reduceGT, Int.reduceGE, Int.reduceNeg, Int.reduceAdd, Int.reduceSub, Nat.reduceBEq, decide_true, decide_false, undef, beq_self_eq_true, bne_self_eq_false, Bool.and_true, Bool.true_and, Bool.and_false, Bool.false_and, Bool.or_true, Bool.true_or, Bool.or_false, Bool.false_or, undef]
      exact finL_ret [] ⟨rfl, rfl, rfl, rfl, _, rfl, res_mk rfl⟩
    cases iy
    · simp only [Bool.false_and, Bool.and_false, Bool.false_eq_true, if_false] at h24
      refine ACallL.quiet1 h24 rfl rfl rfl ?_
      simp only [go_sem, Nat.reduceEqDiff, Nat.reduceAdd, Nat.reduceSub, Nat.reduceMul, Nat.reduceLT, Nat.reduceLeDiff, Nat.reduceMod, Nat.reduceDiv, Int.reduceToNat, Int.reduceLT, Int.reduceLE, Bool.not_true, Bool.not_false, reduceIte, Int.reduceEq, Int.reduceBEq, Int.reduceBNe, Int.reduceGT, Int.reduceGE, Int.reduceNeg, Int.reduceAdd, Int.reduceSub, Nat.reduceBEq, decide_true, decide_false, undef, beq_self_eq_true, bne_self_eq_false, Bool.and_true, Bool.true_and, Bool.and_false, Bool.false_and, Bool.or_true, Bool.true_or, Bool.or_false, Bool.false_or, undef]
      refine ACallL.fresh1 h37 rfl ?_
      simp only [go_sem, Nat.reduceEqDiff, Nat.reduceAdd, Nat.reduceSub, Nat.reduceMul, Nat.reduceLT, Nat.reduceLeDiff, Nat.reduceMod, Nat.reduceDiv, Int.reduceToNat, Int.reduceLT, Int.reduceLE, Bool.not_true, Bool.not_false, reduceIte, Int.reduceEq, Int.reduceBEq, Int.reduceBNe, Int.reduceGT, Int.reduceGE, Int.reduceNeg, Int.reduceAdd, Int.reduceSub, Nat.reduceBEq, decide_true, decide_false, undef, beq_self_eq_true, bne_self_eq_false, Bool.and_true, Bool.true_and, Bool.and_false, Bool.false_and, Bool.or_true, Bool.true_or, Bool.or_false, Bool.false_or, undef]
      refine ACallL.fresh1 h37' rfl ?_
      simp only [go_sem, Nat.reduceEqDiff, Nat.reduceAdd, Nat.reduceSub, Nat.reduceMul, Nat.reduceLT, Nat.reduceLeDiff, Nat.reduceMod, Nat.reduceDiv, Int.reduceToNat, Int.reduceLT, Int.reduceLE, Bool.not_true, Bool.not_false, reduceIte, Int.reduceEq, Int.reduceBEq, Int.reduceBNe, Int.reduceGT, Int.reduceGE, Int.reduceNeg, Int.reduceAdd, Int.reduceSub, Nat.reduceBEq, decide_true, decide_false, undef, beq_self_eq_true, bne_self_eq_false, Bool.and_true, Bool.true_and, Bool.and_false, Bool.false_and, Bool.or_true, Bool.true_or, Bool.or_false, Bool.false_or, undef]
      refine ACallL.quiet1 awake_ok rfl rfl rfl ?_
      simp only [go_sem, Nat.reduceEqDiff, Nat.reduceAdd, Nat.reduceSub, Nat.reduceMul, Nat.reduceLT, Nat.reduceLeDiff, Nat.reduceMod, Nat.reduceDiv, Int.reduceToNat, Int.reduceLT, Int.reduceLE, Bool.not_true, Bool.not_false, reduceIte, Int.reduceEq, Int.reduceBEq, Int.reduceBNe, Int.reduceGT, Int.reduceGE, Int.reduceNeg, Int.reduceAdd, Int.reduceSub, Nat.reduceBEq, decide_true, decide_false, undef, beq_self_eq_true, bne_self_eq_false, Bool.and_true, Bool.true_and, Bool.and_false, Bool.false_and, Bool.or_true, Bool.true_or, Bool.or_false, Bool.false_or, undef]
      exact finL_ret [] ⟨rfl, rfl, rfl, rfl, _, rfl, res_mk rfl⟩
    simp only [Bool.and_true, if_true] at h24
    have hself := hself rfl
    have hxy : ((x : Int) == (y : Int)) = decide (x = y) := by rw [Bool.eq_iff_iff, beq_iff_eq, decide_eq_true_eq]; omega
    generalize hr : metR b x y = r at *
    refine ACallL.quiet1 h24 rfl rfl rfl ?_
    simp only [go_sem, Nat.reduceEqDiff, Nat.reduceAdd, Nat.reduceSub, Nat.reduceMul, Nat.reduceLT, Nat.reduceLeDiff, Nat.reduceMod, Nat.reduceDiv, Int.reduceToNat, Int.reduceLT, Int.reduceLE, Bool.not_true, Bool.not_false, reduceIte, Int.reduceEq, Int.reduceBEq, Int.reduceBNe, Int.reduceGT, Int.reduceGE, Int.reduceNeg, Int.reduceAdd, Int.reduceSub, Nat.reduceBEq, decide_true, decide_false, undef, beq_self_eq_true, bne_self_eq_false, Bool.and_true, Bool.true_and, Bool.and_false, Bool.false_and, Bool.or_true, Bool.true_or, Bool.or_false, Bool.false_or, undef]
    refine ACallL.fresh1 h37 rfl ?_
    simp only [go_sem, Nat.reduceEqDiff, Nat.reduceAdd, Nat.reduceSub, Nat.reduceMul, Nat.reduceLT, Nat.reduceLeDiff, Nat.reduceMod, Nat.reduceDiv, Int.reduceToNat, Int.reduceLT, Int.reduceLE, Bool.not_true, Bool.not_false, reduceIte, Int.reduceEq, Int.reduceBEq, Int.reduceBNe, Int.reduceGT, Int.reduceGE, Int.reduceNeg, Int.reduceAdd, Int.reduceSub, Nat.reduceBEq, decide_true, decide_false, undef, beq_self_eq_true, bne_self_eq_false, Bool.and_true, Bool.true_and, Bool.and_false, Bool.false_and, Bool.or_true, Bool.true_or, Bool.or_false, Bool.false_or, undef]
    refine ACallL.fresh1 h37' rfl ?_
    simp only [go_sem, Nat.reduceEqDiff, Nat.reduceAdd, Nat.reduceSub, Nat.reduceMul, Nat.reduceLT, Nat.reduceLeDiff, Nat.reduceMod, Nat.reduceDiv, Int.reduceToNat, Int.reduceLT, Int.reduceLE, Bool.not_true, Bool.not_false, reduceIte, Int.reduceEq, Int.reduceBEq, Int.reduceBNe, Int.reduceGT, Int.reduceGE, Int.reduceNeg, Int.reduceAdd, Int.reduceSub, Nat.reduceBEq, decide_true, decide_false, undef, beq_self_eq_true, bne_self_eq_false, Bool.and_true, Bool.true_and, Bool.and_false, Bool.false_and, Bool.or_true, Bool.true_or, Bool.or_false, Bool.false_or, undef, hxy]
    cases r with
    | none =>
      have hne : decide (x = y) = false := decide_eq_false fun e => by rw [← e, hself] at hr; cases hr
      simp only [spP, go_sem, Nat.reduceEqDiff, Nat.reduceAdd, Nat.reduceSub, Nat.reduceMul, Nat.reduceLT, Nat.reduceLeDiff, Nat.reduceMod, Nat.reduceDiv, Int.reduceToNat, Int.reduceLT, Int.reduceLE, Bool.not_true, Bool.not_false, reduceIte, Int.reduceEq, Int.reduceBEq, Int.reduceBNe, Int.reduceGT, Int.reduceGE, Int.reduceNeg, Int.reduceAdd, Int.reduceSub, Nat.reduceBEq, decide_true, decide_false, undef, beq_self_eq_true, bne_self_eq_false, Bool.and_true, Bool.true_and, Bool.and_false, Bool.false_and, Bool.or_true, Bool.true_or, Bool.or_false, Bool.false_or, undef, hxy, hne]
      exact ⟨hb, x, y, m, p, hx, hy, hm, hp, hix, hiy, rfl, rfl, rfl, rfl, rfl, by rw [hr]; rfl, by rw [hr]; rfl, rfl, rfl, rfl⟩
    | some k =>
      cases hxe : decide (x = y)
      · simp only [spP, go_sem, Nat.reduceEqDiff, Nat.reduceAdd, Nat.reduceSub, Nat.reduceMul, Nat.reduceLT, Nat.reduceLeDiff, Nat.reduceMod, Nat.reduceDiv, Int.reduceToNat, Int.reduceLT, Int.reduceLE, Bool.not_true, Bool.not_false, reduceIte, Int.reduceEq, Int.reduceBEq, Int.reduceBNe, Int.reduceGT, Int.reduceGE, Int.reduceNeg, Int.reduceAdd, Int.reduceSub, Nat.reduceBEq, decide_true, decide_false, undef, beq_self_eq_true, bne_self_eq_false, Bool.and_true, Bool.true_and, Bool.and_false, Bool.false_and, Bool.or_true, Bool.true_or, Bool.or_false, Bool.false_or, undef, hxy, hxe]
        exact ⟨hb, x, y, m, p, hx, hy, hm, hp, hix, hiy, rfl, rfl, rfl, rfl, rfl, by rw [hr]; rfl, by rw [hr]; rfl, rfl, rfl, rfl⟩
      · have hk0 : k = 0 := by rw [← of_decide_eq_true hxe, hself] at hr; cases hr; rfl
        subst hk0
        simp only [spP, go_sem, Nat.reduceEqDiff, Nat.reduceAdd, Nat.reduceSub, Nat.reduceMul, Nat.reduceLT, Nat.reduceLeDiff, Nat.reduceMod, Nat.reduceDiv, Int.reduceToNat, Int.reduceLT, Int.reduceLE, Bool.not_true, Bool.not_false, reduceIte, Int.reduceEq, Int.reduceBEq, Int.reduceBNe, Int.reduceGT, Int.reduceGE, Int.reduceNeg, Int.reduceAdd, Int.reduceSub, Nat.reduceBEq, decide_true, decide_false, undef, beq_self_eq_true, bne_self_eq_false, Bool.and_true, Bool.true_and, Bool.and_false, Bool.false_and, Bool.or_true, Bool.true_or, Bool.or_false, Bool.false_or, undef, hxy, hxe]
        exact ⟨hb, x, y, m, p, hx, hy, hm, hp, hix, hiy, rfl, rfl, rfl, rfl, rfl, by rw [hr]; rfl, by rw [hr]; rfl, rfl, rfl, rfl⟩
  clear h32
  rintro ⟨env, σ, df, k⟩ ⟨hb, x, y, m, p, hx, hy, hm, hp, hix, hiy, q5, q11, q12, q13, q14, q15, q16, hσ, hdf, hk⟩
  simp only at q5 q11 q12 q13 q14 q15 q16 hσ hdf hk
  subst hσ hdf hk
  refine awpL_chop 1 (c1 := ?b1) (c2 := ?b2) (Me2 b m p) ?hc2 ?_ ?_
  case hc2 => simp only [chop]; rfl
  · unfold bo5
    simp only [go_sem, Nat.reduceEqDiff, Nat.reduceAdd, Nat.reduceSub, Nat.reduceMul, Nat.reduceLT, Nat.reduceLeDiff, Nat.reduceMod, Nat.reduceDiv, Int.reduceToNat, Int.reduceLT, Int.reduceLE, Bool.not_true, Bool.not_false, reduceIte, Int.reduceEq, Int.reduceBEq, Int.reduceBNe, Int.reduceGT, Int.reduceGE, Int.reduceNeg, Int.reduceAdd, Int.reduceSub, Nat.reduceBEq, decide_true, decide_false, undef, beq_self_eq_true, bne_self_eq_false, Bool.and_true, Bool.true_and, Bool.and_false, Bool.false_and, Bool.or_true, Bool.true_or, Bool.or_false, Bool.false_or, q5, q11, q12, q13, q14, q15, q16]
    have hLb := hb.L
    have w4 : IntKind.i64.wrap (b.last + 1) = ((b.L + 1 : Nat) : Int) := by rw [wrap_id (by omega) (by omega)]; omega
    have hms := metR_spec b x y
    simp only [w4]
    refine awpL_for (i := 123) (L := 122) (b.L + 1) (fun j st => st = { env := [(123, .t (vi j)), (122, .t (vi ((b.L + 1 : Nat)))), (5, .ptr 0 0), (11, .t (vi x)), (12, .t (vi y)), (13, .t (vi m)), (14, .t (vi p)), (15, .t (vi (spP (metR b x y)).1)), (16, .t (vi (spP (metR b x y)).2))], σ := [.cells ((bo5 b).map .t)] }) ?_ ⟨_, Sub.gc [0] [123, 122, 5, 11, 12, 13, 14, 15, 16] rfl rfl, ?_⟩ ?_ ?_
    · rintro k st rfl; exact ⟨rfl, rfl⟩
    · exact St.gc_mk (by simp only [List.map_cons, List.map_nil, lk, Nat.reduceEqDiff, reduceIte, q5, q11, q12, q13, q14, q15, q16]; rfl) rfl rfl rfl
    · rintro j st hj rfl
      have hjL : j ≤ b.L := by omega
      have hwj : IntKind.i64.wrap ((j : Int) + 1) = ((j + 1 : Nat) : Int) := by rw [wrap_id (by omega) (by omega)]; omega
      have h1 := Can_ok b hL x j
      have h2 := Can_ok b hL y j
      rw [specCan_ok ((b.ok_iff).2 hb) hx hjL hb] at h1
      rw [specCan_ok ((b.ok_iff).2 hb) hy hjL hb] at h2
      unfold canN at h1 h2
      rw [hix] at h1
      rw [hiy] at h2
      have hc1 : canM b x j < 9223372036854775808 := Nat.lt_of_lt_of_le (canM_lt hb x j) (by decide)
      have hc2 : canM b y j < 9223372036854775808 := Nat.lt_of_lt_of_le (canM_lt hb y j) (by decide)
      have hand := bits_and hc1 hc2
      simp only [oneE, bo5, if_true] at h1 h2
      generalize metR b x y = r at *
      simp only [bo5, go_sem, Nat.reduceEqDiff, Nat.reduceAdd, Nat.reduceSub, Nat.reduceMul, Nat.reduceLT, Nat.reduceLeDiff, Nat.reduceMod, Nat.reduceDiv, Int.reduceToNat, Int.reduceLT, Int.reduceLE, Bool.not_true, Bool.not_false, reduceIte, Int.reduceEq, Int.reduceBEq, Int.reduceBNe, Int.reduceGT, Int.reduceGE, Int.reduceNeg, Int.reduceAdd, Int.reduceSub, Nat.reduceBEq, decide_true, decide_false, undef, beq_self_eq_true, bne_self_eq_false, Bool.and_true, Bool.true_and, Bool.and_false, Bool.false_and, Bool.or_true, Bool.true_or, Bool.or_false, Bool.false_or, undef, hwj]
      refine ACallL.quiet1 h1 rfl rfl rfl ?_
      simp only [bo5, go_sem, Nat.reduceEqDiff, Nat.reduceAdd, Nat.reduceSub, Nat.reduceMul, Nat.reduceLT, Nat.reduceLeDiff, Nat.reduceMod, Nat.reduceDiv, Int.reduceToNat, Int.reduceLT, Int.reduceLE, Bool.not_true, Bool.not_false, reduceIte, Int.reduceEq, Int.reduceBEq, Int.reduceBNe, Int.reduceGT, Int.reduceGE, Int.reduceNeg, Int.reduceAdd, Int.reduceSub, Nat.reduceBEq, decide_true, decide_false, undef, beq_self_eq_true, bne_self_eq_false, Bool.and_true, Bool.true_and, Bool.and_false, Bool.false_and, Bool.or_true, Bool.true_or, Bool.or_false, Bool.false_or, undef, hwj]
      refine ACallL.quiet1 h2 rfl rfl rfl ?_
      cases r with
      | none =>
        have h0 : canM b x j &&& canM b y j = 0 := hms j hjL
        rw [h0] at hand
        simp only [spP, go_sem, Nat.reduceEqDiff, Nat.reduceAdd, Nat.reduceSub, Nat.reduceMul, Nat.reduceLT, Nat.reduceLeDiff, Nat.reduceMod, Nat.reduceDiv, Int.reduceToNat, Int.reduceLT, Int.reduceLE, Bool.not_true, Bool.not_false, reduceIte, Int.reduceEq, Int.reduceBEq, Int.reduceBNe, Int.reduceGT, Int.reduceGE, Int.reduceNeg, Int.reduceAdd, Int.reduceSub, Nat.reduceBEq, decide_true, decide_false, undef, beq_self_eq_true, bne_self_eq_false, Bool.and_true, Bool.true_and, Bool.and_false, Bool.false_and, Bool.or_true, Bool.true_or, Bool.or_false, Bool.false_or, undef, hwj, hand]
        exact ⟨_, Sub.gc [0] [123, 122, 5, 11, 12, 13, 14, 15, 16] rfl rfl, rfl⟩
      | some k =>
        rcases Nat.lt_trichotomy j k with g | g | g
        · have h0 : canM b x j &&& canM b y j = 0 := hms.2.2 j g
          rw [h0] at hand
          have g1 : decide ((j : Int) < (k : Int)) = true := decide_eq_true (by omega)
          have g2 : ((j : Int) == (k : Int)) = false := by simp; omega
          simp only [spP, go_sem, Nat.reduceEqDiff, Nat.reduceAdd, Nat.reduceSub, Nat.reduceMul, Nat.reduceLT, Nat.reduceLeDiff, Nat.reduceMod, Nat.reduceDiv, Int.reduceToNat, Int.reduceLT, Int.reduceLE, Bool.not_true, Bool.not_false, reduceIte, Int.reduceEq, Int.reduceBEq, Int.reduceBNe, Int.reduceGT, Int.reduceGE, Int.reduceNeg, Int.reduceAdd, Int.reduceSub, Nat.reduceBEq, decide_true, decide_false, undef, beq_self_eq_true, bne_self_eq_false, Bool.and_true, Bool.true_and, Bool.and_false, Bool.false_and, Bool.or_true, Bool.true_or, Bool.or_false, Bool.false_or, undef, hwj, hand, g1, g2]
          exact ⟨_, Sub.gc [0] [123, 122, 5, 11, 12, 13, 14, 15, 16] rfl rfl, rfl⟩
        · subst g
          have h0 : canM b x j &&& canM b y j ≠ 0 := hms.2.1
          have g1 : decide ((j : Int) < (j : Int)) = false := by simp
          have g2 : ((j : Int) == (j : Int)) = true := by simp
          have g3 : (((canM b x j &&& canM b y j : Nat) : Int) == 0) = false := by simp only [beq_eq_false_iff_ne]; omega
          simp only [spP, go_sem, Nat.reduceEqDiff, Nat.reduceAdd, Nat.reduceSub, Nat.reduceMul, Nat.reduceLT, Nat.reduceLeDiff, Nat.reduceMod, Nat.reduceDiv, Int.reduceToNat, Int.reduceLT, Int.reduceLE, Bool.not_true, Bool.not_false, reduceIte, Int.reduceEq, Int.reduceBEq, Int.reduceBNe, Int.reduceGT, Int.reduceGE, Int.reduceNeg, Int.reduceAdd, Int.reduceSub, Nat.reduceBEq, decide_true, decide_false, undef, beq_self_eq_true, bne_self_eq_false, Bool.and_true, Bool.true_and, Bool.and_false, Bool.false_and, Bool.or_true, Bool.true_or, Bool.or_false, Bool.false_or, undef, hwj, hand, g1, g2, g3]
          exact ⟨_, Sub.gc [0] [123, 122, 5, 11, 12, 13, 14, 15, 16] rfl rfl, rfl⟩
        · have g1 : decide ((j : Int) < (k : Int)) = false := decide_eq_false (by omega)
          have g2 : ((j : Int) == (k : Int)) = false := by simp; omega
          simp only [spP, go_sem, Nat.reduceEqDiff, Nat.reduceAdd, Nat.reduceSub, Nat.reduceMul, Nat.reduceLT, Nat.reduceLeDiff, Nat.reduceMod, Nat.reduceDiv, Int.reduceToNat, Int.reduceLT, Int.reduceLE, Bool.not_true, Bool.not_false, reduceIte, Int.reduceEq, Int.reduceBEq, Int.reduceBNe, Int.reduceGT, Int.reduceGE, Int.reduceNeg, Int.reduceAdd, Int.reduceSub, Nat.reduceBEq, decide_true, decide_false, undef, beq_self_eq_true, bne_self_eq_false, Bool.and_true, Bool.true_and, Bool.and_false, Bool.false_and, Bool.or_true, Bool.true_or, Bool.or_false, Bool.false_or, undef, hwj, hand, g1, g2]
          exact ⟨_, Sub.gc [0] [123, 122, 5, 11, 12, 13, 14, 15, 16] rfl rfl, rfl⟩
    · rintro st rfl
      simp only [go_sem, Nat.reduceEqDiff, Nat.reduceAdd, Nat.reduceSub, Nat.reduceMul, Nat.reduceLT, Nat.reduceLeDiff, Nat.reduceMod, Nat.reduceDiv, Int.reduceToNat, Int.reduceLT, Int.reduceLE, Bool.not_true, Bool.not_false, reduceIte, Int.reduceEq, Int.reduceBEq, Int.reduceBNe, Int.reduceGT, Int.reduceGE, Int.reduceNeg, Int.reduceAdd, Int.reduceSub, Nat.reduceBEq, decide_true, decide_false, undef, beq_self_eq_true, bne_self_eq_false, Bool.and_true, Bool.true_and, Bool.and_false, Bool.false_and, Bool.or_true, Bool.true_or, Bool.or_false, Bool.false_or, undef]
      exact ⟨rfl, rfl, rfl, rfl, rfl, rfl⟩
  clear q5 q11 q12 q13 q14 q15 q16
  rintro ⟨env, σ, df, k⟩ ⟨q5, q13, q14, hσ, hdf, hk⟩
  simp only at q5 q13 q14 hσ hdf hk
  subst hσ hdf hk
  have hNb := hb.N
  have hnum := hb.num
  have h26 := Who_ok b hL m p
  rw [specWho_ok hb hm hp] at h26
  obtain ⟨a1, a2, a3, ha⟩ : ∃ a1 a2 a3 : Int, (if allCan b then (((sureW b m p b.seen.length : Nat) : Int), ((canW b m p b.seen.length : Nat) : Int), (0 : Int)) else (0, 0, 10)) = (a1, a2, a3) := ⟨_, _, _, rfl⟩
  rw [ha] at h26
  simp only [twoE, bo5] at h26
  unfold bo5
  simp only [go_sem, Nat.reduceEqDiff, Nat.reduceAdd, Nat.reduceSub, Nat.reduceMul, Nat.reduceLT, Nat.reduceLeDiff, Nat.reduceMod, Nat.reduceDiv, Int.reduceToNat, Int.reduceLT, Int.reduceLE, Bool.not_true, Bool.not_false, reduceIte, Int.reduceEq, Int.reduceBEq, Int.reduceBNe, Int.reduceGT, Int.reduceGE, Int.reduceNeg, Int.reduceAdd, Int.reduceSub, Nat.reduceBEq, decide_true, decide_false, undef, beq_self_eq_true, bne_self_eq_false, Bool.and_true, Bool.true_and, Bool.and_false, Bool.false_and, Bool.or_true, Bool.true_or, Bool.or_false, Bool.false_or, q5, q13, q14]
  refine ACallL.quiet1 h26 rfl rfl rfl ?_
  simp only [go_sem, Nat.reduceEqDiff, Nat.reduceAdd, Nat.reduceSub, Nat.reduceMul, Nat.reduceLT, Nat.reduceLeDiff, Nat.reduceMod, Nat.reduceDiv, Int.reduceToNat, Int.reduceLT, Int.reduceLE, Bool.not_true, Bool.not_false, reduceIte, Int.reduceEq, Int.reduceBEq, Int.reduceBNe, Int.reduceGT, Int.reduceGE, Int.reduceNeg, Int.reduceAdd, Int.reduceSub, Nat.reduceBEq, decide_true, decide_false, undef, beq_self_eq_true, bne_self_eq_false, Bool.and_true, Bool.true_and, Bool.and_false, Bool.false_and, Bool.or_true, Bool.true_or, Bool.or_false, Bool.false_or, undef, q5, q13, q14, List.length_map]
  refine awpL_loopK b.seen.length (fun j st => (∀ i < j, isT b i = true) ∧ st = { env := [(194, .t (vi j)), (193, .t (vi b.seen.length)), (5, .ptr 0 0), (13, .t (vi m)), (14, .t (vi p)), (26, .t (vi a1)), (27, .t (vi a2)), (28, .t (vi a3)), (29, .t (vi (canW b m p j : Nat))), (30, .t (vi (sureW b m p j : Nat)))], σ := [.cells ((bo5 b).map .t)] }) ⟨_, Sub.gc [0] [194, 193, 5, 13, 14, 26, 27, 28, 29, 30] rfl rfl, by simp, ?_⟩ ?_
  · exact St.gc_mk (by simp only [List.map_cons, List.map_nil, lk, Nat.reduceEqDiff, reduceIte, q5, q13, q14]; rfl) rfl rfl rfl
  · rintro j st hj ⟨hall, rfl⟩
    simp only [bo5, go_sem, Nat.reduceEqDiff, Nat.reduceAdd, Nat.reduceSub, Nat.reduceMul, Nat.reduceLT, Nat.reduceLeDiff, Nat.reduceMod, Nat.reduceDiv, Int.reduceToNat, Int.reduceLT, Int.reduceLE, Bool.not_true, Bool.not_false, reduceIte, Int.reduceEq, Int.reduceBEq, Int.reduceBNe, Int.reduceGT, Int.reduceGE, Int.reduceNeg, Int.reduceAdd, Int.reduceSub, Nat.reduceBEq, decide_true, decide_false, undef, beq_self_eq_true, bne_self_eq_false, Bool.and_true, Bool.true_and, Bool.and_false, Bool.false_and, Bool.or_true, Bool.true_or, Bool.or_false, Bool.false_or, undef, List.length_map]
    cases g : decide ((j : Int) < b.seen.length)
    · have hje : j = b.seen.length := by have := of_decide_eq_false g; omega
      subst hje
      have hA : allCan b = true := List.all_eq_true.2 fun k hk => hall k (List.mem_range.1 hk)
      rw [hA, if_pos rfl] at ha
      cases ha
      simp only [go_sem, Nat.reduceEqDiff, Nat.reduceAdd, Nat.reduceSub, Nat.reduceMul, Nat.reduceLT, Nat.reduceLeDiff, Nat.reduceMod, Nat.reduceDiv, Int.reduceToNat, Int.reduceLT, Int.reduceLE, Bool.not_true, Bool.not_false, reduceIte, Int.reduceEq, Int.reduceBEq, Int.reduceBNe, Int.reduceGT, Int.reduceGE, Int.reduceNeg, Int.reduceAdd, Int.reduceSub, Nat.reduceBEq, decide_true, decide_false, undef, beq_self_eq_true, bne_self_eq_false, Bool.and_true, Bool.true_and, Bool.and_false, Bool.false_and, Bool.or_true, Bool.true_or, Bool.or_false, Bool.false_or, undef, g, beq_self_eq_true]
      refine ACallL.quiet1 awake_ok rfl rfl rfl ?_
      simp only [go_sem, Nat.reduceEqDiff, Nat.reduceAdd, Nat.reduceSub, Nat.reduceMul, Nat.reduceLT, Nat.reduceLeDiff, Nat.reduceMod, Nat.reduceDiv, Int.reduceToNat, Int.reduceLT, Int.reduceLE, Bool.not_true, Bool.not_false, reduceIte, Int.reduceEq, Int.reduceBEq, Int.reduceBNe, Int.reduceGT, Int.reduceGE, Int.reduceNeg, Int.reduceAdd, Int.reduceSub, Nat.reduceBEq, decide_true, decide_false, undef, beq_self_eq_true, bne_self_eq_false, Bool.and_true, Bool.true_and, Bool.and_false, Bool.false_and, Bool.or_true, Bool.true_or, Bool.or_false, Bool.false_or, undef]
      exact finL_ret [] ⟨rfl, rfl, rfl, rfl, _, rfl, res_mk rfl⟩
    have hjl : j < b.seen.length := by have := of_decide_eq_true g; omega
    have hwj : IntKind.i64.wrap ((j : Int) + 1) = ((j + 1 : Nat) : Int) := by rw [wrap_id (by omega) (by omega)]; omega
    have h1 := Can_ok b hL j m
    rw [specCan_ok ((b.ok_iff).2 hb) hjl hm hb] at h1
    unfold canN at h1
    have hjn : ((j : Int) < 0) = False := by simp
    have hpn : ((p : Int) < 0) = False := by simp
    cases hT : isT b j
    · have hA : allCan b = false := by
        rw [← Bool.not_eq_true]
        intro h
        have := List.all_eq_true.1 h j (List.mem_range.2 hjl)
        rw [show canQ b (plainQ b j) = isT b j from rfl, hT] at this; cases this
      rw [hA] at ha
      simp only [Bool.false_eq_true, if_false] at ha
      cases ha
      rw [hT] at h1
      simp only [oneE, bo5, Bool.false_eq_true, if_false] at h1
      simp only [go_sem, Nat.reduceEqDiff, Nat.reduceAdd, Nat.reduceSub, Nat.reduceMul, Nat.reduceLT, Nat.reduceLeDiff, Nat.reduceMod, Nat.reduceDiv, Int.reduceToNat, Int.reduceLT, Int.reduceLE, Bool.not_true, Bool.not_false, reduceIte, Int.reduceEq, Int.reduceBEq, Int.reduceBNe, Int.reduceGT, Int.reduceGE, Int.reduceNeg, Int.reduceAdd, Int.reduceSub, Nat.reduceBEq, decide_true, decide_false, undef, beq_self_eq_true, bne_self_eq_false, Bool.and_true, Bool.true_and, Bool.and_false, Bool.false_and, Bool.or_true, Bool.true_or, Bool.or_false, Bool.false_or, undef, g]
      refine ACallL.quiet1 h1 rfl rfl rfl ?_
      simp only [go_sem, Nat.reduceEqDiff, Nat.reduceAdd, Nat.reduceSub, Nat.reduceMul, Nat.reduceLT, Nat.reduceLeDiff, Nat.reduceMod, Nat.reduceDiv, Int.reduceToNat, Int.reduceLT, Int.reduceLE, Bool.not_true, Bool.not_false, reduceIte, Int.reduceEq, Int.reduceBEq, Int.reduceBNe, Int.reduceGT, Int.reduceGE, Int.reduceNeg, Int.reduceAdd, Int.reduceSub, Nat.reduceBEq, decide_true, decide_false, undef, beq_self_eq_true, bne_self_eq_false, Bool.and_true, Bool.true_and, Bool.and_false, Bool.false_and, Bool.or_true, Bool.true_or, Bool.or_false, Bool.false_or, undef]
      refine ACallL.quiet1 awake_ok rfl rfl rfl ?_
      simp only [go_sem, Nat.reduceEqDiff, Nat.reduceAdd, Nat.reduceSub, Nat.reduceMul, Nat.reduceLT, Nat.reduceLeDiff, Nat.reduceMod, Nat.reduceDiv, Int.reduceToNat, Int.reduceLT, Int.reduceLE, Bool.not_true, Bool.not_false, reduceIte, Int.reduceEq, Int.reduceBEq, Int.reduceBNe, Int.reduceGT, Int.reduceGE, Int.reduceNeg, Int.reduceAdd, Int.reduceSub, Nat.reduceBEq, decide_true, decide_false, undef, beq_self_eq_true, bne_self_eq_false, Bool.and_true, Bool.true_and, Bool.and_false, Bool.false_and, Bool.or_true, Bool.true_or, Bool.or_false, Bool.false_or, undef]
      exact finL_ret [] ⟨rfl, rfl, rfl, rfl, _, rfl, res_mk rfl⟩
    rw [hT] at h1
    simp only [oneE, bo5, if_true] at h1
    have s1 : canW b m p (j + 1) = if hasB b m p j then canW b m p j ||| 2 ^ j else canW b m p j := rfl
    have s2 : sureW b m p (j + 1) = if aloneB b m p j then sureW b m p j ||| 2 ^ j else sureW b m p j := rfl
    have b1 : canW b m p j < 2 ^ j := maskOf_lt _ _
    have b2 : sureW b m p j < 2 ^ j := maskOf_lt _ _
    have hp8 : 2 ^ j ≤ 8 := Nat.pow_le_pow_right (n := 2) (j := 3) (by decide) (by omega)
    have o1 := bits_or (a := canW b m p j) (b := 2 ^ j) (by omega) (by omega)
    have o2 := bits_or (a := sureW b m p j) (b := 2 ^ j) (by omega) (by omega)
    have sl := shl_one (i := j) (by omega)
    have sp := shl_one (i := p) (by omega)
    have hc : canM b j m < 9223372036854775808 := Nat.lt_of_lt_of_le (canM_lt hb j m) (by decide)
    have hbt := bit_eq (a := canM b j m) (i := p) hc
    have hh : hasB b m p j = (canM b j m).testBit p := rfl
    have hal : aloneB b m p j = decide (canM b j m = 2 ^ p) := alone_iff (canM_lt hb j m) (by omega)
    have heq : (((canM b j m : Nat) : Int) == ((2 ^ p : Nat) : Int)) = decide (canM b j m = 2 ^ p) := by rw [Bool.eq_iff_iff, beq_iff_eq, decide_eq_true_eq]; omega
    rw [← hal] at heq
    rw [← hh] at hbt
    have hall' : ∀ i < j + 1, isT b i = true := fun i hi => by
      by_cases e : i < j
      · exact hall i e
      · rw [show i = j by omega]; exact hT
    generalize canM b j m = C at *
    generalize canW b m p (j + 1) = C1 at *
    generalize sureW b m p (j + 1) = S1 at *
    generalize canW b m p j = C0 at *
    generalize sureW b m p j = S0 at *
    generalize hasB b m p j = B1 at *
    generalize aloneB b m p j = B2 at *
    subst s1 s2
    simp only [go_sem, Nat.reduceEqDiff, Nat.reduceAdd, Nat.reduceSub, Nat.reduceMul, Nat.reduceLT, Nat.reduceLeDiff, Nat.reduceMod, Nat.reduceDiv, Int.reduceToNat, Int.reduceLT, Int.reduceLE, Bool.not_true, Bool.not_false, reduceIte, Int.reduceEq, Int.reduceBEq, Int.reduceBNe, Int.reduceGT, Int.reduceGE, Int.reduceNeg, Int.reduceAdd, Int.reduceSub, Nat.reduceBEq, decide_true, decide_false, undef, beq_self_eq_true, bne_self_eq_false, Bool.and_true, Bool.true_and, Bool.and_false, Bool.false_and, Bool.or_true, Bool.true_or, Bool.or_false, Bool.false_or, undef, g, hwj, hjn, hpn]
    refine ACallL.quiet1 h1 rfl rfl rfl ?_
    cases B1 <;> cases B2
    all_goals
      simp only [go_sem, Nat.reduceEqDiff, Nat.reduceAdd, Nat.reduceSub, Nat.reduceMul, Nat.reduceLT, Nat.reduceLeDiff, Nat.reduceMod, Nat.reduceDiv, Int.reduceToNat, Int.reduceLT, Int.reduceLE, Bool.not_true, Bool.not_false, reduceIte, Int.reduceEq, Int.reduceBEq, Int.reduceBNe, Int.reduceGT, Int.reduceGE, Int.reduceNeg, Int.reduceAdd, Int.reduceSub, Nat.reduceBEq, decide_true, decide_false, undef, beq_self_eq_true, bne_self_eq_false, Bool.and_true, Bool.true_and, Bool.and_false, Bool.false_and, Bool.or_true, Bool.true_or, Bool.or_false, Bool.false_or, undef, hwj, hjn, hpn, hbt, heq, sl, sp, o1, o2]
      exact ⟨hjl, _, Sub.gc [0] [194, 193, 5, 13, 14, 26, 27, 28, 29, 30] rfl rfl, hall', rfl⟩
end Go.Proofs.YtafcdpmcmmfbhaaDoor
