/- Proved here: laws that the statements need (BoC37, BoC3w, BoXG). No conditions but those that each law states. -/
import Derived.Test.YtafcdpmcmmfbhaaDoorFL
import Derived.Test.YtafcdpmcmmfbhaaDoorProg
import Derived.Test.YtafcdpmcmmfbhaaDoorBO

set_option linter.unusedSimpArgs false
set_option linter.unusedVariables false

/- Compiled code of functions, printed by program; each is checked to be the program's. No conditions. -/
namespace Go.Proofs.YtafcdpmcmmfbhaaDoor
open Go Go.Ab
/-- dipworks/dipworkslaw12.BoatSteps -/
def c7 : AC :=
 .seq (.reg [⟨(some 3), none, .box (.tmp 0)⟩,
 ⟨(some 6), none, .mov (.lit (.bool false))⟩])
 (.seq (.seq (.reg [⟨(some 38), none, .load true 5 (.tmp 3)⟩,
 ⟨(some 39), none, .call (.fn 14) [(.tmp 38)]⟩])
 (.cond (.tmp 39) (.seq (.reg [⟨(some 40), none, .call (.fn 15) []⟩,
 ⟨(some 6), none, .mov (.tmp 40)⟩])
 (.ret))
 (.skip)))
 (.seq (.seq (.reg [⟨(some 41), none, .load true 5 (.tmp 3)⟩,
 ⟨(some 42), none, .call (.fn 36) [(.tmp 41)]⟩,
 ⟨(some 43), none, .un .not (.tmp 42)⟩])
 (.cond (.tmp 43) (.seq (.reg [⟨(some 45), none, .load true 5 (.tmp 3)⟩,
 ⟨(some 46), none, .call (.fn 16) [(.tmp 45), (.lit (.int .i64 0)), (.lit (.int .i64 0))]⟩,
 ⟨(some 44), none, .mov (.tmp 46)⟩,
 ⟨(some 47), none, .ext (.tmp 44) 0⟩,
 ⟨(some 48), none, .ext (.tmp 44) 1⟩,
 ⟨(some 7), none, .mov (.tmp 47)⟩,
 ⟨(some 8), none, .mov (.tmp 48)⟩])
 (.seq (.reg [⟨(some 50), none, .load true 5 (.tmp 3)⟩,
 ⟨(some 51), none, .call (.fn 24) [(.tmp 50), (.lit (.int .i64 0)), (.lit (.int .i64 0))]⟩,
 ⟨(some 49), none, .mov (.tmp 51)⟩,
 ⟨(some 52), none, .ext (.tmp 49) 0⟩,
 ⟨(some 53), none, .ext (.tmp 49) 1⟩,
 ⟨(some 9), none, .mov (.tmp 52)⟩,
 ⟨(some 10), none, .mov (.tmp 53)⟩])
 (.seq (.reg [⟨(some 54), none, .mov (.tmp 8)⟩,
 ⟨(some 55), none, .bin .eql (.tmp 54) (.lit (.int .i64 1))⟩,
 ⟨(some 56), none, .mov (.tmp 55)⟩,
 ⟨(some 57), (some (56, true)), .mov (.tmp 10)⟩,
 ⟨(some 58), (some (56, true)), .mov (.tmp 8)⟩,
 ⟨(some 59), (some (56, true)), .bin .eql (.tmp 57) (.tmp 58)⟩,
 ⟨(some 60), none, .pick (.tmp 56) (.tmp 59) (.lit (.bool false))⟩,
 ⟨(some 61), none, .mov (.tmp 60)⟩,
 ⟨(some 62), (some (61, true)), .mov (.tmp 7)⟩,
 ⟨(some 63), (some (61, true)), .bin .eql (.tmp 62) (.lit (.int .i64 0))⟩,
 ⟨(some 64), none, .pick (.tmp 61) (.tmp 63) (.lit (.bool false))⟩,
 ⟨(some 65), none, .mov (.tmp 64)⟩,
 ⟨(some 66), (some (65, true)), .call (.fn 15) []⟩,
 ⟨(some 67), none, .pick (.tmp 65) (.tmp 66) (.lit (.bool false))⟩,
 ⟨(some 6), none, .mov (.tmp 67)⟩])
 (.ret))))
 (.skip)))
 (.seq (.reg [⟨(some 69), none, .load true 5 (.tmp 3)⟩,
 ⟨(some 70), none, .faddr 4 (.tmp 3)⟩,
 ⟨(some 71), none, .load false 1 (.tmp 70)⟩,
 ⟨(some 72), none, .len (.tmp 71)⟩,
 ⟨(some 73), none, .call (.fn 16) [(.tmp 69), (.tmp 72), (.lit (.int .i64 0))]⟩,
 ⟨(some 68), none, .mov (.tmp 73)⟩,
 ⟨(some 74), none, .ext (.tmp 68) 0⟩,
 ⟨(some 75), none, .ext (.tmp 68) 1⟩,
 ⟨(some 11), none, .mov (.tmp 74)⟩,
 ⟨(some 12), none, .mov (.tmp 75)⟩])
 (.seq (.reg [⟨(some 77), none, .load true 5 (.tmp 3)⟩,
 ⟨(some 78), none, .faddr 3 (.tmp 3)⟩,
 ⟨(some 79), none, .load false 1 (.tmp 78)⟩,
 ⟨(some 80), none, .bin .add (.tmp 79) (.lit (.int .i64 1))⟩,
 ⟨(some 81), none, .call (.fn 18) [(.tmp 77), (.lit (.int .i64 0)), (.tmp 80)]⟩,
 ⟨(some 76), none, .mov (.tmp 81)⟩,
 ⟨(some 82), none, .ext (.tmp 76) 0⟩,
 ⟨(some 83), none, .ext (.tmp 76) 1⟩,
 ⟨(some 13), none, .alloc [(.int .i64 0), (.int .i64 0)]⟩,
 ⟨none, none, .store 2 (.tmp 13) (.tmp 82)⟩,
 ⟨(some 14), none, .mov (.tmp 83)⟩])
 (.seq (.draw (.step ⟨(some 85), none, .load true 5 (.tmp 3)⟩ (
 .step ⟨(some 86), none, .load true 5 (.tmp 3)⟩ (
 .ev ⟨(some 87), none, .call (.fn 35) [(.tmp 86)]⟩ [⟨(some 85), none, .load true 5 (.tmp 3)⟩] (
 .ev ⟨(some 88), none, .call (.fn 26) [(.tmp 85), (.lit (.int .i64 0)), (.tmp 87)]⟩ [⟨(some 86), none, .load true 5 (.tmp 3)⟩] (
 .step ⟨(some 84), none, .mov (.tmp 88)⟩ (
 .step ⟨(some 89), none, .ext (.tmp 84) 0⟩ (
 .step ⟨(some 90), none, .ext (.tmp 84) 1⟩ (
 .step ⟨(some 91), none, .ext (.tmp 84) 2⟩ (
 .step ⟨(some 15), none, .mov (.tmp 89)⟩ (
 .step ⟨(some 16), none, .mov (.tmp 90)⟩ (
 .step ⟨(some 17), none, .mov (.tmp 91)⟩ (
 .done))))))))
 (.stop))
 (.stop)))))
 (.seq (.reg [⟨(some 93), none, .load true 5 (.tmp 3)⟩,
 ⟨(some 94), none, .faddr 1 (.tmp 3)⟩,
 ⟨(some 95), none, .load false 1 (.tmp 94)⟩,
 ⟨(some 96), none, .bin .add (.tmp 95) (.lit (.int .i64 1))⟩,
 ⟨(some 97), none, .call (.fn 22) [(.tmp 93), (.lit (.int .i64 0)), (.tmp 96)]⟩,
 ⟨(some 92), none, .mov (.tmp 97)⟩,
 ⟨(some 98), none, .ext (.tmp 92) 0⟩,
 ⟨(some 99), none, .ext (.tmp 92) 1⟩,
 ⟨(some 18), none, .mov (.tmp 98)⟩,
 ⟨(some 19), none, .mov (.tmp 99)⟩])
 (.seq (.seq (.reg [⟨(some 100), none, .mov (.tmp 12)⟩,
 ⟨(some 101), none, .bin .neq (.tmp 100) (.lit (.int .i64 2))⟩,
 ⟨(some 102), none, .mov (.tmp 101)⟩,
 ⟨(some 103), (some (102, false)), .mov (.tmp 14)⟩,
 ⟨(some 104), (some (102, false)), .mov (.tmp 12)⟩,
 ⟨(some 105), (some (102, false)), .bin .neq (.tmp 103) (.tmp 104)⟩,
 ⟨(some 106), none, .pick (.tmp 102) (.lit (.bool true)) (.tmp 105)⟩,
 ⟨(some 107), none, .mov (.tmp 106)⟩,
 ⟨(some 108), (some (107, false)), .mov (.tmp 17)⟩,
 ⟨(some 109), (some (107, false)), .mov (.tmp 12)⟩,
 ⟨(some 110), (some (107, false)), .bin .neq (.tmp 108) (.tmp 109)⟩,
 ⟨(some 111), none, .pick (.tmp 107) (.lit (.bool true)) (.tmp 110)⟩,
 ⟨(some 112), none, .mov (.tmp 111)⟩,
 ⟨(some 113), (some (112, false)), .mov (.tmp 19)⟩,
 ⟨(some 114), (some (112, false)), .mov (.tmp 12)⟩,
 ⟨(some 115), (some (112, false)), .bin .neq (.tmp 113) (.tmp 114)⟩,
 ⟨(some 116), none, .pick (.tmp 112) (.lit (.bool true)) (.tmp 115)⟩])
 (.cond (.tmp 116) (.seq (.reg [⟨(some 6), none, .mov (.lit (.bool false))⟩])
 (.ret))
 (.skip)))
 (.seq (.seq (.reg [⟨(some 117), none, .faddr 4 (.tmp 3)⟩,
 ⟨(some 118), none, .load false 1 (.tmp 117)⟩,
 ⟨(some 119), none, .len (.tmp 118)⟩,
 ⟨(some 120), none, .bin .eql (.tmp 119) (.lit (.int .i64 0))⟩])
 (.cond (.tmp 120) (.seq (.reg [⟨(some 121), none, .call (.fn 15) []⟩,
 ⟨(some 6), none, .mov (.tmp 121)⟩])
 (.ret))
 (.skip)))
 (.seq (.draw (.step ⟨(some 122), none, .mov (.tmp 1)⟩ (
 .step ⟨(some 123), none, .conv .i64 (.tmp 122)⟩ (
 .step ⟨(some 124), none, .faddr 4 (.tmp 3)⟩ (
 .step ⟨(some 125), none, .load false 1 (.tmp 124)⟩ (
 .step ⟨(some 126), none, .len (.tmp 125)⟩ (
 .step ⟨(some 127), none, .bin .rem (.tmp 123) (.tmp 126)⟩ (
 .step ⟨(some 128), none, .mov (.tmp 2)⟩ (
 .step ⟨(some 129), none, .conv .i64 (.tmp 128)⟩ (
 .step ⟨(some 130), none, .faddr 3 (.tmp 3)⟩ (
 .step ⟨(some 131), none, .load false 1 (.tmp 130)⟩ (
 .step ⟨(some 132), none, .bin .add (.tmp 131) (.lit (.int .i64 1))⟩ (
 .step ⟨(some 133), none, .bin .rem (.tmp 129) (.tmp 132)⟩ (
 .step ⟨(some 20), none, .mov (.tmp 127)⟩ (
 .step ⟨(some 21), none, .mov (.tmp 133)⟩ (
 .done))))))))))))))))
 (.seq (.reg [⟨(some 135), none, .load true 5 (.tmp 3)⟩,
 ⟨(some 136), none, .mov (.tmp 20)⟩,
 ⟨(some 137), none, .mov (.tmp 21)⟩,
 ⟨(some 138), none, .call (.fn 37) [(.tmp 135), (.tmp 136), (.tmp 137)]⟩,
 ⟨(some 134), none, .mov (.tmp 138)⟩,
 ⟨(some 139), none, .ext (.tmp 134) 0⟩,
 ⟨(some 140), none, .ext (.tmp 134) 1⟩,
 ⟨(some 22), none, .mov (.tmp 139)⟩,
 ⟨(some 23), none, .mov (.tmp 140)⟩])
 (.seq (.seq (.reg [⟨(some 141), none, .mov (.tmp 23)⟩,
 ⟨(some 142), none, .un .not (.tmp 141)⟩])
 (.cond (.tmp 142) (.seq (.reg [⟨(some 144), none, .load true 5 (.tmp 3)⟩,
 ⟨(some 145), none, .mov (.tmp 20)⟩,
 ⟨(some 146), none, .mov (.tmp 21)⟩,
 ⟨(some 147), none, .call (.fn 16) [(.tmp 144), (.tmp 145), (.tmp 146)]⟩,
 ⟨(some 143), none, .mov (.tmp 147)⟩,
 ⟨(some 148), none, .ext (.tmp 143) 0⟩,
 ⟨(some 149), none, .ext (.tmp 143) 1⟩,
 ⟨(some 24), none, .mov (.tmp 148)⟩,
 ⟨(some 25), none, .mov (.tmp 149)⟩])
 (.seq (.reg [⟨(some 151), none, .load true 5 (.tmp 3)⟩,
 ⟨(some 152), none, .mov (.tmp 20)⟩,
 ⟨(some 153), none, .call (.fn 30) [(.tmp 151), (.tmp 152)]⟩,
 ⟨(some 150), none, .mov (.tmp 153)⟩,
 ⟨(some 154), none, .ext (.tmp 150) 0⟩,
 ⟨(some 155), none, .ext (.tmp 150) 1⟩,
 ⟨(some 26), none, .mov (.tmp 154)⟩,
 ⟨(some 27), none, .mov (.tmp 155)⟩])
 (.seq (.reg [⟨(some 156), none, .mov (.tmp 25)⟩,
 ⟨(some 157), none, .bin .eql (.tmp 156) (.lit (.int .i64 10))⟩,
 ⟨(some 158), none, .mov (.tmp 157)⟩,
 ⟨(some 159), (some (158, true)), .mov (.tmp 24)⟩,
 ⟨(some 160), (some (158, true)), .bin .eql (.tmp 159) (.lit (.int .i64 0))⟩,
 ⟨(some 161), none, .pick (.tmp 158) (.tmp 160) (.lit (.bool false))⟩,
 ⟨(some 162), none, .mov (.tmp 161)⟩,
 ⟨(some 163), (some (162, true)), .mov (.tmp 27)⟩,
 ⟨(some 164), (some (162, true)), .bin .eql (.tmp 163) (.lit (.int .i64 0))⟩,
 ⟨(some 165), none, .pick (.tmp 162) (.tmp 164) (.lit (.bool false))⟩,
 ⟨(some 166), none, .mov (.tmp 165)⟩,
 ⟨(some 167), (some (166, true)), .call (.fn 15) []⟩,
 ⟨(some 168), none, .pick (.tmp 166) (.tmp 167) (.lit (.bool false))⟩,
 ⟨(some 6), none, .mov (.tmp 168)⟩])
 (.ret))))
 (.skip)))
 (.seq (.reg [⟨(some 169), none, .mkfn (.func 38) [] [(.tmp 3)]⟩,
 ⟨(some 28), none, .mov (.tmp 169)⟩])
 (.seq (.reg [⟨(some 29), none, .mov (.lit (.slice none 0 0))⟩,
 ⟨(some 30), none, .mov (.lit (.slice none 0 0))⟩])
 (.seq (.seq (.reg [⟨(some 170), none, .mov (.tmp 21)⟩,
 ⟨(some 171), none, .bin .gtr (.tmp 170) (.lit (.int .i64 0))⟩])
 (.cond (.tmp 171) (.reg [⟨(some 173), none, .load true 5 (.tmp 3)⟩,
 ⟨(some 174), none, .mov (.tmp 20)⟩,
 ⟨(some 175), none, .mov (.tmp 21)⟩,
 ⟨(some 176), none, .bin .sub (.tmp 175) (.lit (.int .i64 1))⟩,
 ⟨(some 177), none, .call (.fn 37) [(.tmp 173), (.tmp 174), (.tmp 176)]⟩,
 ⟨(some 172), none, .mov (.tmp 177)⟩,
 ⟨(some 178), none, .ext (.tmp 172) 0⟩,
 ⟨(some 179), none, .ext (.tmp 172) 1⟩,
 ⟨(some 29), none, .mov (.tmp 178)⟩,
 ⟨(some 23), none, .mov (.tmp 179)⟩])
 (.skip)))
 (.seq (.seq (.reg [⟨(some 180), none, .mov (.tmp 21)⟩,
 ⟨(some 181), none, .faddr 3 (.tmp 3)⟩,
 ⟨(some 182), none, .load false 1 (.tmp 181)⟩,
 ⟨(some 183), none, .bin .lss (.tmp 180) (.tmp 182)⟩,
 ⟨(some 184), none, .mov (.tmp 183)⟩,
 ⟨(some 185), (some (184, true)), .mov (.tmp 23)⟩,
 ⟨(some 186), none, .pick (.tmp 184) (.tmp 185) (.lit (.bool false))⟩])
 (.cond (.tmp 186) (.reg [⟨(some 188), none, .load true 5 (.tmp 3)⟩,
 ⟨(some 189), none, .mov (.tmp 20)⟩,
 ⟨(some 190), none, .mov (.tmp 21)⟩,
 ⟨(some 191), none, .bin .add (.tmp 190) (.lit (.int .i64 1))⟩,
 ⟨(some 192), none, .call (.fn 37) [(.tmp 188), (.tmp 189), (.tmp 191)]⟩,
 ⟨(some 187), none, .mov (.tmp 192)⟩,
 ⟨(some 193), none, .ext (.tmp 187) 0⟩,
 ⟨(some 194), none, .ext (.tmp 187) 1⟩,
 ⟨(some 30), none, .mov (.tmp 193)⟩,
 ⟨(some 23), none, .mov (.tmp 194)⟩])
 (.skip)))
 (.seq (.seq (.reg [⟨(some 195), none, .mov (.tmp 23)⟩,
 ⟨(some 196), none, .un .not (.tmp 195)⟩])
 (.cond (.tmp 196) (.seq (.reg [⟨(some 6), none, .mov (.lit (.bool false))⟩])
 (.ret))
 (.skip)))
 (.seq (.reg [⟨(some 197), none, .mkmap (none, (some .i64))⟩,
 ⟨(some 31), none, .mov (.tmp 197)⟩])
 (.seq (.seq (.reg [⟨(some 198), none, .mov (.tmp 22)⟩,
 ⟨(some 199), none, .len (.tmp 198)⟩,
 ⟨(some 200), none, .mov (.lit (.int .i64 0))⟩])
 (.block 0 (.loop (.seq (.reg [⟨(some 201), none, .bin .lss (.tmp 200) (.tmp 199)⟩])
 (.seq (.cond (.tmp 201) (.skip)
 (.exit 0))
 (.seq (.block 1 (.seq (.reg [⟨(some 202), none, .iaddr 1 (.tmp 198) (.tmp 200)⟩,
 ⟨(some 203), none, .load false 1 (.tmp 202)⟩,
 ⟨(some 33), none, .mov (.tmp 203)⟩])
 (.reg [⟨(some 204), none, .mov (.tmp 31)⟩,
 ⟨(some 205), none, .mov (.tmp 33)⟩,
 ⟨none, none, .mput (none, (some .i64)) (.tmp 204) (.tmp 205) (.lit (.bool true))⟩])))
 (.reg [⟨(some 206), none, .bin .add (.tmp 200) (.lit (.int .i64 1))⟩,
 ⟨(some 200), none, .mov (.tmp 206)⟩])))))))
 (.seq (.seq (.reg [⟨(some 207), none, .load true 5 (.tmp 3)⟩,
 ⟨(some 208), none, .call (.fn 35) [(.tmp 207)]⟩,
 ⟨(some 209), none, .mov (.lit (.int .i64 0))⟩])
 (.block 2 (.loop (.seq (.reg [⟨(some 210), none, .bin .lss (.tmp 209) (.tmp 208)⟩])
 (.seq (.cond (.tmp 210) (.skip)
 (.exit 2))
 (.seq (.block 3 (.seq (.reg [⟨(some 211), none, .mov (.tmp 209)⟩,
 ⟨(some 34), none, .mov (.tmp 211)⟩])
 (.seq (.reg [⟨(some 212), none, .mov (.tmp 21)⟩,
 ⟨(some 213), none, .bin .eql (.tmp 212) (.lit (.int .i64 0))⟩,
 ⟨(some 214), none, .mov (.tmp 213)⟩,
 ⟨(some 215), (some (214, false)), .mov (.tmp 28)⟩,
 ⟨(some 216), (some (214, false)), .mov (.tmp 34)⟩,
 ⟨(some 217), (some (214, false)), .mov (.tmp 29)⟩,
 ⟨(some 218), (some (214, false)), .call (.tmp 215) [(.tmp 216), (.tmp 217)]⟩,
 ⟨(some 219), none, .pick (.tmp 214) (.lit (.bool true)) (.tmp 218)⟩,
 ⟨(some 220), none, .mov (.tmp 219)⟩,
 ⟨(some 221), (some (220, true)), .mov (.tmp 21)⟩,
 ⟨(some 222), (some (220, true)), .faddr 3 (.tmp 3)⟩,
 ⟨(some 223), (some (220, true)), .load false 1 (.tmp 222)⟩,
 ⟨(some 224), (some (220, true)), .bin .eql (.tmp 221) (.tmp 223)⟩,
 ⟨(some 225), (some (220, true)), .mov (.tmp 224)⟩,
 ⟨(some 226), (some (225, false)), .mov (.tmp 28)⟩,
 ⟨(some 227), (some (225, false)), .mov (.tmp 34)⟩,
 ⟨(some 228), (some (225, false)), .mov (.tmp 30)⟩,
 ⟨(some 229), (some (225, false)), .call (.tmp 226) [(.tmp 227), (.tmp 228)]⟩,
 ⟨(some 230), (some (220, true)), .pick (.tmp 225) (.lit (.bool true)) (.tmp 229)⟩,
 ⟨(some 231), none, .pick (.tmp 220) (.tmp 230) (.lit (.bool false))⟩,
 ⟨(some 35), none, .mov (.tmp 231)⟩])
 (.seq (.seq (.reg [⟨(some 232), none, .faddr 4 (.tmp 3)⟩,
 ⟨(some 233), none, .load false 1 (.tmp 232)⟩,
 ⟨(some 234), none, .mov (.tmp 20)⟩,
 ⟨(some 235), none, .iaddr 1 (.tmp 233) (.tmp 234)⟩,
 ⟨(some 236), none, .load false 1 (.tmp 235)⟩,
 ⟨(some 237), none, .len (.tmp 236)⟩,
 ⟨(some 238), none, .mov (.lit (.int .i64 0))⟩])
 (.block 4 (.loop (.seq (.reg [⟨(some 239), none, .bin .lss (.tmp 238) (.tmp 237)⟩])
 (.seq (.cond (.tmp 239) (.skip)
 (.exit 4))
 (.seq (.block 5 (.seq (.reg [⟨(some 240), none, .iaddr 5 (.tmp 236) (.tmp 238)⟩,
 ⟨(some 241), none, .load true 5 (.tmp 240)⟩,
 ⟨(some 37), none, .alloc [(.int .i64 0), (.int .i64 0), (.int .i64 0), (.int .i64 0), (.int .i64 0)]⟩,
 ⟨none, none, .store 5 (.tmp 37) (.tmp 241)⟩])
 (.reg [⟨(some 242), none, .mov (.tmp 35)⟩,
 ⟨(some 243), none, .mov (.tmp 242)⟩,
 ⟨(some 244), (some (243, true)), .faddr 0 (.tmp 37)⟩,
 ⟨(some 245), (some (243, true)), .load false 1 (.tmp 244)⟩,
 ⟨(some 246), (some (243, true)), .mov (.tmp 21)⟩,
 ⟨(some 247), (some (243, true)), .bin .neq (.tmp 245) (.tmp 246)⟩,
 ⟨(some 248), (some (243, true)), .mov (.tmp 247)⟩,
 ⟨(some 249), (some (248, false)), .load true 5 (.tmp 3)⟩,
 ⟨(some 250), (some (248, false)), .load true 5 (.tmp 37)⟩,
 ⟨(some 251), (some (248, false)), .mov (.tmp 34)⟩,
 ⟨(some 252), (some (248, false)), .call (.fn 40) [(.tmp 249), (.tmp 250), (.tmp 251)]⟩,
 ⟨(some 253), (some (243, true)), .pick (.tmp 248) (.lit (.bool true)) (.tmp 252)⟩,
 ⟨(some 254), none, .pick (.tmp 243) (.tmp 253) (.lit (.bool false))⟩,
 ⟨(some 35), none, .mov (.tmp 254)⟩])))
 (.reg [⟨(some 255), none, .bin .add (.tmp 238) (.lit (.int .i64 1))⟩,
 ⟨(some 238), none, .mov (.tmp 255)⟩])))))))
 (.seq (.reg [⟨(some 256), none, .mov (.tmp 35)⟩,
 ⟨(some 257), none, .mov (.tmp 31)⟩,
 ⟨(some 258), none, .mov (.tmp 34)⟩,
 ⟨(some 259), none, .look (none, (some .i64)) (.bool false) false (.tmp 257) (.tmp 258)⟩,
 ⟨(some 260), none, .eqb true (.tmp 256) (.tmp 259)⟩])
 (.cond (.tmp 260) (.seq (.reg [⟨(some 6), none, .mov (.lit (.bool false))⟩])
 (.ret))
 (.skip)))))))
 (.reg [⟨(some 261), none, .bin .add (.tmp 209) (.lit (.int .i64 1))⟩,
 ⟨(some 209), none, .mov (.tmp 261)⟩])))))))
 (.seq (.reg [⟨(some 262), none, .call (.fn 15) []⟩,
 ⟨(some 6), none, .mov (.tmp 262)⟩])
 (.ret)))))))))))))))))))))
theorem k7 : FnC Tryd.prog 7 263 [] [] [.tmp 6] c7 3 := ⟨Tryd.f7, _, Tryd.func7, rfl, by decide, rfl, by decide, by kernel_rfl, by kernel_rfl⟩
/-- dipworks/dipworkslaw12.BoatSteps$1 -/
def c38 : AC :=
 .seq (.reg [⟨(some 5), none, .mov (.lit (.bool false))⟩])
 (.seq (.seq (.reg [⟨(some 8), none, .mov (.tmp 1)⟩,
 ⟨(some 9), none, .len (.tmp 8)⟩,
 ⟨(some 10), none, .mov (.lit (.int .i64 0))⟩])
 (.block 0 (.loop (.seq (.reg [⟨(some 11), none, .bin .lss (.tmp 10) (.tmp 9)⟩])
 (.seq (.cond (.tmp 11) (.skip)
 (.exit 0))
 (.seq (.block 1 (.seq (.reg [⟨(some 12), none, .iaddr 1 (.tmp 8) (.tmp 10)⟩,
 ⟨(some 13), none, .load false 1 (.tmp 12)⟩,
 ⟨(some 7), none, .mov (.tmp 13)⟩])
 (.seq (.draw (.step ⟨(some 14), none, .load true 5 (.tmp 2)⟩ (
 .step ⟨(some 15), none, .mov (.tmp 0)⟩ (
 .step ⟨(some 16), none, .mov (.tmp 7)⟩ (
 .step ⟨(some 18), none, .faddr 2 (.tmp 2)⟩ (
 .step ⟨(some 19), none, .load false 1 (.tmp 18)⟩ (
 .ev ⟨(some 17), none, .call (.fn 39) [(.tmp 14), (.tmp 15), (.tmp 16)]⟩ [⟨(some 19), none, .load false 1 (.tmp 18)⟩, ⟨(some 18), none, .faddr 2 (.tmp 2)⟩] (
 .step ⟨(some 20), none, .bin .leq (.tmp 17) (.tmp 19)⟩ (
 .done))
 (.stop))))))))
 (.cond (.tmp 20) (.seq (.reg [⟨(some 5), none, .mov (.lit (.bool true))⟩])
 (.ret))
 (.skip)))))
 (.reg [⟨(some 21), none, .bin .add (.tmp 10) (.lit (.int .i64 1))⟩,
 ⟨(some 10), none, .mov (.tmp 21)⟩])))))))
 (.seq (.reg [⟨(some 5), none, .mov (.lit (.bool false))⟩])
 (.ret)))
theorem k38 : FnC Tryd.prog 38 22 [] [] [.tmp 5] c38 3 := ⟨Tryd.f38, _, Tryd.func38, rfl, by decide, rfl, by decide, by kernel_rfl, by kernel_rfl⟩
/-- dipworks/dipworkslaw12.steps -/
def c39 : AC :=
 .seq (.reg [⟨(some 3), none, .box (.tmp 0)⟩,
 ⟨(some 6), none, .mov (.lit (.int .i64 0))⟩])
 (.seq (.draw (.step ⟨(some 9), none, .mov (.tmp 1)⟩ (
 .step ⟨(some 10), none, .faddr 0 (.tmp 3)⟩ (
 .step ⟨(some 11), none, .load false 1 (.tmp 10)⟩ (
 .step ⟨(some 12), none, .bin .rem (.tmp 9) (.tmp 11)⟩ (
 .step ⟨(some 13), none, .mov (.tmp 2)⟩ (
 .step ⟨(some 14), none, .faddr 0 (.tmp 3)⟩ (
 .step ⟨(some 15), none, .load false 1 (.tmp 14)⟩ (
 .step ⟨(some 16), none, .bin .rem (.tmp 13) (.tmp 15)⟩ (
 .step ⟨(some 17), none, .bin .sub (.tmp 12) (.tmp 16)⟩ (
 .step ⟨(some 18), none, .mov (.tmp 1)⟩ (
 .step ⟨(some 19), none, .faddr 0 (.tmp 3)⟩ (
 .step ⟨(some 20), none, .load false 1 (.tmp 19)⟩ (
 .step ⟨(some 21), none, .bin .quo (.tmp 18) (.tmp 20)⟩ (
 .step ⟨(some 22), none, .mov (.tmp 2)⟩ (
 .step ⟨(some 23), none, .faddr 0 (.tmp 3)⟩ (
 .step ⟨(some 24), none, .load false 1 (.tmp 23)⟩ (
 .step ⟨(some 25), none, .bin .quo (.tmp 22) (.tmp 24)⟩ (
 .step ⟨(some 26), none, .bin .sub (.tmp 21) (.tmp 25)⟩ (
 .step ⟨(some 7), none, .mov (.tmp 17)⟩ (
 .step ⟨(some 8), none, .mov (.tmp 26)⟩ (
 .done))))))))))))))))))))))
 (.seq (.reg [⟨(some 27), none, .mov (.tmp 7)⟩,
 ⟨(some 28), none, .mov (.tmp 7)⟩,
 ⟨(some 29), none, .un .neg (.tmp 28)⟩,
 ⟨(some 30), none, .mxmn true (.tmp 27) [(.tmp 29)]⟩,
 ⟨(some 31), none, .mov (.tmp 8)⟩,
 ⟨(some 32), none, .mov (.tmp 8)⟩,
 ⟨(some 33), none, .un .neg (.tmp 32)⟩,
 ⟨(some 34), none, .mxmn true (.tmp 31) [(.tmp 33)]⟩,
 ⟨(some 35), none, .bin .add (.tmp 30) (.tmp 34)⟩,
 ⟨(some 6), none, .mov (.tmp 35)⟩])
 (.ret)))
theorem k39 : FnC Tryd.prog 39 36 [] [] [.tmp 6] c39 3 := ⟨Tryd.f39, _, Tryd.func39, rfl, by decide, rfl, by decide, by kernel_rfl, by kernel_rfl⟩
end Go.Proofs.YtafcdpmcmmfbhaaDoor

/- Compiled code of functions, printed by program; each is checked to be the program's. No conditions. -/
namespace Go.Proofs.YtafcdpmcmmfbhaaDoor
open Go Go.Ab
/-- dipworks/dipworksref12.Within -/
def c40 : AC :=
 .seq (.reg [⟨(some 3), none, .box (.tmp 0)⟩,
 ⟨(some 4), none, .box (.tmp 1)⟩,
 ⟨(some 6), none, .mov (.lit (.bool false))⟩])
 (.seq (.draw (.step ⟨(some 7), none, .mov (.tmp 2)⟩ (
 .step ⟨(some 8), none, .faddr 0 (.tmp 3)⟩ (
 .step ⟨(some 9), none, .load false 1 (.tmp 8)⟩ (
 .step ⟨(some 10), none, .bin .rem (.tmp 7) (.tmp 9)⟩ (
 .step ⟨(some 11), none, .faddr 1 (.tmp 4)⟩ (
 .step ⟨(some 12), none, .faddr 0 (.tmp 11)⟩ (
 .step ⟨(some 13), none, .load false 1 (.tmp 12)⟩ (
 .step ⟨(some 14), none, .faddr 1 (.tmp 4)⟩ (
 .step ⟨(some 15), none, .faddr 1 (.tmp 14)⟩ (
 .step ⟨(some 16), none, .load false 1 (.tmp 15)⟩ (
 .ev ⟨(some 17), none, .call (.fn 59) [(.tmp 10), (.tmp 13), (.tmp 16)]⟩ [⟨(some 15), none, .faddr 1 (.tmp 14)⟩, ⟨(some 14), none, .faddr 1 (.tmp 4)⟩, ⟨(some 12), none, .faddr 0 (.tmp 11)⟩, ⟨(some 11), none, .faddr 1 (.tmp 4)⟩, ⟨(some 9), none, .load false 1 (.tmp 8)⟩, ⟨(some 8), none, .faddr 0 (.tmp 3)⟩] (
 .step ⟨(some 18), none, .mov (.tmp 17)⟩ (
 .step ⟨(some 19), (some (18, true)), .mov (.tmp 2)⟩ (
 .step ⟨(some 20), (some (18, true)), .faddr 0 (.tmp 3)⟩ (
 .step ⟨(some 21), (some (18, true)), .load false 1 (.tmp 20)⟩ (
 .step ⟨(some 22), (some (18, true)), .bin .quo (.tmp 19) (.tmp 21)⟩ (
 .step ⟨(some 23), (some (18, true)), .faddr 3 (.tmp 4)⟩ (
 .step ⟨(some 24), (some (18, true)), .faddr 0 (.tmp 23)⟩ (
 .step ⟨(some 25), (some (18, true)), .load false 1 (.tmp 24)⟩ (
 .step ⟨(some 26), (some (18, true)), .faddr 3 (.tmp 4)⟩ (
 .step ⟨(some 27), (some (18, true)), .faddr 1 (.tmp 26)⟩ (
 .step ⟨(some 28), (some (18, true)), .load false 1 (.tmp 27)⟩ (
 .ev ⟨(some 29), (some (18, true)), .call (.fn 59) [(.tmp 22), (.tmp 25), (.tmp 28)]⟩ [⟨(some 27), (some (18, true)), .faddr 1 (.tmp 26)⟩, ⟨(some 26), (some (18, true)), .faddr 3 (.tmp 4)⟩, ⟨(some 24), (some (18, true)), .faddr 0 (.tmp 23)⟩, ⟨(some 23), (some (18, true)), .faddr 3 (.tmp 4)⟩, ⟨(some 21), (some (18, true)), .load false 1 (.tmp 20)⟩, ⟨(some 20), (some (18, true)), .faddr 0 (.tmp 3)⟩, ⟨(some 16), none, .load false 1 (.tmp 15)⟩, ⟨(some 15), none, .faddr 1 (.tmp 14)⟩, ⟨(some 14), none, .faddr 1 (.tmp 4)⟩, ⟨(some 13), none, .load false 1 (.tmp 12)⟩, ⟨(some 12), none, .faddr 0 (.tmp 11)⟩, ⟨(some 11), none, .faddr 1 (.tmp 4)⟩, ⟨(some 9), none, .load false 1 (.tmp 8)⟩, ⟨(some 8), none, .faddr 0 (.tmp 3)⟩] (
 .step ⟨(some 30), none, .pick (.tmp 18) (.tmp 29) (.lit (.bool false))⟩ (
 .step ⟨(some 6), none, .mov (.tmp 30)⟩ (
 .done)))
 (.stop)))))))))))))
 (.stop)))))))))))))
 (.ret))
theorem k40 : FnC Tryd.prog 40 31 [] [] [.tmp 6] c40 3 := ⟨Tryd.f40, _, Tryd.func40, rfl, by decide, rfl, by decide, by kernel_rfl, by kernel_rfl⟩
end Go.Proofs.YtafcdpmcmmfbhaaDoor

/- Steps; what can be come to; places within sightings; sets in a map. -/
namespace Go.Proofs.YtafcdpmcmmfbhaaDoor
open Go Go.Ab

/-! ### A set in a map -/
structure InOK (m : List ME) (clk : Nat) (l : List Nat) : Prop where
  wf : MWF ((none, some IntKind.i64) : Sh) m clk
  at' : ∀ h : Nat, mget m [(h : Int)] = if h ∈ l then some (vb true) else none
theorem InOK.nil : InOK [] 0 [] := ⟨MWF.nil rfl, fun h => by simp [mget]⟩
theorem mupd_cons (e : ME) (m : List ME) (clk : Nat) (key : List Int) (v : T) : mupd (e :: m) clk key v = if key = e.2.1 then (e.1, e.2.1, v) :: m else e :: mupd m clk key v := by
  unfold mupd
  rw [List.findIdx?_cons]
  by_cases h : key = e.2.1
  · simp [h]
  · simp only [h, decide_false, if_false]
    cases m.findIdx? fun e => decide (key = e.2.1) <;> simp
theorem mget_cons (e : ME) (m : List ME) (key : List Int) : mget (e :: m) key = if key = e.2.1 then some e.2.2 else mget m key := by
  unfold mget
  rw [List.find?_cons]
  by_cases h : key = e.2.1 <;> simp [h]
theorem mget_mupd (clk : Nat) (key key' : List Int) (v : T) : ∀ m : List ME, mget (mupd m clk key v) key' = if key' = key then some v else mget m key'
  | [] => by
    show mget [(clk, key, v)] key' = _
    rw [mget_cons]
  | e :: m => by
    rw [mupd_cons, mget_cons]
    by_cases h : key = e.2.1
    · rw [if_pos h, mget_cons, ← h]
      simp only
      by_cases c : key' = key <;> simp [c]
    · rw [if_neg h, mget_cons, mget_mupd clk key key' v m]
      by_cases c : key' = e.2.1
      · have : ¬ key' = key := fun e' => h (e'.symm.trans c)
        simp [c, this]
        intro e'; exact absurd e'.symm h
      · simp [c]
theorem InOK.look {m : List ME} {clk : Nat} {l : List Nat} (h : InOK m clk l) (k : Nat) : (kfind ((none, some IntKind.i64) : Sh) (mks m) [(k : Int)] = none ∧ k ∉ l) ∨ ∃ i, kfind ((none, some IntKind.i64) : Sh) (mks m) [(k : Int)] = some i ∧ (mvs m)[i]? = some (vb true) ∧ k ∈ l := by
  have ha := h.at' k
  rw [kfind_int h.wf.ints rfl h.wf.lens]
  rw [mget_eq] at ha
  cases hf : m.findIdx? fun e => decide ([(k : Int)] = e.2.1) with
  | none =>
    rw [hf] at ha
    refine .inl ⟨rfl, fun c => ?_⟩
    rw [if_pos c] at ha
    cases ha
  | some i =>
    rw [hf] at ha
    have hi : i < m.length := (List.findIdx?_eq_some_iff_getElem.1 hf).1
    simp only [Option.bind_some] at ha
    refine .inr ⟨i, rfl, ?_⟩
    split at ha
    · rename_i c; exact ⟨ha, c⟩
    · rw [mvs_get, List.getElem?_eq_getElem hi] at ha; cases ha
theorem InOK.put {m : List ME} {clk : Nat} {l : List Nat} (h : InOK m clk l) (k : Nat) : InOK (mupd m clk [(k : Int)] (vb true)) (mclk m clk [(k : Int)]) (l ++ [k]) := by
  refine ⟨mupd_wf h.wf rfl _, fun x => ?_⟩
  rw [mget_mupd]
  by_cases c : x = k
  · subst c
    rw [if_pos rfl, if_pos (by simp)]
  · rw [if_neg (by simp; omega), h.at' x]
    by_cases hx : x ∈ l
    · rw [if_pos hx, if_pos (by simp [hx])]
    · rw [if_neg hx, if_neg (by simp [hx, c])]
theorem InOK.put_none {m : List ME} {clk : Nat} {l : List Nat} (h : InOK m clk l) {k : Nat} (v : T) (hf : kfind ((none, some IntKind.i64) : Sh) (mks m) [(k : Int)] = none) : AO.map ((none, some IntKind.i64) : Sh) (mks m ++ [(clk, [(k : Int)])]) (mvs m ++ [v]) (clk + 1) = AO.map ((none, some IntKind.i64) : Sh) (mks (mupd m clk [(k : Int)] v)) (mvs (mupd m clk [(k : Int)] v)) (mclk m clk [(k : Int)]) := by
  have := mput_res h.wf (key := [(k : Int)]) rfl v id
  rw [hf] at this
  exact this
theorem InOK.put_some {m : List ME} {clk : Nat} {l : List Nat} (h : InOK m clk l) {k : Nat} (v : T) {i : Nat} (hf : kfind ((none, some IntKind.i64) : Sh) (mks m) [(k : Int)] = some i) : AO.map ((none, some IntKind.i64) : Sh) (mks m) ((mvs m).set i v) clk = AO.map ((none, some IntKind.i64) : Sh) (mks (mupd m clk [(k : Int)] v)) (mvs (mupd m clk [(k : Int)] v)) (mclk m clk [(k : Int)]) := by
  have := mput_res h.wf (key := [(k : Int)]) rfl v id
  rw [hf] at this
  exact this

/-! ### Steps -/
theorem tdiv_nat (a n : Nat) : (a : Int).tdiv (n : Int) = ((a / n : Nat) : Int) := by rw [Int.tdiv_eq_ediv_of_nonneg (by omega)]; rfl
set_option maxRecDepth 8000 in
set_option maxHeartbeats 4000000 in
theorem steps_ok (b : Bo) (hb : b.OK) (p q : Nat) (hp : p < 64) (hq : q < 64) : ACall Tryd.prog 39 [.t (.agg (bo5 b)), .t (vi p), .t (vi q)] [] (ret (vi (dist b p q))) := by
  refine ACall.walk k39 ?_
  unfold c39
  have hW := hb.W
  have w0 : ¬ (b.wide = 0) := by omega
  have d1 : (p : Int).tdiv b.wide = ((p / b.W : Nat) : Int) := by rw [hW.2.2]; exact tdiv_nat p b.W
  have d2 : (q : Int).tdiv b.wide = ((q / b.W : Nat) : Int) := by rw [hW.2.2]; exact tdiv_nat q b.W
  have d3 : (p : Int).tmod b.wide = ((p % b.W : Nat) : Int) := by rw [hW.2.2]; exact mod_nat p b.W
  have d4 : (q : Int).tmod b.wide = ((q % b.W : Nat) : Int) := by rw [hW.2.2]; exact mod_nat q b.W
  have b1 : p / b.W < 64 := Nat.lt_of_le_of_lt (Nat.div_le_self _ _) hp
  have b2 : q / b.W < 64 := Nat.lt_of_le_of_lt (Nat.div_le_self _ _) hq
  have b3 : p % b.W < 64 := Nat.lt_of_le_of_lt (Nat.mod_le _ _) hp
  have b4 : q % b.W < 64 := Nat.lt_of_le_of_lt (Nat.mod_le _ _) hq
  have hd : dist b p q = (p % b.W - q % b.W) + (q % b.W - p % b.W) + ((p / b.W - q / b.W) + (q / b.W - p / b.W)) := rfl
  rw [hd]
  generalize p / b.W = pr at *
  generalize q / b.W = qr at *
  generalize p % b.W = pc at *
  generalize q % b.W = qc at *
  have w1 : IntKind.i64.wrap (pr : Int) = pr := wrap_id (by omega) (by omega)
  have w2 : IntKind.i64.wrap (qr : Int) = qr := wrap_id (by omega) (by omega)
  have w3 : IntKind.i64.wrap ((pc : Int) - qc) = (pc : Int) - qc := wrap_id (by omega) (by omega)
  have w4 : IntKind.i64.wrap ((pr : Int) - qr) = (pr : Int) - qr := wrap_id (by omega) (by omega)
  have w5 : IntKind.i64.wrap (0 - ((pc : Int) - qc)) = (qc : Int) - pc := by rw [wrap_id (by omega) (by omega)]; omega
  have w6 : IntKind.i64.wrap (0 - ((pr : Int) - qr)) = (qr : Int) - pr := by rw [wrap_id (by omega) (by omega)]; omega
  have m1 : max ((pc : Int) - qc) ((qc : Int) - pc) = ((pc - qc + (qc - pc) : Nat) : Int) := by omega
  have m2 : max ((pr : Int) - qr) ((qr : Int) - pr) = ((pr - qr + (qr - pr) : Nat) : Int) := by omega
  have w7 : IntKind.i64.wrap (((pc - qc + (qc - pc) : Nat) : Int) + ((pr - qr + (qr - pr) : Nat) : Int)) = ((pc - qc + (qc - pc) + (pr - qr + (qr - pr)) : Nat) : Int) := by rw [wrap_id (by omega) (by omega)]; omega
  unfold bo5
  simp only [go_sem, Nat.reduceEqDiff, Nat.reduceAdd, Nat.reduceSub, Nat.reduceMul, Nat.reduceLT, Nat.reduceLeDiff, Nat.reduceMod, Nat.reduceDiv, Int.reduceToNat, Int.reduceLT, Int.reduceLE, Bool.not_true, Bool.not_false, reduceIte, Int.reduceEq, Int.reduceBEq, Int.reduceBNe, Int.reduceGT, Int.reduceGE, Int.reduceNeg, Int.reduceAdd, Int.reduceSub, Nat.reduceBEq, decide_true, decide_false, undef, beq_self_eq_true, bne_self_eq_false, Bool.and_true, Bool.true_and, Bool.and_false, Bool.false_and, Bool.or_true, Bool.true_or, Bool.or_false, Bool.false_or, undef, w0, d1, d2, d3, d4, w1, w2, w3, w4, w5, w6, m1, m2, w7]
  repeat' (first | refine AndL.mk ?_ ?_ | simp only [go_sem, Nat.reduceEqDiff, Nat.reduceAdd, Nat.reduceSub, Nat.reduceMul, Nat.reduceLT, Nat.reduceLeDiff, Nat.reduceMod, Nat.reduceDiv, Int.reduceToNat, Int.reduceLT, Int.reduceLE, Bool.not_true, Bool.not_false, reduceIte, Int.reduceEq, Int.reduceBEq, Int.reduceBNe, Int.reduceGT, Int.reduceGE, Int.reduceNeg, Int.reduceAdd, Int.reduceSub, Nat.reduceBEq, decide_true, decide_false, undef, beq_self_eq_true, bne_self_eq_false, Bool.and_true, Bool.true_and, Bool.and_false, Bool.false_and, Bool.or_true, Bool.true_or, Bool.or_false, Bool.false_or, undef, w0, d1, d2, d3, d4, w1, w2, w3, w4, w5, w6, m1, m2, w7])
  all_goals exact finL_ret [] ⟨rfl, rfl, rfl, rfl, _, rfl, res_mk rfl⟩
def reachB (b : Bo) (p : Nat) (l : List Nat) : Bool := l.any fun q => decide (dist b p q ≤ b.speed.toNat)
set_option maxRecDepth 8000 in
set_option maxHeartbeats 4000000 in
theorem reach_ok (b : Bo) (hb : b.OK) (p : Nat) (hp : p < 64) (l : List Nat) (hl : ∀ q ∈ l, q < 64) (h6 : l.length < 64) : ACall Tryd.prog 38 [.t (vi p), .t (tN l), .t (.ptr (.agg (bo5 b)) 0)] [] (ret (vb (reachB b p l))) := by
  refine ACall.walk k38 ?_
  unfold c38
  have hs := hb.speed
  have hst : ∀ (j x : Nat), l[j]? = some x → ACall Tryd.prog 39 [.t (.agg (bo5 b)), .t (vi p), .t (vi x)] [] (ret (vi (dist b p x))) := fun j x h => steps_ok b hb p x hp (hl x (List.mem_of_getElem? h))
  have hno : (∀ j (h : j < l.length), ¬ dist b p l[j] ≤ b.speed.toNat) → reachB b p l = false := fun h => by
    rw [← Bool.not_eq_true]
    intro c
    obtain ⟨q, hq, hd⟩ := List.any_eq_true.1 c
    obtain ⟨j, hj, rfl⟩ := List.getElem_of_mem hq
    exact h j hj (of_decide_eq_true hd)
  have hyes : ∀ (j x : Nat), l[j]? = some x → dist b p x ≤ b.speed.toNat → reachB b p l = true := fun j x h hd => List.any_eq_true.2 ⟨x, List.mem_of_getElem? h, decide_eq_true hd⟩
  generalize reachB b p l = R at *
  unfold bo5 at hst ⊢
  simp only [go_sem, Nat.reduceEqDiff, Nat.reduceAdd, Nat.reduceSub, Nat.reduceMul, Nat.reduceLT, Nat.reduceLeDiff, Nat.reduceMod, Nat.reduceDiv, Int.reduceToNat, Int.reduceLT, Int.reduceLE, Bool.not_true, Bool.not_false, reduceIte, Int.reduceEq, Int.reduceBEq, Int.reduceBNe, Int.reduceGT, Int.reduceGE, Int.reduceNeg, Int.reduceAdd, Int.reduceSub, Nat.reduceBEq, decide_true, decide_false, undef, beq_self_eq_true, bne_self_eq_false, Bool.and_true, Bool.true_and, Bool.and_false, Bool.false_and, Bool.or_true, Bool.true_or, Bool.or_false, Bool.false_or, undef, List.length_map]
  refine awpL_for (i := 10) (L := 9) l.length (fun j st => (∀ i (h : i < l.length), i < j → ¬ dist b p l[i] ≤ b.speed.toNat) ∧ st = { env := [(10, .t (vi j)), (9, .t (vi l.length)), (8, .t (tN l)), (0, .t (vi p)), (2, .t (.ptr (.agg (bo5 b)) 0))], σ := [] }) ?_ ⟨_, Sub.gc [] [10, 9, 8, 0, 2] rfl rfl, by intros; omega, rfl⟩ ?_ ?_
  · rintro k st ⟨_, rfl⟩; exact ⟨rfl, rfl⟩
  · rintro j st hj ⟨hno', rfl⟩
    have hwj : IntKind.i64.wrap ((j : Int) + 1) = ((j + 1 : Nat) : Int) := by rw [wrap_id (by omega) (by omega)]; omega
    have hx : l[j]? = some l[j] := List.getElem?_eq_getElem hj
    have h39 := hst j _ hx
    have hyes := hyes j _ hx
    have hn2 := fun (h : ¬ dist b p l[j] ≤ b.speed.toNat) => show ∀ i (h : i < l.length), i < j + 1 → ¬ dist b p l[i] ≤ b.speed.toNat from fun i h' hi => by
      by_cases c : i < j
      · exact hno' i h' c
      · have : i = j := by omega
        subst this; exact h
    have hxd : ((dist b p l[j] : Nat) : Int) ≤ b.speed ↔ dist b p l[j] ≤ b.speed.toNat := by omega
    generalize l[j] = x at *
    generalize dist b p x = d at *
    simp only [bo5, go_sem, Nat.reduceEqDiff, Nat.reduceAdd, Nat.reduceSub, Nat.reduceMul, Nat.reduceLT, Nat.reduceLeDiff, Nat.reduceMod, Nat.reduceDiv, Int.reduceToNat, Int.reduceLT, Int.reduceLE, Bool.not_true, Bool.not_false, reduceIte, Int.reduceEq, Int.reduceBEq, Int.reduceBNe, Int.reduceGT, Int.reduceGE, Int.reduceNeg, Int.reduceAdd, Int.reduceSub, Nat.reduceBEq, decide_true, decide_false, undef, beq_self_eq_true, bne_self_eq_false, Bool.and_true, Bool.true_and, Bool.and_false, Bool.false_and, Bool.or_true, Bool.true_or, Bool.or_false, Bool.false_or, undef, List.length_map, List.getElem?_map, hx, Option.map_some, hwj]
    refine ACallL.quiet1 h39 rfl rfl rfl ?_
    cases g : decide ((d : Int) ≤ b.speed)
    · simp only [bo5, go_sem, Nat.reduceEqDiff, Nat.reduceAdd, Nat.reduceSub, Nat.reduceMul, Nat.reduceLT, Nat.reduceLeDiff, Nat.reduceMod, Nat.reduceDiv, Int.reduceToNat, Int.reduceLT, Int.reduceLE, Bool.not_true, Bool.not_false, reduceIte, Int.reduceEq, Int.reduceBEq, Int.reduceBNe, Int.reduceGT, Int.reduceGE, Int.reduceNeg, Int.reduceAdd, Int.reduceSub, Nat.reduceBEq, decide_true, decide_false, undef, beq_self_eq_true, bne_self_eq_false, Bool.and_true, Bool.true_and, Bool.and_false, Bool.false_and, Bool.or_true, Bool.true_or, Bool.or_false, Bool.false_or, undef, List.length_map, List.getElem?_map, hx, Option.map_some, hwj, g]
      exact ⟨_, Sub.gc [] [10, 9, 8, 0, 2] rfl rfl, hn2 (by have := of_decide_eq_false g; omega), rfl⟩
    · have hy := hyes (by have := of_decide_eq_true g; omega)
      subst hy
      simp only [bo5, go_sem, Nat.reduceEqDiff, Nat.reduceAdd, Nat.reduceSub, Nat.reduceMul, Nat.reduceLT, Nat.reduceLeDiff, Nat.reduceMod, Nat.reduceDiv, Int.reduceToNat, Int.reduceLT, Int.reduceLE, Bool.not_true, Bool.not_false, reduceIte, Int.reduceEq, Int.reduceBEq, Int.reduceBNe, Int.reduceGT, Int.reduceGE, Int.reduceNeg, Int.reduceAdd, Int.reduceSub, Nat.reduceBEq, decide_true, decide_false, undef, beq_self_eq_true, bne_self_eq_false, Bool.and_true, Bool.true_and, Bool.and_false, Bool.false_and, Bool.or_true, Bool.true_or, Bool.or_false, Bool.false_or, undef, List.length_map, List.getElem?_map, hx, Option.map_some, hwj, g]
      exact finL_ret [] ⟨rfl, rfl, rfl, rfl, _, rfl, res_mk rfl⟩
  · rintro st ⟨hno', rfl⟩
    have hy := hno fun j h => hno' j h h
    subst hy
    simp only [bo5, go_sem, Nat.reduceEqDiff, Nat.reduceAdd, Nat.reduceSub, Nat.reduceMul, Nat.reduceLT, Nat.reduceLeDiff, Nat.reduceMod, Nat.reduceDiv, Int.reduceToNat, Int.reduceLT, Int.reduceLE, Bool.not_true, Bool.not_false, reduceIte, Int.reduceEq, Int.reduceBEq, Int.reduceBNe, Int.reduceGT, Int.reduceGE, Int.reduceNeg, Int.reduceAdd, Int.reduceSub, Nat.reduceBEq, decide_true, decide_false, undef, beq_self_eq_true, bne_self_eq_false, Bool.and_true, Bool.true_and, Bool.and_false, Bool.false_and, Bool.or_true, Bool.true_or, Bool.or_false, Bool.false_or, undef]
    exact finL_ret [] ⟨rfl, rfl, rfl, rfl, _, rfl, res_mk rfl⟩
set_option maxRecDepth 8000 in
set_option maxHeartbeats 4000000 in
theorem rwithin_ok (b : Bo) (hb : b.OK) (s : Si) (hs : s.OK b) (p : Nat) (hp : p < 64) : ACall Tryd.prog 40 [.t (.agg (bo5 b)), .t (tSi s), .t (vi p)] [] (ret (vb (inB b s p))) := by
  refine ACall.walk k40 ?_
  unfold c40
  have hW := hb.W
  have w0 : ¬ (b.wide = 0) := by omega
  have d1 : (p : Int).tdiv b.wide = ((p / b.W : Nat) : Int) := by rw [hW.2.2]; exact tdiv_nat p b.W
  have d3 : (p : Int).tmod b.wide = ((p % b.W : Nat) : Int) := by rw [hW.2.2]; exact mod_nat p b.W
  have b1 : p / b.W < 64 := Nat.lt_of_le_of_lt (Nat.div_le_self _ _) hp
  have w1 : IntKind.i64.wrap ((p / b.W : Nat) : Int) = ((p / b.W : Nat) : Int) := i64_nat (by omega)
  have hc := hs.col
  have hr := hs.row
  have h1 := rin_ok ((p % b.W : Nat) : Int) s.c1 s.c2
  have h2 := rin_ok ((p / b.W : Nat) : Int) s.r1 s.r2
  have e1 : inB b s p = (wI ((p % b.W : Nat) : Int) s.c1 s.c2 && wI ((p / b.W : Nat) : Int) s.r1 s.r2) := by
    unfold inB
    rw [Bool.eq_iff_iff]
    simp only [Bool.and_eq_true, decide_eq_true_eq, wI_iff]
    omega
  rw [e1]
  generalize wI ((p % b.W : Nat) : Int) s.c1 s.c2 = B1 at *
  generalize wI ((p / b.W : Nat) : Int) s.r1 s.r2 = B2 at *
  obtain ⟨x1, x2, x3, x4, x5⟩ := s
  unfold bo5 tSi
  simp only [go_sem, Nat.reduceEqDiff, Nat.reduceAdd, Nat.reduceSub, Nat.reduceMul, Nat.reduceLT, Nat.reduceLeDiff, Nat.reduceMod, Nat.reduceDiv, Int.reduceToNat, Int.reduceLT, Int.reduceLE, Bool.not_true, Bool.not_false, reduceIte, Int.reduceEq, Int.reduceBEq, Int.reduceBNe, Int.reduceGT, Int.reduceGE, Int.reduceNeg, Int.reduceAdd, Int.reduceSub, Nat.reduceBEq, decide_true, decide_false, undef, beq_self_eq_true, bne_self_eq_false, Bool.and_true, Bool.true_and, Bool.and_false, Bool.false_and, Bool.or_true, Bool.true_or, Bool.or_false, Bool.false_or, undef, w0, d1, d3, w1]
  repeat' (first | refine AndL.mk ?_ ?_ | simp only [go_sem, Nat.reduceEqDiff, Nat.reduceAdd, Nat.reduceSub, Nat.reduceMul, Nat.reduceLT, Nat.reduceLeDiff, Nat.reduceMod, Nat.reduceDiv, Int.reduceToNat, Int.reduceLT, Int.reduceLE, Bool.not_true, Bool.not_false, reduceIte, Int.reduceEq, Int.reduceBEq, Int.reduceBNe, Int.reduceGT, Int.reduceGE, Int.reduceNeg, Int.reduceAdd, Int.reduceSub, Nat.reduceBEq, decide_true, decide_false, undef, beq_self_eq_true, bne_self_eq_false, Bool.and_true, Bool.true_and, Bool.and_false, Bool.false_and, Bool.or_true, Bool.true_or, Bool.or_false, Bool.false_or, undef, w0, d1, d3, w1])
  refine ACallL.quiet1 h1 rfl rfl rfl ?_
  cases B1
  · simp only [go_sem, Nat.reduceEqDiff, Nat.reduceAdd, Nat.reduceSub, Nat.reduceMul, Nat.reduceLT, Nat.reduceLeDiff, Nat.reduceMod, Nat.reduceDiv, Int.reduceToNat, Int.reduceLT, Int.reduceLE, Bool.not_true, Bool.not_false, reduceIte, Int.reduceEq, Int.reduceBEq, Int.reduceBNe, Int.reduceGT, Int.reduceGE, Int.reduceNeg, Int.reduceAdd, Int.reduceSub, Nat.reduceBEq, decide_true, decide_false, undef, beq_self_eq_true, bne_self_eq_false, Bool.and_true, Bool.true_and, Bool.and_false, Bool.false_and, Bool.or_true, Bool.true_or, Bool.or_false, Bool.false_or, undef, w0, d1, d3, w1]
    exact finL_ret [] ⟨rfl, rfl, rfl, rfl, _, rfl, res_mk rfl⟩
  · simp only [go_sem, Nat.reduceEqDiff, Nat.reduceAdd, Nat.reduceSub, Nat.reduceMul, Nat.reduceLT, Nat.reduceLeDiff, Nat.reduceMod, Nat.reduceDiv, Int.reduceToNat, Int.reduceLT, Int.reduceLE, Bool.not_true, Bool.not_false, reduceIte, Int.reduceEq, Int.reduceBEq, Int.reduceBNe, Int.reduceGT, Int.reduceGE, Int.reduceNeg, Int.reduceAdd, Int.reduceSub, Nat.reduceBEq, decide_true, decide_false, undef, beq_self_eq_true, bne_self_eq_false, Bool.and_true, Bool.true_and, Bool.and_false, Bool.false_and, Bool.or_true, Bool.true_or, Bool.or_false, Bool.false_or, undef, w0, d1, d3, w1]
    refine ACallL.quiet1 h2 rfl rfl rfl ?_
    simp only [go_sem, Nat.reduceEqDiff, Nat.reduceAdd, Nat.reduceSub, Nat.reduceMul, Nat.reduceLT, Nat.reduceLeDiff, Nat.reduceMod, Nat.reduceDiv, Int.reduceToNat, Int.reduceLT, Int.reduceLE, Bool.not_true, Bool.not_false, reduceIte, Int.reduceEq, Int.reduceBEq, Int.reduceBNe, Int.reduceGT, Int.reduceGE, Int.reduceNeg, Int.reduceAdd, Int.reduceSub, Nat.reduceBEq, decide_true, decide_false, undef, beq_self_eq_true, bne_self_eq_false, Bool.and_true, Bool.true_and, Bool.and_false, Bool.false_and, Bool.or_true, Bool.true_or, Bool.or_false, Bool.false_or, undef, w0, d1, d3, w1]
    exact finL_ret [] ⟨rfl, rfl, rfl, rfl, _, rfl, res_mk rfl⟩

/-! ### The law -/
theorem mem_places {n k p : Nat} : p ∈ placesL n k ↔ p < k ∧ n.testBit p = true := by
  unfold placesL
  rw [List.mem_filter, List.mem_range]
theorem canM_places {b : Bo} (hb : b.OK) {i m : Nat} (hm : m ≤ b.L) (p : Nat) : p ∈ placesL (canM b i m) b.N ↔ ∃ c, TrQ b (rowQ b i 0) c ∧ c m = p := by
  rw [mem_places, canM_bit hb hm]
  refine ⟨fun h => h.2, fun h => ⟨?_, h⟩⟩
  obtain ⟨c, hc, rfl⟩ := h
  exact (hc.ok m (Nat.zero_le _) hm).lt
theorem steps_law {b : Bo} (hb : b.OK) {i m : Nat} (hm : m ≤ b.L) {p : Nat} (hp : p < b.N) : p ∈ placesL (canM b i m) b.N ↔ (m = 0 ∨ reachB b p (placesL (canM b i (m - 1)) b.N) = true) ∧ (m = b.L ∨ reachB b p (placesL (canM b i (m + 1)) b.N) = true) ∧ ∀ s ∈ seenOf b i, s.minute = m → inB b s p = true := by
  have hsp := hb.speed
  have hreach : ∀ l, reachB b p l = true ↔ ∃ q ∈ l, dist b p q ≤ b.speed.toNat := fun l => by
    unfold reachB
    rw [List.any_eq_true]
    simp only [decide_eq_true_eq]
  rw [hreach, hreach, canM_places hb hm]
  constructor
  · rintro ⟨c, hc, rfl⟩
    refine ⟨?_, ?_, fun s hs e => (hc.ok m (Nat.zero_le _) hm).saw s (by rw [show (rowQ b i 0).without = 0 from rfl, kept_nought]; exact hs) e⟩
    · by_cases h : m = 0
      · exact .inl h
      · refine .inr ⟨c (m - 1), (canM_places hb (by omega) _).2 ⟨c, hc, rfl⟩, ?_⟩
        rw [dist_comm]
        have := hc.near (m - 1) (Nat.zero_le _) (by omega)
        rwa [show m - 1 + 1 = m by omega] at this
    · by_cases h : m = b.L
      · exact .inl h
      · exact .inr ⟨c (m + 1), (canM_places hb (by omega) _).2 ⟨c, hc, rfl⟩, hc.near m (Nat.zero_le _) (by omega)⟩
  · rintro ⟨h1, h2, h3⟩
    have g1 : ∃ c : Nat → Nat, (∀ k < m, okP b (rowQ b i 0) (seenOf b i) k (c k)) ∧ (∀ k, k + 1 < m → dist b (c k) (c (k + 1)) ≤ b.speed.toNat) ∧ (m ≠ 0 → dist b p (c (m - 1)) ≤ b.speed.toNat) := by
      rcases h1 with h | ⟨q, hq, hd⟩
      · exact ⟨fun _ => 0, fun k hk => by omega, fun k hk => by omega, fun c => absurd h c⟩
      · by_cases h0 : m = 0
        · exact ⟨fun _ => 0, fun k hk => by omega, fun k hk => by omega, fun c => absurd h0 c⟩
        · obtain ⟨c, hc, rfl⟩ := (canM_places hb (by omega) _).1 hq
          exact ⟨c, fun k hk => hc.ok k (Nat.zero_le _) (by omega), fun k hk => hc.near k (Nat.zero_le _) (by omega), fun _ => hd⟩
    have g2 : ∃ c : Nat → Nat, (∀ k, m < k → k ≤ b.L → okP b (rowQ b i 0) (seenOf b i) k (c k)) ∧ (∀ k, m < k → k < b.L → dist b (c k) (c (k + 1)) ≤ b.speed.toNat) ∧ (m ≠ b.L → dist b p (c (m + 1)) ≤ b.speed.toNat) := by
      rcases h2 with h | ⟨q, hq, hd⟩
      · exact ⟨fun _ => 0, fun k hk => by omega, fun k hk => by omega, fun c => absurd h c⟩
      · by_cases h0 : m = b.L
        · exact ⟨fun _ => 0, fun k hk => by omega, fun k hk => by omega, fun c => absurd h0 c⟩
        · obtain ⟨c, hc, rfl⟩ := (canM_places hb (by omega) _).1 hq
          exact ⟨c, fun k hk hk2 => hc.ok k (Nat.zero_le _) hk2, fun k hk hk2 => hc.near k (Nat.zero_le _) hk2, fun _ => hd⟩
    obtain ⟨c1, a1, a2, a3⟩ := g1
    obtain ⟨c2, b1, b2, b3⟩ := g2
    refine ⟨fun k => if k < m then c1 k else if k = m then p else c2 k, ⟨fun k _ hk => ?_, fun k _ hk => ?_⟩, by simp⟩
    · by_cases h1 : k < m
      · simp only [if_pos h1]; exact a1 k h1
      · by_cases h2 : k = m
        · subst h2
          simp only [Nat.lt_irrefl, if_false, if_true]
          exact ⟨hp, Nat.zero_le _, fun s hs e => h3 s (by rw [show (rowQ b i 0).without = 0 from rfl, kept_nought] at hs; exact hs) e⟩
        · simp only [if_neg h1, if_neg h2]; exact b1 k (by omega) hk
    · show dist b _ _ ≤ b.speed.toNat
      by_cases h1 : k + 1 < m
      · simp only [if_pos h1, if_pos (show k < m by omega)]; exact a2 k h1
      · by_cases h2 : k + 1 = m
        · simp only [if_neg h1, if_pos h2, if_pos (show k < m by omega)]
          rw [dist_comm, show k = m - 1 by omega]
          exact a3 (by omega)
        · by_cases h4 : k = m
          · subst h4
            simp only [Nat.lt_irrefl, if_false, if_true, if_neg (show ¬ k + 1 < k by omega), if_neg (show ¬ k + 1 = k by omega)]
            exact b3 (by omega)
          · simp only [if_neg h1, if_neg h2, if_neg (show ¬ k < m by omega), if_neg h4]
            exact b2 k (by omega) hk
end Go.Proofs.YtafcdpmcmmfbhaaDoor
