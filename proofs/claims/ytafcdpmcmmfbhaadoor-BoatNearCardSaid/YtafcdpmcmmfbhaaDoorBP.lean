/- Proved here: laws that the statements need (BoC38, BoXB). No conditions but those that each law states. -/
import Derived.Test.YtafcdpmcmmfbhaaDoorFL
import Derived.Test.YtafcdpmcmmfbhaaDoorProg
import Derived.Test.YtafcdpmcmmfbhaaDoorBO

set_option linter.unusedSimpArgs false
set_option linter.unusedVariables false

/- Compiled code of functions, printed by program; each is checked to be the program's. No conditions. -/
namespace Go.Proofs.YtafcdpmcmmfbhaaDoor
open Go Go.Ab
/-- dipworks/dipworkslaw12.BoatNear -/
def c8 : AC :=
 .seq (.reg [⟨(some 4), none, .box (.tmp 0)⟩,
 ⟨(some 8), none, .mov (.lit (.bool false))⟩])
 (.seq (.seq (.reg [⟨(some 29), none, .load true 5 (.tmp 4)⟩,
 ⟨(some 30), none, .call (.fn 32) [(.tmp 29)]⟩,
 ⟨(some 31), none, .un .not (.tmp 30)⟩,
 ⟨(some 32), none, .mov (.tmp 31)⟩,
 ⟨(some 33), (some (32, false)), .faddr 4 (.tmp 4)⟩,
 ⟨(some 34), (some (32, false)), .load false 1 (.tmp 33)⟩,
 ⟨(some 35), (some (32, false)), .len (.tmp 34)⟩,
 ⟨(some 36), (some (32, false)), .bin .eql (.tmp 35) (.lit (.int .i64 0))⟩,
 ⟨(some 37), none, .pick (.tmp 32) (.lit (.bool true)) (.tmp 36)⟩])
 (.cond (.tmp 37) (.seq (.reg [⟨(some 38), none, .call (.fn 15) []⟩,
 ⟨(some 8), none, .mov (.tmp 38)⟩])
 (.ret))
 (.skip)))
 (.seq (.draw (.step ⟨(some 39), none, .mov (.tmp 1)⟩ (
 .step ⟨(some 40), none, .conv .i64 (.tmp 39)⟩ (
 .step ⟨(some 41), none, .faddr 4 (.tmp 4)⟩ (
 .step ⟨(some 42), none, .load false 1 (.tmp 41)⟩ (
 .step ⟨(some 43), none, .len (.tmp 42)⟩ (
 .step ⟨(some 44), none, .bin .rem (.tmp 40) (.tmp 43)⟩ (
 .step ⟨(some 45), none, .mov (.tmp 2)⟩ (
 .step ⟨(some 46), none, .conv .i64 (.tmp 45)⟩ (
 .step ⟨(some 47), none, .faddr 3 (.tmp 4)⟩ (
 .step ⟨(some 48), none, .load false 1 (.tmp 47)⟩ (
 .step ⟨(some 49), none, .bin .add (.tmp 48) (.lit (.int .i64 1))⟩ (
 .step ⟨(some 50), none, .bin .rem (.tmp 46) (.tmp 49)⟩ (
 .step ⟨(some 51), none, .mov (.tmp 3)⟩ (
 .step ⟨(some 52), none, .conv .i64 (.tmp 51)⟩ (
 .step ⟨(some 53), none, .faddr 1 (.tmp 4)⟩ (
 .step ⟨(some 54), none, .load false 1 (.tmp 53)⟩ (
 .step ⟨(some 55), none, .bin .add (.tmp 54) (.lit (.int .i64 1))⟩ (
 .step ⟨(some 56), none, .bin .rem (.tmp 52) (.tmp 55)⟩ (
 .step ⟨(some 9), none, .mov (.tmp 44)⟩ (
 .step ⟨(some 10), none, .mov (.tmp 50)⟩ (
 .step ⟨(some 11), none, .mov (.tmp 56)⟩ (
 .done)))))))))))))))))))))))
 (.seq (.reg [⟨(some 58), none, .load true 5 (.tmp 4)⟩,
 ⟨(some 59), none, .mov (.tmp 9)⟩,
 ⟨(some 60), none, .call (.fn 20) [(.tmp 58), (.tmp 59)]⟩,
 ⟨(some 57), none, .mov (.tmp 60)⟩,
 ⟨(some 61), none, .ext (.tmp 57) 0⟩,
 ⟨(some 62), none, .ext (.tmp 57) 1⟩,
 ⟨(some 12), none, .alloc [(.int .i64 0), (.int .i64 0)]⟩,
 ⟨none, none, .store 2 (.tmp 12) (.tmp 61)⟩,
 ⟨(some 13), none, .mov (.tmp 62)⟩])
 (.seq (.reg [⟨(some 64), none, .load true 5 (.tmp 4)⟩,
 ⟨(some 65), none, .mov (.tmp 9)⟩,
 ⟨(some 66), none, .mov (.tmp 11)⟩,
 ⟨(some 67), none, .call (.fn 22) [(.tmp 64), (.tmp 65), (.tmp 66)]⟩,
 ⟨(some 63), none, .mov (.tmp 67)⟩,
 ⟨(some 68), none, .ext (.tmp 63) 0⟩,
 ⟨(some 69), none, .ext (.tmp 63) 1⟩,
 ⟨(some 14), none, .mov (.tmp 68)⟩,
 ⟨(some 15), none, .mov (.tmp 69)⟩])
 (.seq (.seq (.reg [⟨(some 70), none, .mov (.tmp 13)⟩,
 ⟨(some 71), none, .bin .neq (.tmp 70) (.lit (.int .i64 0))⟩])
 (.cond (.tmp 71) (.seq (.reg [⟨(some 72), none, .mov (.tmp 13)⟩,
 ⟨(some 73), none, .bin .eql (.tmp 72) (.lit (.int .i64 10))⟩,
 ⟨(some 74), none, .mov (.tmp 73)⟩,
 ⟨(some 75), (some (74, true)), .mov (.tmp 15)⟩,
 ⟨(some 76), (some (74, true)), .mov (.tmp 13)⟩,
 ⟨(some 77), (some (74, true)), .bin .eql (.tmp 75) (.tmp 76)⟩,
 ⟨(some 78), none, .pick (.tmp 74) (.tmp 77) (.lit (.bool false))⟩,
 ⟨(some 79), none, .mov (.tmp 78)⟩,
 ⟨(some 80), (some (79, true)), .load true 2 (.tmp 12)⟩,
 ⟨(some 81), (some (79, true)), .build [(.int .i64 0), (.int .i64 0)] []⟩,
 ⟨(some 82), (some (79, true)), .eqs false [(some .i64), (some .i64)] (.tmp 80) (.tmp 81)⟩,
 ⟨(some 83), none, .pick (.tmp 79) (.tmp 82) (.lit (.bool false))⟩,
 ⟨(some 84), none, .mov (.tmp 83)⟩,
 ⟨(some 85), (some (84, true)), .mov (.tmp 14)⟩,
 ⟨(some 86), (some (84, true)), .bin .eql (.tmp 85) (.lit (.int .i64 0))⟩,
 ⟨(some 87), none, .pick (.tmp 84) (.tmp 86) (.lit (.bool false))⟩,
 ⟨(some 88), none, .mov (.tmp 87)⟩,
 ⟨(some 89), (some (88, true)), .call (.fn 15) []⟩,
 ⟨(some 90), none, .pick (.tmp 88) (.tmp 89) (.lit (.bool false))⟩,
 ⟨(some 8), none, .mov (.tmp 90)⟩])
 (.ret))
 (.skip)))
 (.seq (.draw (.step ⟨(some 91), none, .faddr 1 (.tmp 4)⟩ (
 .step ⟨(some 92), none, .load false 1 (.tmp 91)⟩ (
 .step ⟨(some 93), none, .faddr 1 (.tmp 4)⟩ (
 .step ⟨(some 94), none, .load false 1 (.tmp 93)⟩ (
 .step ⟨(some 16), none, .mov (.tmp 92)⟩ (
 .step ⟨(some 17), none, .mov (.tmp 94)⟩ (
 .done))))))))
 (.seq (.seq (.reg [⟨(some 95), none, .faddr 3 (.tmp 4)⟩,
 ⟨(some 96), none, .load false 1 (.tmp 95)⟩,
 ⟨(some 97), none, .bin .add (.tmp 96) (.lit (.int .i64 1))⟩,
 ⟨(some 98), none, .mov (.lit (.int .i64 0))⟩])
 (.block 0 (.loop (.seq (.reg [⟨(some 99), none, .bin .lss (.tmp 98) (.tmp 97)⟩])
 (.seq (.cond (.tmp 99) (.skip)
 (.exit 0))
 (.seq (.block 1 (.seq (.reg [⟨(some 100), none, .mov (.tmp 98)⟩,
 ⟨(some 18), none, .mov (.tmp 100)⟩])
 (.seq (.reg [⟨(some 102), none, .load true 5 (.tmp 4)⟩,
 ⟨(some 103), none, .mov (.tmp 9)⟩,
 ⟨(some 104), none, .mov (.tmp 18)⟩,
 ⟨(some 105), none, .call (.fn 18) [(.tmp 102), (.tmp 103), (.tmp 104)]⟩,
 ⟨(some 101), none, .mov (.tmp 105)⟩,
 ⟨(some 106), none, .ext (.tmp 101) 0⟩,
 ⟨(some 107), none, .ext (.tmp 101) 1⟩,
 ⟨(some 19), none, .alloc [(.int .i64 0), (.int .i64 0)]⟩,
 ⟨none, none, .store 2 (.tmp 19) (.tmp 106)⟩,
 ⟨(some 20), none, .mov (.tmp 107)⟩])
 (.seq (.seq (.reg [⟨(some 108), none, .mov (.tmp 20)⟩,
 ⟨(some 109), none, .bin .neq (.tmp 108) (.lit (.int .i64 0))⟩,
 ⟨(some 110), none, .mov (.tmp 109)⟩,
 ⟨(some 111), (some (110, false)), .faddr 0 (.tmp 19)⟩,
 ⟨(some 112), (some (110, false)), .load false 1 (.tmp 111)⟩,
 ⟨(some 113), (some (110, false)), .faddr 1 (.tmp 19)⟩,
 ⟨(some 114), (some (110, false)), .load false 1 (.tmp 113)⟩,
 ⟨(some 115), (some (110, false)), .bin .gtr (.tmp 112) (.tmp 114)⟩,
 ⟨(some 116), none, .pick (.tmp 110) (.lit (.bool true)) (.tmp 115)⟩])
 (.cond (.tmp 116) (.seq (.reg [⟨(some 8), none, .mov (.lit (.bool false))⟩])
 (.ret))
 (.skip)))
 (.draw (.step ⟨(some 117), none, .mov (.tmp 16)⟩ (
 .step ⟨(some 118), none, .faddr 0 (.tmp 19)⟩ (
 .step ⟨(some 119), none, .load false 1 (.tmp 118)⟩ (
 .step ⟨(some 120), none, .mxmn false (.tmp 117) [(.tmp 119)]⟩ (
 .step ⟨(some 121), none, .mov (.tmp 17)⟩ (
 .step ⟨(some 122), none, .faddr 1 (.tmp 19)⟩ (
 .step ⟨(some 123), none, .load false 1 (.tmp 122)⟩ (
 .step ⟨(some 124), none, .mxmn false (.tmp 121) [(.tmp 123)]⟩ (
 .step ⟨(some 16), none, .mov (.tmp 120)⟩ (
 .step ⟨(some 17), none, .mov (.tmp 124)⟩ (
 .done))))))))))))))))
 (.reg [⟨(some 125), none, .bin .add (.tmp 98) (.lit (.int .i64 1))⟩,
 ⟨(some 98), none, .mov (.tmp 125)⟩])))))))
 (.seq (.seq (.reg [⟨(some 126), none, .mov (.tmp 15)⟩,
 ⟨(some 127), none, .bin .neq (.tmp 126) (.lit (.int .i64 0))⟩,
 ⟨(some 128), none, .mov (.tmp 127)⟩,
 ⟨(some 129), (some (128, false)), .faddr 0 (.tmp 12)⟩,
 ⟨(some 130), (some (128, false)), .load false 1 (.tmp 129)⟩,
 ⟨(some 131), (some (128, false)), .mov (.tmp 16)⟩,
 ⟨(some 132), (some (128, false)), .bin .neq (.tmp 130) (.tmp 131)⟩,
 ⟨(some 133), none, .pick (.tmp 128) (.lit (.bool true)) (.tmp 132)⟩,
 ⟨(some 134), none, .mov (.tmp 133)⟩,
 ⟨(some 135), (some (134, false)), .faddr 1 (.tmp 12)⟩,
 ⟨(some 136), (some (134, false)), .load false 1 (.tmp 135)⟩,
 ⟨(some 137), (some (134, false)), .mov (.tmp 17)⟩,
 ⟨(some 138), (some (134, false)), .bin .gtr (.tmp 136) (.tmp 137)⟩,
 ⟨(some 139), none, .pick (.tmp 134) (.lit (.bool true)) (.tmp 138)⟩,
 ⟨(some 140), none, .mov (.tmp 139)⟩,
 ⟨(some 141), (some (140, false)), .faddr 0 (.tmp 12)⟩,
 ⟨(some 142), (some (140, false)), .load false 1 (.tmp 141)⟩,
 ⟨(some 143), (some (140, false)), .faddr 1 (.tmp 12)⟩,
 ⟨(some 144), (some (140, false)), .load false 1 (.tmp 143)⟩,
 ⟨(some 145), (some (140, false)), .bin .gtr (.tmp 142) (.tmp 144)⟩,
 ⟨(some 146), none, .pick (.tmp 140) (.lit (.bool true)) (.tmp 145)⟩,
 ⟨(some 147), none, .mov (.tmp 146)⟩,
 ⟨(some 148), (some (147, false)), .mov (.tmp 14)⟩,
 ⟨(some 149), (some (147, false)), .bin .eql (.tmp 148) (.lit (.int .i64 2))⟩,
 ⟨(some 150), (some (147, false)), .faddr 1 (.tmp 12)⟩,
 ⟨(some 151), (some (147, false)), .load false 1 (.tmp 150)⟩,
 ⟨(some 152), (some (147, false)), .mov (.tmp 11)⟩,
 ⟨(some 153), (some (147, false)), .bin .lss (.tmp 151) (.tmp 152)⟩,
 ⟨(some 154), (some (147, false)), .eqb true (.tmp 149) (.tmp 153)⟩,
 ⟨(some 155), none, .pick (.tmp 147) (.lit (.bool true)) (.tmp 154)⟩,
 ⟨(some 156), none, .mov (.tmp 155)⟩,
 ⟨(some 157), (some (156, false)), .mov (.tmp 14)⟩,
 ⟨(some 158), (some (156, false)), .bin .eql (.tmp 157) (.lit (.int .i64 0))⟩,
 ⟨(some 159), (some (156, false)), .faddr 0 (.tmp 12)⟩,
 ⟨(some 160), (some (156, false)), .load false 1 (.tmp 159)⟩,
 ⟨(some 161), (some (156, false)), .mov (.tmp 11)⟩,
 ⟨(some 162), (some (156, false)), .bin .geq (.tmp 160) (.tmp 161)⟩,
 ⟨(some 163), (some (156, false)), .eqb true (.tmp 158) (.tmp 162)⟩,
 ⟨(some 164), none, .pick (.tmp 156) (.lit (.bool true)) (.tmp 163)⟩])
 (.cond (.tmp 164) (.seq (.reg [⟨(some 8), none, .mov (.lit (.bool false))⟩])
 (.ret))
 (.skip)))
 (.seq (.reg [⟨(some 166), none, .load true 5 (.tmp 4)⟩,
 ⟨(some 167), none, .mov (.tmp 9)⟩,
 ⟨(some 168), none, .mov (.tmp 10)⟩,
 ⟨(some 169), none, .mov (.tmp 11)⟩,
 ⟨(some 170), none, .call (.fn 41) [(.tmp 166), (.tmp 167), (.tmp 168), (.tmp 169)]⟩,
 ⟨(some 165), none, .mov (.tmp 170)⟩,
 ⟨(some 171), none, .ext (.tmp 165) 0⟩,
 ⟨(some 172), none, .ext (.tmp 165) 1⟩,
 ⟨(some 21), none, .alloc [(.int .i64 0), (.int .i64 0), (.int .i64 0), (.int .i64 0), (.slice none 0 0)]⟩,
 ⟨none, none, .store 5 (.tmp 21) (.tmp 171)⟩,
 ⟨(some 22), none, .mov (.tmp 172)⟩])
 (.seq (.seq (.reg [⟨(some 173), none, .mov (.tmp 22)⟩,
 ⟨(some 174), none, .un .not (.tmp 173)⟩])
 (.cond (.tmp 174) (.seq (.reg [⟨(some 175), none, .call (.fn 15) []⟩,
 ⟨(some 8), none, .mov (.tmp 175)⟩])
 (.ret))
 (.skip)))
 (.seq (.reg [⟨(some 177), none, .load true 5 (.tmp 4)⟩,
 ⟨(some 178), none, .mov (.tmp 9)⟩,
 ⟨(some 179), none, .mov (.tmp 10)⟩,
 ⟨(some 180), none, .call (.fn 18) [(.tmp 177), (.tmp 178), (.tmp 179)]⟩,
 ⟨(some 176), none, .mov (.tmp 180)⟩,
 ⟨(some 181), none, .ext (.tmp 176) 0⟩,
 ⟨(some 182), none, .ext (.tmp 176) 1⟩,
 ⟨(some 23), none, .alloc [(.int .i64 0), (.int .i64 0)]⟩,
 ⟨none, none, .store 2 (.tmp 23) (.tmp 181)⟩,
 ⟨(some 24), none, .mov (.tmp 182)⟩])
 (.seq (.reg [⟨(some 184), none, .load true 5 (.tmp 21)⟩,
 ⟨(some 185), none, .mov (.tmp 9)⟩,
 ⟨(some 186), none, .mov (.tmp 10)⟩,
 ⟨(some 187), none, .call (.fn 18) [(.tmp 184), (.tmp 185), (.tmp 186)]⟩,
 ⟨(some 183), none, .mov (.tmp 187)⟩,
 ⟨(some 188), none, .ext (.tmp 183) 0⟩,
 ⟨(some 189), none, .ext (.tmp 183) 1⟩,
 ⟨(some 25), none, .alloc [(.int .i64 0), (.int .i64 0)]⟩,
 ⟨none, none, .store 2 (.tmp 25) (.tmp 188)⟩,
 ⟨(some 26), none, .mov (.tmp 189)⟩])
 (.seq (.reg [⟨(some 191), none, .load true 5 (.tmp 21)⟩,
 ⟨(some 192), none, .mov (.tmp 9)⟩,
 ⟨(some 193), none, .call (.fn 20) [(.tmp 191), (.tmp 192)]⟩,
 ⟨(some 190), none, .mov (.tmp 193)⟩,
 ⟨(some 194), none, .ext (.tmp 190) 0⟩,
 ⟨(some 195), none, .ext (.tmp 190) 1⟩,
 ⟨(some 27), none, .alloc [(.int .i64 0), (.int .i64 0)]⟩,
 ⟨none, none, .store 2 (.tmp 27) (.tmp 194)⟩,
 ⟨(some 28), none, .mov (.tmp 195)⟩])
 (.seq (.seq (.reg [⟨(some 196), none, .mov (.tmp 24)⟩,
 ⟨(some 197), none, .bin .neq (.tmp 196) (.lit (.int .i64 0))⟩,
 ⟨(some 198), none, .mov (.tmp 197)⟩,
 ⟨(some 199), (some (198, false)), .mov (.tmp 26)⟩,
 ⟨(some 200), (some (198, false)), .bin .eql (.tmp 199) (.lit (.int .i64 0))⟩,
 ⟨(some 201), (some (198, false)), .faddr 1 (.tmp 23)⟩,
 ⟨(some 202), (some (198, false)), .load false 1 (.tmp 201)⟩,
 ⟨(some 203), (some (198, false)), .mov (.tmp 11)⟩,
 ⟨(some 204), (some (198, false)), .bin .geq (.tmp 202) (.tmp 203)⟩,
 ⟨(some 205), (some (198, false)), .eqb true (.tmp 200) (.tmp 204)⟩,
 ⟨(some 206), none, .pick (.tmp 198) (.lit (.bool true)) (.tmp 205)⟩,
 ⟨(some 207), none, .mov (.tmp 206)⟩,
 ⟨(some 208), (some (207, false)), .mov (.tmp 28)⟩,
 ⟨(some 209), (some (207, false)), .mov (.tmp 26)⟩,
 ⟨(some 210), (some (207, false)), .bin .neq (.tmp 208) (.tmp 209)⟩,
 ⟨(some 211), none, .pick (.tmp 207) (.lit (.bool true)) (.tmp 210)⟩])
 (.cond (.tmp 211) (.seq (.reg [⟨(some 8), none, .mov (.lit (.bool false))⟩])
 (.ret))
 (.skip)))
 (.seq (.reg [⟨(some 212), none, .mov (.tmp 26)⟩,
 ⟨(some 213), none, .bin .eql (.tmp 212) (.lit (.int .i64 10))⟩,
 ⟨(some 214), none, .mov (.tmp 213)⟩,
 ⟨(some 215), (some (214, false)), .mov (.tmp 26)⟩,
 ⟨(some 216), (some (214, false)), .bin .eql (.tmp 215) (.lit (.int .i64 0))⟩,
 ⟨(some 217), (some (214, false)), .mov (.tmp 216)⟩,
 ⟨(some 218), (some (217, true)), .faddr 0 (.tmp 25)⟩,
 ⟨(some 219), (some (217, true)), .load false 1 (.tmp 218)⟩,
 ⟨(some 220), (some (217, true)), .faddr 0 (.tmp 23)⟩,
 ⟨(some 221), (some (217, true)), .load false 1 (.tmp 220)⟩,
 ⟨(some 222), (some (217, true)), .mov (.tmp 11)⟩,
 ⟨(some 223), (some (217, true)), .mxmn true (.tmp 221) [(.tmp 222)]⟩,
 ⟨(some 224), (some (217, true)), .bin .geq (.tmp 219) (.tmp 223)⟩,
 ⟨(some 225), (some (214, false)), .pick (.tmp 217) (.tmp 224) (.lit (.bool false))⟩,
 ⟨(some 226), (some (214, false)), .mov (.tmp 225)⟩,
 ⟨(some 227), (some (226, true)), .faddr 1 (.tmp 25)⟩,
 ⟨(some 228), (some (226, true)), .load false 1 (.tmp 227)⟩,
 ⟨(some 229), (some (226, true)), .faddr 1 (.tmp 23)⟩,
 ⟨(some 230), (some (226, true)), .load false 1 (.tmp 229)⟩,
 ⟨(some 231), (some (226, true)), .bin .eql (.tmp 228) (.tmp 230)⟩,
 ⟨(some 232), (some (214, false)), .pick (.tmp 226) (.tmp 231) (.lit (.bool false))⟩,
 ⟨(some 233), (some (214, false)), .mov (.tmp 232)⟩,
 ⟨(some 234), (some (233, true)), .faddr 0 (.tmp 27)⟩,
 ⟨(some 235), (some (233, true)), .load false 1 (.tmp 234)⟩,
 ⟨(some 236), (some (233, true)), .faddr 0 (.tmp 12)⟩,
 ⟨(some 237), (some (233, true)), .load false 1 (.tmp 236)⟩,
 ⟨(some 238), (some (233, true)), .bin .geq (.tmp 235) (.tmp 237)⟩,
 ⟨(some 239), (some (214, false)), .pick (.tmp 233) (.tmp 238) (.lit (.bool false))⟩,
 ⟨(some 240), (some (214, false)), .mov (.tmp 239)⟩,
 ⟨(some 241), (some (240, true)), .faddr 1 (.tmp 27)⟩,
 ⟨(some 242), (some (240, true)), .load false 1 (.tmp 241)⟩,
 ⟨(some 243), (some (240, true)), .faddr 1 (.tmp 12)⟩,
 ⟨(some 244), (some (240, true)), .load false 1 (.tmp 243)⟩,
 ⟨(some 245), (some (240, true)), .bin .leq (.tmp 242) (.tmp 244)⟩,
 ⟨(some 246), (some (214, false)), .pick (.tmp 240) (.tmp 245) (.lit (.bool false))⟩,
 ⟨(some 247), (some (214, false)), .mov (.tmp 246)⟩,
 ⟨(some 248), (some (247, true)), .mov (.tmp 11)⟩,
 ⟨(some 249), (some (247, true)), .faddr 1 (.tmp 12)⟩,
 ⟨(some 250), (some (247, true)), .load false 1 (.tmp 249)⟩,
 ⟨(some 251), (some (247, true)), .bin .gtr (.tmp 248) (.tmp 250)⟩,
 ⟨(some 252), (some (247, true)), .mov (.tmp 251)⟩,
 ⟨(some 253), (some (252, false)), .faddr 1 (.tmp 27)⟩,
 ⟨(some 254), (some (252, false)), .load false 1 (.tmp 253)⟩,
 ⟨(some 255), (some (252, false)), .faddr 1 (.tmp 12)⟩,
 ⟨(some 256), (some (252, false)), .load false 1 (.tmp 255)⟩,
 ⟨(some 257), (some (252, false)), .bin .eql (.tmp 254) (.tmp 256)⟩,
 ⟨(some 258), (some (247, true)), .pick (.tmp 252) (.lit (.bool true)) (.tmp 257)⟩,
 ⟨(some 259), (some (214, false)), .pick (.tmp 247) (.tmp 258) (.lit (.bool false))⟩,
 ⟨(some 260), none, .pick (.tmp 214) (.lit (.bool true)) (.tmp 259)⟩,
 ⟨(some 261), none, .mov (.tmp 260)⟩,
 ⟨(some 262), (some (261, true)), .call (.fn 15) []⟩,
 ⟨(some 263), none, .pick (.tmp 261) (.tmp 262) (.lit (.bool false))⟩,
 ⟨(some 8), none, .mov (.tmp 263)⟩])
 (.ret))))))))))))))))
theorem k8 : FnC Tryd.prog 8 264 [] [] [.tmp 8] c8 4 := ⟨Tryd.f8, _, Tryd.func8, rfl, by decide, rfl, by decide, by kernel_rfl, by kernel_rfl⟩
end Go.Proofs.YtafcdpmcmmfbhaaDoor

/- BoatNear. -/
namespace Go.Proofs.YtafcdpmcmmfbhaaDoor
open Go Go.Ab

theorem specRows_ok {b : Bo} (hb : b.OK) {i m : Nat} (hi : i < b.seen.length) (hm : m ≤ b.L) : specRows b i m = if isT b i then ((((loR b (canM b i m) : Nat) : Int), ((hiR b (canM b i m) : Nat) : Int)), 0) else ((0, 0), 10) := by
  have h1 : b.isBoat i = true := isBoat_iff.2 ⟨by omega, by omega⟩
  have h2 : b.isMinute m = true := isMinute_iff.2 ⟨by omega, by have := hb.L; omega⟩
  unfold specRows
  rw [(b.ok_iff).2 hb, h1, h2, Int.toNat_natCast, Int.toNat_natCast]; rfl
theorem specBroke_ok {b : Bo} (hb : b.OK) {i r : Nat} (hi : i < b.seen.length) (hr : r ≤ b.D) : specBroke b i r = if isT b i then (brokeN (nearS b i) r, 0) else (0, 10) := by
  have h1 : b.isBoat i = true := isBoat_iff.2 ⟨by omega, by omega⟩
  have h2 : wI (r : Int) 0 b.deep = true := wI_iff.2 ⟨by omega, by have := hb.D; omega⟩
  unfold specBroke
  rw [(b.ok_iff).2 hb, h1, h2, Int.toNat_natCast]; rfl
def Ne1 (b : Bo) (n m r lo hi k1 k2 : Nat) (bro : Int) (st : St) : Prop := lk st.env 4 = .ptr 0 0 ∧ lk st.env 9 = .t (vi n) ∧ lk st.env 10 = .t (vi m) ∧ lk st.env 11 = .t (vi r) ∧ lk st.env 12 = .ptr 1 0 ∧ lk st.env 14 = .t (vi bro) ∧ lk st.env 15 = .t (vi 0) ∧ lk st.env 16 = .t (vi k1) ∧ lk st.env 17 = .t (vi k2) ∧ st.σ = [.cells ((bo5 b).map .t), .cells [.t (vi lo), .t (vi hi)]] ∧ st.df = [] ∧ st.k = 0
def Ne2 (b : Bo) (n m r lo hi : Nat) (x : Bo) (st : St) : Prop := lk st.env 4 = .ptr 0 0 ∧ lk st.env 9 = .t (vi n) ∧ lk st.env 10 = .t (vi m) ∧ lk st.env 11 = .t (vi r) ∧ lk st.env 12 = .ptr 1 0 ∧ lk st.env 21 = .ptr 2 0 ∧ st.σ = [.cells ((bo5 b).map .t), .cells [.t (vi lo), .t (vi hi)], .cells ((bo5 x).map .t)] ∧ st.df = [] ∧ st.k = 0
set_option maxRecDepth 8000 in
set_option maxHeartbeats 8000000 in
theorem BoatNear_ok (b : Bo) (hL : Lens b) (u : Nat) (hu : u < 256) (w : Nat) (hw : w < 256) (v : Nat) (hv : v < 256) : ACall Tryd.prog 8 [.t (.agg (bo5 b)), .t (.lit (.int .u8 u)), .t (.lit (.int .u8 w)), .t (.lit (.int .u8 v))] [] (res (.ret (.t (vb true)))) := by
  refine ACall.walk k8 ?_
  have h32 := fine_ok b hL
  unfold c8
  refine awpL_chop 7 (c1 := ?a1) (c2 := ?a2) (fun st => b.OK ∧ ∃ n m r : Nat, n < b.seen.length ∧ m ≤ b.L ∧ r ≤ b.D ∧ isT b n = true ∧ Ne1 b n m r (loR b (nearAll b n)) (nearHi b n) b.D b.D (brokeN (nearS b n) r) st) ?hc ?_ ?_
  case hc => simp only [chop]; rfl
  · unfold bo5 at h32 ⊢
    simp only [go_sem, Nat.reduceEqDiff, Nat.reduceAdd, Nat.reduceSub, Nat.reduceMul, Nat.reduceLT, Nat.reduceLeDiff, Nat.reduceMod, Nat.reduceDiv, Int.reduceToNat, Int.reduceLT, Int.reduceLE, Bool.not_true, Bool.not_false, reduceIte, Int.reduceEq, Int.reduceBEq, Int.reduceBNe, Int.reduceGT, Int.reduceGE, Int.reduceNeg, Int.reduceAdd, Int.reduceSub, Nat.reduceBEq, decide_true, decide_false, undef, beq_self_eq_true, bne_self_eq_false, Bool.and_true, Bool.true_and, Bool.and_false, Bool.false_and, Bool.or_true, Bool.true_or, Bool.or_false, Bool.false_or]
    refine ACallL.quiet1 h32 rfl rfl rfl ?_
    cases hF : fineB b
    · simp only [go_sem, Nat.reduceEqDiff, Nat.reduceAdd, Nat.reduceSub, Nat.reduceMul, Nat.reduceLT, Nat.reduceLeDiff, Nat.reduceMod, Nat.reduceDiv, Int.reduceToNat, Int.reduceLT, Int.reduceLE, Bool.not_true, Bool.not_false, reduceIte, Int.reduceEq, Int.reduceBEq, Int.reduceBNe, Int.reduceGT, Int.reduceGE, Int.reduceNeg, Int.reduceAdd, Int.reduceSub, Nat.reduceBEq, decide_true, decide_false, undef, beq_self_eq_true, bne_self_eq_false, Bool.and_true, Bool.true_and, Bool.and_false, Bool.false_and, Bool.or_true, Bool.true_or, Bool.or_false, Bool.false_or, undef]
      refine ACallL.quiet1 awake_ok rfl rfl rfl ?_
      simp only [go_sem, Nat.reduceEqDiff, Nat.reduceAdd, Nat.reduceSub, Nat.reduceMul, Nat.reduceLT, Nat.reduceLeDiff, Nat.reduceMod, Nat.reduceDiv, Int.reduceToNat, Int.reduceLT, Int.reduceLE, Bool.not_true, Bool.not_false, reduceIte, Int.reduceEq, Int.reduceBEq, Int.reduceBNe, Int.reduceGT, Int.reduceGE, Int.reduceNeg, Int.reduceAdd, Int.reduceSub, Nat.reduceBEq, decide_true, decide_false, undef, beq_self_eq_true, bne_self_eq_false, Bool.and_true, Bool.true_and, Bool.and_false, Bool.false_and, Bool.or_true, Bool.true_or, Bool.or_false, Bool.false_or, undef]
      exact finL_ret [] ⟨rfl, rfl, rfl, rfl, _, rfl, res_mk rfl⟩
    obtain ⟨hok, hb⟩ := fine_iff hF
    have hnh := hb.num
    simp only [go_sem, Nat.reduceEqDiff, Nat.reduceAdd, Nat.reduceSub, Nat.reduceMul, Nat.reduceLT, Nat.reduceLeDiff, Nat.reduceMod, Nat.reduceDiv, Int.reduceToNat, Int.reduceLT, Int.reduceLE, Bool.not_true, Bool.not_false, reduceIte, Int.reduceEq, Int.reduceBEq, Int.reduceBNe, Int.reduceGT, Int.reduceGE, Int.reduceNeg, Int.reduceAdd, Int.reduceSub, Nat.reduceBEq, decide_true, decide_false, undef, beq_self_eq_true, bne_self_eq_false, Bool.and_true, Bool.true_and, Bool.and_false, Bool.false_and, Bool.or_true, Bool.true_or, Bool.or_false, Bool.false_or, undef, List.length_map]
    cases h0 : ((b.seen.length : Int) == 0)
    rotate_left
    · simp only [go_sem, Nat.reduceEqDiff, Nat.reduceAdd, Nat.reduceSub, Nat.reduceMul, Nat.reduceLT, Nat.reduceLeDiff, Nat.reduceMod, Nat.reduceDiv, Int.reduceToNat, Int.reduceLT, Int.reduceLE, Bool.not_true, Bool.not_false, reduceIte, Int.reduceEq, Int.reduceBEq, Int.reduceBNe, Int.reduceGT, Int.reduceGE, Int.reduceNeg, Int.reduceAdd, Int.reduceSub, Nat.reduceBEq, decide_true, decide_false, undef, beq_self_eq_true, bne_self_eq_false, Bool.and_true, Bool.true_and, Bool.and_false, Bool.false_and, Bool.or_true, Bool.true_or, Bool.or_false, Bool.false_or, undef, h0]
      refine ACallL.quiet1 awake_ok rfl rfl rfl ?_
      simp only [go_sem, Nat.reduceEqDiff, Nat.reduceAdd, Nat.reduceSub, Nat.reduceMul, Nat.reduceLT, Nat.reduceLeDiff, Nat.reduceMod, Nat.reduceDiv, Int.reduceToNat, Int.reduceLT, Int.reduceLE, Bool.not_true, Bool.not_false, reduceIte, Int.reduceEq, Int.reduceBEq, Int.reduceBNe, Int.reduceGT, Int.reduceGE, Int.reduceNeg, Int.reduceAdd, Int.reduceSub, Nat.reduceBEq, decide_true, decide_false, undef, beq_self_eq_true, bne_self_eq_false, Bool.and_true, Bool.true_and, Bool.and_false, Bool.false_and, Bool.or_true, Bool.true_or, Bool.or_false, Bool.false_or, undef]
      exact finL_ret [] ⟨rfl, rfl, rfl, rfl, _, rfl, res_mk rfl⟩
    have n0 : ¬ ((b.seen.length : Int) = 0) := by simpa using h0
    have ha : u % b.seen.length < b.seen.length := Nat.mod_lt _ (by omega)
    have hLb := hb.L
    have hDb := hb.D
    have hm : w % (b.L + 1) ≤ b.L := by have := Nat.mod_lt w (show 0 < b.L + 1 by omega); omega
    have hr : v % (b.D + 1) ≤ b.D := by have := Nat.mod_lt v (show 0 < b.D + 1 by omega); omega
    have t1 := mod_nat u b.seen.length
    have t2 := mod_nat w (b.L + 1)
    have t3 := mod_nat v (b.D + 1)
    have w0 : IntKind.i64.wrap (u : Int) = u := wrap_id (by omega) (by omega)
    have w1 : IntKind.i64.wrap (w : Int) = w := wrap_id (by omega) (by omega)
    have w3 : IntKind.i64.wrap (v : Int) = v := wrap_id (by omega) (by omega)
    have w2 : IntKind.i64.wrap (b.last + 1) = ((b.L + 1 : Nat) : Int) := by rw [wrap_id (by omega) (by omega)]; omega
    have w4 : IntKind.i64.wrap (b.deep + 1) = ((b.D + 1 : Nat) : Int) := by rw [wrap_id (by omega) (by omega)]; omega
    have n1 : ¬ (((b.L + 1 : Nat) : Int) = 0) := by omega
    have n2 : ¬ (((b.D + 1 : Nat) : Int) = 0) := by omega
    have h20 := Nearest_ok b hL (u % b.seen.length : Nat)
    have h22 := Broke_ok b hL (u % b.seen.length : Nat) (v % (b.D + 1) : Nat)
    rw [specNearest_ok hb ha] at h20
    rw [specBroke_ok hb ha hr] at h22
    generalize u % b.seen.length = n at *
    generalize w % (b.L + 1) = m at *
    generalize v % (b.D + 1) = r at *
    have hdd := hDb.2.2
    generalize hT : isT b n = is at *
    simp only [go_sem, Nat.reduceEqDiff, Nat.reduceAdd, Nat.reduceSub, Nat.reduceMul, Nat.reduceLT, Nat.reduceLeDiff, Nat.reduceMod, Nat.reduceDiv, Int.reduceToNat, Int.reduceLT, Int.reduceLE, Bool.not_true, Bool.not_false, reduceIte, Int.reduceEq, Int.reduceBEq, Int.reduceBNe, Int.reduceGT, Int.reduceGE, Int.reduceNeg, Int.reduceAdd, Int.reduceSub, Nat.reduceBEq, decide_true, decide_false, undef, beq_self_eq_true, bne_self_eq_false, Bool.and_true, Bool.true_and, Bool.and_false, Bool.false_and, Bool.or_true, Bool.true_or, Bool.or_false, Bool.false_or, undef, List.length_map, h0, n0, w0, w1, w2, w3, w4, n1, n2, t1, t2, t3]
    cases is
    · simp only [spanE, oneE, tSp, bo5, Bool.false_eq_true, if_false] at h20 h22
      refine ACallL.quiet1 h20 rfl rfl rfl ?_
      simp only [go_sem, Nat.reduceEqDiff, Nat.reduceAdd, Nat.reduceSub, Nat.reduceMul, Nat.reduceLT, Nat.reduceLeDiff, Nat.reduceMod, Nat.reduceDiv, Int.reduceToNat, Int.reduceLT, Int.reduceLE, Bool.not_true, Bool.not_false, reduceIte, Int.reduceEq, Int.reduceBEq, Int.reduceBNe, Int.reduceGT, Int.reduceGE, Int.reduceNeg, Int.reduceAdd, Int.reduceSub, Nat.reduceBEq, decide_true, decide_false, undef, beq_self_eq_true, bne_self_eq_false, Bool.and_true, Bool.true_and, Bool.and_false, Bool.false_and, Bool.or_true, Bool.true_or, Bool.or_false, Bool.false_or, undef]
      refine ACallL.quiet1 h22 rfl rfl rfl ?_
      simp only [go_sem, Nat.reduceEqDiff, Nat.reduceAdd, Nat.reduceSub, Nat.reduceMul, Nat.reduceLT, Nat.reduceLeDiff, Nat.reduceMod, Nat.reduceDiv, Int.reduceToNat, Int.reduceLT, Int.reduceLE, Bool.not_true, Bool.not_false, reduceIte, Int.reduceEq, Int.reduceBEq, Int.reduceBNe, Int.reduceGT, Int.reduceGE, Int.reduceNeg, Int.reduceAdd, Int.reduceSub, Nat.reduceBEq, decide_true, decide_false, undef, beq_self_eq_true, bne_self_eq_false, Bool.and_true, Bool.true_and, Bool.and_false, Bool.false_and, Bool.or_true, Bool.true_or, Bool.or_false, Bool.false_or, undef, toKey2, kEq2, Bool.and_self, beq_self_eq_true]
      refine ACallL.quiet1 awake_ok rfl rfl rfl ?_
      simp only [go_sem, Nat.reduceEqDiff, Nat.reduceAdd, Nat.reduceSub, Nat.reduceMul, Nat.reduceLT, Nat.reduceLeDiff, Nat.reduceMod, Nat.reduceDiv, Int.reduceToNat, Int.reduceLT, Int.reduceLE, Bool.not_true, Bool.not_false, reduceIte, Int.reduceEq, Int.reduceBEq, Int.reduceBNe, Int.reduceGT, Int.reduceGE, Int.reduceNeg, Int.reduceAdd, Int.reduceSub, Nat.reduceBEq, decide_true, decide_false, undef, beq_self_eq_true, bne_self_eq_false, Bool.and_true, Bool.true_and, Bool.and_false, Bool.false_and, Bool.or_true, Bool.true_or, Bool.or_false, Bool.false_or, undef]
      exact finL_ret [] ⟨rfl, rfl, rfl, rfl, _, rfl, res_mk rfl⟩
    · unfold nearS at h20
      simp only [spanE, oneE, tSp, bo5, if_true] at h20 h22
      refine ACallL.quiet1 h20 rfl rfl rfl ?_
      simp only [go_sem, Nat.reduceEqDiff, Nat.reduceAdd, Nat.reduceSub, Nat.reduceMul, Nat.reduceLT, Nat.reduceLeDiff, Nat.reduceMod, Nat.reduceDiv, Int.reduceToNat, Int.reduceLT, Int.reduceLE, Bool.not_true, Bool.not_false, reduceIte, Int.reduceEq, Int.reduceBEq, Int.reduceBNe, Int.reduceGT, Int.reduceGE, Int.reduceNeg, Int.reduceAdd, Int.reduceSub, Nat.reduceBEq, decide_true, decide_false, undef, beq_self_eq_true, bne_self_eq_false, Bool.and_true, Bool.true_and, Bool.and_false, Bool.false_and, Bool.or_true, Bool.true_or, Bool.or_false, Bool.false_or, undef]
      refine ACallL.quiet1 h22 rfl rfl rfl ?_
      simp only [go_sem, Nat.reduceEqDiff, Nat.reduceAdd, Nat.reduceSub, Nat.reduceMul, Nat.reduceLT, Nat.reduceLeDiff, Nat.reduceMod, Nat.reduceDiv, Int.reduceToNat, Int.reduceLT, Int.reduceLE, Bool.not_true, Bool.not_false, reduceIte, Int.reduceEq, Int.reduceBEq, Int.reduceBNe, Int.reduceGT, Int.reduceGE, Int.reduceNeg, Int.reduceAdd, Int.reduceSub, Nat.reduceBEq, decide_true, decide_false, undef, beq_self_eq_true, bne_self_eq_false, Bool.and_true, Bool.true_and, Bool.and_false, Bool.false_and, Bool.or_true, Bool.true_or, Bool.or_false, Bool.false_or, undef, hdd]
      exact ⟨hb, n, m, r, ha, hm, hr, hT, rfl, rfl, rfl, rfl, rfl, rfl, rfl, rfl, rfl, by rw [← hdd]; rfl, rfl, rfl⟩
  clear h32
  rintro ⟨env, σ, df, k⟩ ⟨hb, n, m, r, hn, hm, hr, hT, q4, q9, q10, q11, q12, q14, q15, q16, q17, hσ, hdf, hk⟩
  simp only at q4 q9 q10 q11 q12 q14 q15 q16 q17 hσ hdf hk
  subst hσ hdf hk
  have hLb := hb.L
  have hDb := hb.D
  have hnlo := near_le hb hT
  have hlm := leastR_end hb hT
  have hmm := mostR_ge hb hT (b.L + 1) (Nat.le_refl _)
  have hbro : brokeN (nearS b n) r = if (nearHi b n : Int) < r then 2 else if (loR b (nearAll b n) : Int) ≥ r then 0 else 1 := rfl
  have hlaw := fun x (H : HeldOK b n m r x) => (⟨held_can hb hm H hT, held_law hb hm H hT⟩ : _ ∧ _)
  have hhs := fun hI => held_spec hb hn hm (r := r) hI
  generalize brokeN (nearS b n) r = bro at *
  generalize hlo : loR b (nearAll b n) = lo at *
  generalize hhi : nearHi b n = hi at *
  refine awpL_chop 1 (c1 := ?b1) (c2 := ?b2) (Ne1 b n m r lo hi (leastR b n (b.L + 1)) (mostR b n (b.L + 1)) bro) ?hc2 ?_ ?_
  case hc2 => simp only [chop]; rfl
  · have w2 : IntKind.i64.wrap (b.last + 1) = ((b.L + 1 : Nat) : Int) := by rw [wrap_id (by omega) (by omega)]; omega
    unfold bo5
    simp only [go_sem, Nat.reduceEqDiff, Nat.reduceAdd, Nat.reduceSub, Nat.reduceMul, Nat.reduceLT, Nat.reduceLeDiff, Nat.reduceMod, Nat.reduceDiv, Int.reduceToNat, Int.reduceLT, Int.reduceLE, Bool.not_true, Bool.not_false, reduceIte, Int.reduceEq, Int.reduceBEq, Int.reduceBNe, Int.reduceGT, Int.reduceGE, Int.reduceNeg, Int.reduceAdd, Int.reduceSub, Nat.reduceBEq, decide_true, decide_false, undef, beq_self_eq_true, bne_self_eq_false, Bool.and_true, Bool.true_and, Bool.and_false, Bool.false_and, Bool.or_true, Bool.true_or, Bool.or_false, Bool.false_or, q4, q9, q10, q11, q12, q14, q15, q16, q17, w2]
    refine awpL_for (i := 98) (L := 97) (b.L + 1) (fun j st => st = { env := [(98, .t (vi j)), (97, .t (vi ((b.L + 1 : Nat)))), (4, .ptr 0 0), (9, .t (vi n)), (10, .t (vi m)), (11, .t (vi r)), (12, .ptr 1 0), (14, .t (vi bro)), (15, .t (vi 0)), (16, .t (vi (leastR b n j))), (17, .t (vi (mostR b n j)))], σ := [.cells ((bo5 b).map .t), .cells [.t (vi lo), .t (vi hi)]] }) ?_ ⟨_, Sub.gc [0, 1] [98, 97, 4, 9, 10, 11, 12, 14, 15, 16, 17] rfl rfl, ?_⟩ ?_ ?_
    · rintro k st rfl; exact ⟨rfl, rfl⟩
    · exact St.gc_mk (by simp only [List.map_cons, List.map_nil, lk, Nat.reduceEqDiff, reduceIte, q4, q9, q10, q11, q12, q14, q15, q16, q17]; rfl) rfl rfl rfl
    · rintro j st hj rfl
      have hjL : j ≤ b.L := by omega
      have hwj : IntKind.i64.wrap ((j : Int) + 1) = ((j + 1 : Nat) : Int) := by rw [wrap_id (by omega) (by omega)]; omega
      have h18 := Rows_ok b hL n j
      rw [specRows_ok hb hn hjL, hT] at h18
      have hlh := lo_hi hb hjL hT
      have s1 := leastR_succ b n j
      have s2 := mostR_succ b n j
      generalize leastR b n (j + 1) = L1 at *
      generalize mostR b n (j + 1) = M1 at *
      generalize leastR b n j = L0 at *
      generalize mostR b n j = M0 at *
      generalize loR b (canM b n j) = l1 at *
      generalize hiR b (canM b n j) = h1 at *
      simp only [spanE, tSp, bo5, if_true] at h18
      have g1 : decide ((l1 : Int) > (h1 : Int)) = false := by simp; omega
      have g2 : min (L0 : Int) (l1 : Int) = (L1 : Int) := by omega
      have g3 : min (M0 : Int) (h1 : Int) = (M1 : Int) := by omega
      simp only [bo5, go_sem, Nat.reduceEqDiff, Nat.reduceAdd, Nat.reduceSub, Nat.reduceMul, Nat.reduceLT, Nat.reduceLeDiff, Nat.reduceMod, Nat.reduceDiv, Int.reduceToNat, Int.reduceLT, Int.reduceLE, Bool.not_true, Bool.not_false, reduceIte, Int.reduceEq, Int.reduceBEq, Int.reduceBNe, Int.reduceGT, Int.reduceGE, Int.reduceNeg, Int.reduceAdd, Int.reduceSub, Nat.reduceBEq, decide_true, decide_false, undef, beq_self_eq_true, bne_self_eq_false, Bool.and_true, Bool.true_and, Bool.and_false, Bool.false_and, Bool.or_true, Bool.true_or, Bool.or_false, Bool.false_or, undef, hwj]
      refine ACallL.quiet1 h18 rfl rfl rfl ?_
      simp only [go_sem, Nat.reduceEqDiff, Nat.reduceAdd, Nat.reduceSub, Nat.reduceMul, Nat.reduceLT, Nat.reduceLeDiff, Nat.reduceMod, Nat.reduceDiv, Int.reduceToNat, Int.reduceLT, Int.reduceLE, Bool.not_true, Bool.not_false, reduceIte, Int.reduceEq, Int.reduceBEq, Int.reduceBNe, Int.reduceGT, Int.reduceGE, Int.reduceNeg, Int.reduceAdd, Int.reduceSub, Nat.reduceBEq, decide_true, decide_false, undef, beq_self_eq_true, bne_self_eq_false, Bool.and_true, Bool.true_and, Bool.and_false, Bool.false_and, Bool.or_true, Bool.true_or, Bool.or_false, Bool.false_or, undef, hwj, g1, g2, g3]
      exact ⟨_, Sub.gc [0, 1] [98, 97, 4, 9, 10, 11, 12, 14, 15, 16, 17] rfl rfl, rfl⟩
    · rintro st rfl
      simp only [go_sem, Nat.reduceEqDiff, Nat.reduceAdd, Nat.reduceSub, Nat.reduceMul, Nat.reduceLT, Nat.reduceLeDiff, Nat.reduceMod, Nat.reduceDiv, Int.reduceToNat, Int.reduceLT, Int.reduceLE, Bool.not_true, Bool.not_false, reduceIte, Int.reduceEq, Int.reduceBEq, Int.reduceBNe, Int.reduceGT, Int.reduceGE, Int.reduceNeg, Int.reduceAdd, Int.reduceSub, Nat.reduceBEq, decide_true, decide_false, undef, beq_self_eq_true, bne_self_eq_false, Bool.and_true, Bool.true_and, Bool.and_false, Bool.false_and, Bool.or_true, Bool.true_or, Bool.or_false, Bool.false_or, undef]
      exact ⟨rfl, rfl, rfl, rfl, rfl, rfl, rfl, rfl, rfl, rfl, rfl, rfl⟩
  clear q4 q9 q10 q11 q12 q14 q15 q16 q17
  rintro ⟨env, σ, df, k⟩ ⟨q4, q9, q10, q11, q12, q14, q15, q16, q17, hσ, hdf, hk⟩
  simp only at q4 q9 q10 q11 q12 q14 q15 q16 q17 hσ hdf hk
  subst hσ hdf hk
  generalize leastR b n (b.L + 1) = L1 at *
  generalize mostR b n (b.L + 1) = M1 at *
  refine awpL_chop 3 (c1 := ?d1) (c2 := ?d2) (fun st => ∃ x, HeldOK b n m r x ∧ Ne2 b n m r lo hi x st) ?hc3 ?_ ?_
  case hc3 => simp only [chop]; rfl
  · have h41 := held_ok b hb hn m r (by omega) (by omega)
    have g1 : ((lo : Int) != (L1 : Int)) = false := by simp; omega
    have g2 : decide ((hi : Int) > (M1 : Int)) = false := by simp; omega
    have g3 : decide ((lo : Int) > (hi : Int)) = false := by simp; omega
    have g4 : (bro == 2) = decide ((hi : Int) < (r : Int)) := by
      rw [hbro, Bool.eq_iff_iff, beq_iff_eq, decide_eq_true_eq]; split
      · rename_i h; simp [h]
      · rename_i h; simp only [h, iff_false]; split <;> decide
    have g5 : (bro == 0) = decide ((lo : Int) ≥ (r : Int)) := by
      rw [hbro, Bool.eq_iff_iff, beq_iff_eq, decide_eq_true_eq]; split
      · rename_i h; simp; omega
      · split
        · rename_i h; simp; omega
        · rename_i h; simp; omega
    generalize heldB b n m r = x at *
    generalize heldIs b n r = can at *
    simp only [bo5] at h41
    unfold bo5
    simp only [go_sem, Nat.reduceEqDiff, Nat.reduceAdd, Nat.reduceSub, Nat.reduceMul, Nat.reduceLT, Nat.reduceLeDiff, Nat.reduceMod, Nat.reduceDiv, Int.reduceToNat, Int.reduceLT, Int.reduceLE, Bool.not_true, Bool.not_false, reduceIte, Int.reduceEq, Int.reduceBEq, Int.reduceBNe, Int.reduceGT, Int.reduceGE, Int.reduceNeg, Int.reduceAdd, Int.reduceSub, Nat.reduceBEq, decide_true, decide_false, undef, beq_self_eq_true, bne_self_eq_false, Bool.and_true, Bool.true_and, Bool.and_false, Bool.false_and, Bool.or_true, Bool.true_or, Bool.or_false, Bool.false_or, undef, q4, q9, q10, q11, q12, q14, q15, q16, q17, g1, g2, g3, g4, g5, bne_self_eq_false]
    refine ACallL.fresh1 h41 rfl ?_
    simp only [go_sem, Nat.reduceEqDiff, Nat.reduceAdd, Nat.reduceSub, Nat.reduceMul, Nat.reduceLT, Nat.reduceLeDiff, Nat.reduceMod, Nat.reduceDiv, Int.reduceToNat, Int.reduceLT, Int.reduceLE, Bool.not_true, Bool.not_false, reduceIte, Int.reduceEq, Int.reduceBEq, Int.reduceBNe, Int.reduceGT, Int.reduceGE, Int.reduceNeg, Int.reduceAdd, Int.reduceSub, Nat.reduceBEq, decide_true, decide_false, undef, beq_self_eq_true, bne_self_eq_false, Bool.and_true, Bool.true_and, Bool.and_false, Bool.false_and, Bool.or_true, Bool.true_or, Bool.or_false, Bool.false_or, undef, q4, q9, q10, q11, q12, q14, q15, q16, q17]
    cases can
    · simp only [go_sem, Nat.reduceEqDiff, Nat.reduceAdd, Nat.reduceSub, Nat.reduceMul, Nat.reduceLT, Nat.reduceLeDiff, Nat.reduceMod, Nat.reduceDiv, Int.reduceToNat, Int.reduceLT, Int.reduceLE, Bool.not_true, Bool.not_false, reduceIte, Int.reduceEq, Int.reduceBEq, Int.reduceBNe, Int.reduceGT, Int.reduceGE, Int.reduceNeg, Int.reduceAdd, Int.reduceSub, Nat.reduceBEq, decide_true, decide_false, undef, beq_self_eq_true, bne_self_eq_false, Bool.and_true, Bool.true_and, Bool.and_false, Bool.false_and, Bool.or_true, Bool.true_or, Bool.or_false, Bool.false_or, undef]
      refine ACallL.quiet1 awake_ok rfl rfl rfl ?_
      simp only [go_sem, Nat.reduceEqDiff, Nat.reduceAdd, Nat.reduceSub, Nat.reduceMul, Nat.reduceLT, Nat.reduceLeDiff, Nat.reduceMod, Nat.reduceDiv, Int.reduceToNat, Int.reduceLT, Int.reduceLE, Bool.not_true, Bool.not_false, reduceIte, Int.reduceEq, Int.reduceBEq, Int.reduceBNe, Int.reduceGT, Int.reduceGE, Int.reduceNeg, Int.reduceAdd, Int.reduceSub, Nat.reduceBEq, decide_true, decide_false, undef, beq_self_eq_true, bne_self_eq_false, Bool.and_true, Bool.true_and, Bool.and_false, Bool.false_and, Bool.or_true, Bool.true_or, Bool.or_false, Bool.false_or, undef]
      exact finL_ret [] ⟨rfl, rfl, rfl, rfl, _, rfl, res_mk rfl⟩
    · simp only [go_sem, Nat.reduceEqDiff, Nat.reduceAdd, Nat.reduceSub, Nat.reduceMul, Nat.reduceLT, Nat.reduceLeDiff, Nat.reduceMod, Nat.reduceDiv, Int.reduceToNat, Int.reduceLT, Int.reduceLE, Bool.not_true, Bool.not_false, reduceIte, Int.reduceEq, Int.reduceBEq, Int.reduceBNe, Int.reduceGT, Int.reduceGE, Int.reduceNeg, Int.reduceAdd, Int.reduceSub, Nat.reduceBEq, decide_true, decide_false, undef, beq_self_eq_true, bne_self_eq_false, Bool.and_true, Bool.true_and, Bool.and_false, Bool.false_and, Bool.or_true, Bool.true_or, Bool.or_false, Bool.false_or, undef]
      exact ⟨x, hhs rfl, q4, q9, q10, q11, q12, rfl, rfl, rfl, rfl⟩
  clear q4 q9 q10 q11 q12 q14 q15 q16 q17 hhs
  rintro ⟨env, σ, df, k⟩ ⟨x, H, q4, q9, q10, q11, q12, q21, hσ, hdf, hk⟩
  simp only at q4 q9 q10 q11 q12 q21 hσ hdf hk
  subst hσ hdf hk
  have hx := H.ok
  have hLx : Lens x := ⟨Nat.lt_of_le_of_lt hx.num (by decide), fun l hl => Nat.lt_of_le_of_lt (hx.lens l hl) (by decide)⟩
  have hnx : n < x.seen.length := by rw [H.len]; exact hn
  have hmx : m ≤ x.L := by rw [H.L]; exact hm
  obtain ⟨l1, l2⟩ := hlaw x H
  have h18 := Rows_ok b hL n m
  have h18' := Rows_ok x hLx n m
  have h20 := Nearest_ok x hLx n
  rw [specRows_ok hb hn hm, hT] at h18
  rw [specRows_ok hx hnx hmx] at h18'
  rw [specNearest_ok hx hnx] at h20
  unfold nearS at h20
  clear hlaw
  generalize isT x n = is at *
  generalize loR b (canM b n m) = a1 at *
  generalize hiR b (canM b n m) = a2 at *
  generalize loR x (canM x n m) = a3 at *
  generalize hiR x (canM x n m) = a4 at *
  generalize loR x (nearAll x n) = a5 at *
  generalize nearHi x n = a6 at *
  simp only [spanE, tSp, bo5, if_true] at h18 h18' h20
  have g0 : decide ((a2 : Int) ≥ (r : Int)) = is := by rw [l1]; exact decide_eq_decide.2 (by omega)
  unfold bo5
  simp only [go_sem, Nat.reduceEqDiff, Nat.reduceAdd, Nat.reduceSub, Nat.reduceMul, Nat.reduceLT, Nat.reduceLeDiff, Nat.reduceMod, Nat.reduceDiv, Int.reduceToNat, Int.reduceLT, Int.reduceLE, Bool.not_true, Bool.not_false, reduceIte, Int.reduceEq, Int.reduceBEq, Int.reduceBNe, Int.reduceGT, Int.reduceGE, Int.reduceNeg, Int.reduceAdd, Int.reduceSub, Nat.reduceBEq, decide_true, decide_false, undef, beq_self_eq_true, bne_self_eq_false, Bool.and_true, Bool.true_and, Bool.and_false, Bool.false_and, Bool.or_true, Bool.true_or, Bool.or_false, Bool.false_or, undef, q4, q9, q10, q11, q12, q21]
  refine ACallL.quiet1 h18 rfl rfl rfl ?_
  simp only [go_sem, Nat.reduceEqDiff, Nat.reduceAdd, Nat.reduceSub, Nat.reduceMul, Nat.reduceLT, Nat.reduceLeDiff, Nat.reduceMod, Nat.reduceDiv, Int.reduceToNat, Int.reduceLT, Int.reduceLE, Bool.not_true, Bool.not_false, reduceIte, Int.reduceEq, Int.reduceBEq, Int.reduceBNe, Int.reduceGT, Int.reduceGE, Int.reduceNeg, Int.reduceAdd, Int.reduceSub, Nat.reduceBEq, decide_true, decide_false, undef, beq_self_eq_true, bne_self_eq_false, Bool.and_true, Bool.true_and, Bool.and_false, Bool.false_and, Bool.or_true, Bool.true_or, Bool.or_false, Bool.false_or, undef, q4, q9, q10, q11, q12, q21]
  cases is
  · simp only [Bool.false_eq_true, if_false] at h18' h20
    refine ACallL.quiet1 h18' rfl rfl rfl ?_
    simp only [go_sem, Nat.reduceEqDiff, Nat.reduceAdd, Nat.reduceSub, Nat.reduceMul, Nat.reduceLT, Nat.reduceLeDiff, Nat.reduceMod, Nat.reduceDiv, Int.reduceToNat, Int.reduceLT, Int.reduceLE, Bool.not_true, Bool.not_false, reduceIte, Int.reduceEq, Int.reduceBEq, Int.reduceBNe, Int.reduceGT, Int.reduceGE, Int.reduceNeg, Int.reduceAdd, Int.reduceSub, Nat.reduceBEq, decide_true, decide_false, undef, beq_self_eq_true, bne_self_eq_false, Bool.and_true, Bool.true_and, Bool.and_false, Bool.false_and, Bool.or_true, Bool.true_or, Bool.or_false, Bool.false_or, undef, q4, q9, q10, q11, q12, q21]
    refine ACallL.quiet1 h20 rfl rfl rfl ?_
    simp only [go_sem, Nat.reduceEqDiff, Nat.reduceAdd, Nat.reduceSub, Nat.reduceMul, Nat.reduceLT, Nat.reduceLeDiff, Nat.reduceMod, Nat.reduceDiv, Int.reduceToNat, Int.reduceLT, Int.reduceLE, Bool.not_true, Bool.not_false, reduceIte, Int.reduceEq, Int.reduceBEq, Int.reduceBNe, Int.reduceGT, Int.reduceGE, Int.reduceNeg, Int.reduceAdd, Int.reduceSub, Nat.reduceBEq, decide_true, decide_false, undef, beq_self_eq_true, bne_self_eq_false, Bool.and_true, Bool.true_and, Bool.and_false, Bool.false_and, Bool.or_true, Bool.true_or, Bool.or_false, Bool.false_or, undef, q4, q9, q10, q11, q12, q21, g0]
    refine ACallL.quiet1 awake_ok rfl rfl rfl ?_
    simp only [go_sem, Nat.reduceEqDiff, Nat.reduceAdd, Nat.reduceSub, Nat.reduceMul, Nat.reduceLT, Nat.reduceLeDiff, Nat.reduceMod, Nat.reduceDiv, Int.reduceToNat, Int.reduceLT, Int.reduceLE, Bool.not_true, Bool.not_false, reduceIte, Int.reduceEq, Int.reduceBEq, Int.reduceBNe, Int.reduceGT, Int.reduceGE, Int.reduceNeg, Int.reduceAdd, Int.reduceSub, Nat.reduceBEq, decide_true, decide_false, undef, beq_self_eq_true, bne_self_eq_false, Bool.and_true, Bool.true_and, Bool.and_false, Bool.false_and, Bool.or_true, Bool.true_or, Bool.or_false, Bool.false_or, undef]
    exact finL_ret [] ⟨rfl, rfl, rfl, rfl, _, rfl, res_mk rfl⟩
  · obtain ⟨e1, e2, e3, e4, e5, e6⟩ := l2 rfl
    have g1 : decide ((a3 : Int) ≥ max (a1 : Int) (r : Int)) = true := decide_eq_true (by omega)
    have g2 : ((a4 : Int) == (a2 : Int)) = true := by simp; omega
    have g3 : decide ((a5 : Int) ≥ (lo : Int)) = true := decide_eq_true (by omega)
    have g4 : decide ((a6 : Int) ≤ (hi : Int)) = true := decide_eq_true (by omega)
    simp only [if_true] at h18' h20
    refine ACallL.quiet1 h18' rfl rfl rfl ?_
    simp only [go_sem, Nat.reduceEqDiff, Nat.reduceAdd, Nat.reduceSub, Nat.reduceMul, Nat.reduceLT, Nat.reduceLeDiff, Nat.reduceMod, Nat.reduceDiv, Int.reduceToNat, Int.reduceLT, Int.reduceLE, Bool.not_true, Bool.not_false, reduceIte, Int.reduceEq, Int.reduceBEq, Int.reduceBNe, Int.reduceGT, Int.reduceGE, Int.reduceNeg, Int.reduceAdd, Int.reduceSub, Nat.reduceBEq, decide_true, decide_false, undef, beq_self_eq_true, bne_self_eq_false, Bool.and_true, Bool.true_and, Bool.and_false, Bool.false_and, Bool.or_true, Bool.true_or, Bool.or_false, Bool.false_or, undef, q4, q9, q10, q11, q12, q21]
    refine ACallL.quiet1 h20 rfl rfl rfl ?_
    cases g5 : decide ((r : Int) > (hi : Int))
    · have g6 : ((a6 : Int) == (hi : Int)) = true := by have := of_decide_eq_false g5; simp; omega
      simp only [go_sem, Nat.reduceEqDiff, Nat.reduceAdd, Nat.reduceSub, Nat.reduceMul, Nat.reduceLT, Nat.reduceLeDiff, Nat.reduceMod, Nat.reduceDiv, Int.reduceToNat, Int.reduceLT, Int.reduceLE, Bool.not_true, Bool.not_false, reduceIte, Int.reduceEq, Int.reduceBEq, Int.reduceBNe, Int.reduceGT, Int.reduceGE, Int.reduceNeg, Int.reduceAdd, Int.reduceSub, Nat.reduceBEq, decide_true, decide_false, undef, beq_self_eq_true, bne_self_eq_false, Bool.and_true, Bool.true_and, Bool.and_false, Bool.false_and, Bool.or_true, Bool.true_or, Bool.or_false, Bool.false_or, undef, q4, q9, q10, q11, q12, q21, g0, g1, g2, g3, g4, g5, g6]
      refine ACallL.quiet1 awake_ok rfl rfl rfl ?_
      simp only [go_sem, Nat.reduceEqDiff, Nat.reduceAdd, Nat.reduceSub, Nat.reduceMul, Nat.reduceLT, Nat.reduceLeDiff, Nat.reduceMod, Nat.reduceDiv, Int.reduceToNat, Int.reduceLT, Int.reduceLE, Bool.not_true, Bool.not_false, reduceIte, Int.reduceEq, Int.reduceBEq, Int.reduceBNe, Int.reduceGT, Int.reduceGE, Int.reduceNeg, Int.reduceAdd, Int.reduceSub, Nat.reduceBEq, decide_true, decide_false, undef, beq_self_eq_true, bne_self_eq_false, Bool.and_true, Bool.true_and, Bool.and_false, Bool.false_and, Bool.or_true, Bool.true_or, Bool.or_false, Bool.false_or, undef]
      exact finL_ret [] ⟨rfl, rfl, rfl, rfl, _, rfl, res_mk rfl⟩
    · simp only [go_sem, Nat.reduceEqDiff, Nat.reduceAdd, Nat.reduceSub, Nat.reduceMul, Nat.reduceLT, Nat.reduceLeDiff, Nat.reduceMod, Nat.reduceDiv, Int.reduceToNat, Int.reduceLT, Int.reduceLE, Bool.not_true, Bool.not_false, reduceIte, Int.reduceEq, Int.reduceBEq, Int.reduceBNe, Int.reduceGT, Int.reduceGE, Int.reduceNeg, Int.reduceAdd, Int.reduceSub, Nat.reduceBEq, decide_true, decide_false, undef, beq_self_eq_true, bne_self_eq_false, Bool.and_true, Bool.true_and, Bool.and_false, Bool.false_and, Bool.or_true, Bool.true_or, Bool.or_false, Bool.false_or, undef, q4, q9, q10, q11, q12, q21, g0, g1, g2, g3, g4, g5]
      refine ACallL.quiet1 awake_ok rfl rfl rfl ?_
      simp only [go_sem, Nat.reduceEqDiff, Nat.reduceAdd, Nat.reduceSub, Nat.reduceMul, Nat.reduceLT, Nat.reduceLeDiff, Nat.reduceMod, Nat.reduceDiv, Int.reduceToNat, Int.reduceLT, Int.reduceLE, Bool.not_true, Bool.not_false, reduceIte, Int.reduceEq, Int.reduceBEq, Int.reduceBNe, Int.reduceGT, Int.reduceGE, Int.reduceNeg, Int.reduceAdd, Int.reduceSub, Nat.reduceBEq, decide_true, decide_false, undef, beq_self_eq_true, bne_self_eq_false, Bool.and_true, Bool.true_and, Bool.and_false, Bool.false_and, Bool.or_true, Bool.true_or, Bool.or_false, Bool.false_or, undef]
      exact finL_ret [] ⟨rfl, rfl, rfl, rfl, _, rfl, res_mk rfl⟩
end Go.Proofs.YtafcdpmcmmfbhaaDoor
