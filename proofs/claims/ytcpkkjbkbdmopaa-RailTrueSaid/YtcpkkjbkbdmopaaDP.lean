/- Proved here: laws that the statements need (RaC36, RaS7). No conditions but those that each law states. -/
import Derived.Test.YtcpkkjbkbdmopaaFL
import Derived.Test.YtcpkkjbkbdmopaaFP
import Derived.Test.YtcpkkjbkbdmopaaProg
import Derived.Test.YtcpkkjbkbdmopaaDN

set_option linter.unusedSimpArgs false
set_option linter.unusedVariables false

/- Compiled code of functions, printed by program; each is checked to be the program's. No conditions. -/
namespace Go.Proofs.Ytcpkkjbkbdmopaa
open Go Go.Ab
/-- dipworks/dipworkslaw11.RailTrue -/
def c6 : AC :=
 .seq (.reg [⟨(some 6), none, .box (.tmp 0)⟩,
 ⟨(some 12), none, .mov (.lit (.bool false))⟩])
 (.seq (.seq (.reg [⟨(some 42), none, .load true 10 (.tmp 6)⟩,
 ⟨(some 43), none, .call (.fn 37) [(.tmp 42)]⟩])
 (.cond (.tmp 43) (.seq (.reg [⟨(some 44), none, .call (.fn 24) []⟩,
 ⟨(some 12), none, .mov (.tmp 44)⟩])
 (.ret))
 (.skip)))
 (.seq (.seq (.reg [⟨(some 45), none, .load true 10 (.tmp 6)⟩,
 ⟨(some 46), none, .call (.fn 12) [(.tmp 45)]⟩,
 ⟨(some 47), none, .un .not (.tmp 46)⟩])
 (.cond (.tmp 47) (.seq (.reg [⟨(some 49), none, .load true 10 (.tmp 6)⟩,
 ⟨(some 50), none, .call (.fn 27) [(.tmp 49), (.lit (.int .i64 0))]⟩,
 ⟨(some 48), none, .mov (.tmp 50)⟩,
 ⟨(some 51), none, .ext (.tmp 48) 0⟩,
 ⟨(some 52), none, .ext (.tmp 48) 1⟩,
 ⟨(some 13), none, .alloc [(.int .i64 0), (.int .i64 0)]⟩,
 ⟨none, none, .store 2 (.tmp 13) (.tmp 51)⟩,
 ⟨(some 14), none, .mov (.tmp 52)⟩])
 (.seq (.reg [⟨(some 54), none, .load true 10 (.tmp 6)⟩,
 ⟨(some 55), none, .call (.fn 14) [(.tmp 54), (.lit (.int .i64 0))]⟩,
 ⟨(some 53), none, .mov (.tmp 55)⟩,
 ⟨(some 56), none, .ext (.tmp 53) 0⟩,
 ⟨(some 57), none, .ext (.tmp 53) 1⟩,
 ⟨(some 15), none, .alloc [(.int .i64 0), (.int .i64 0)]⟩,
 ⟨none, none, .store 2 (.tmp 15) (.tmp 56)⟩,
 ⟨(some 16), none, .mov (.tmp 57)⟩])
 (.seq (.reg [⟨(some 58), none, .mov (.tmp 14)⟩,
 ⟨(some 59), none, .bin .eql (.tmp 58) (.lit (.int .i64 1))⟩,
 ⟨(some 60), none, .mov (.tmp 59)⟩,
 ⟨(some 61), (some (60, true)), .mov (.tmp 16)⟩,
 ⟨(some 62), (some (60, true)), .mov (.tmp 14)⟩,
 ⟨(some 63), (some (60, true)), .bin .eql (.tmp 61) (.tmp 62)⟩,
 ⟨(some 64), none, .pick (.tmp 60) (.tmp 63) (.lit (.bool false))⟩,
 ⟨(some 65), none, .mov (.tmp 64)⟩,
 ⟨(some 66), (some (65, true)), .load true 2 (.tmp 13)⟩,
 ⟨(some 67), (some (65, true)), .build [(.int .i64 0), (.int .i64 0)] []⟩,
 ⟨(some 68), (some (65, true)), .eqs false [(some .i64), (some .i64)] (.tmp 66) (.tmp 67)⟩,
 ⟨(some 69), none, .pick (.tmp 65) (.tmp 68) (.lit (.bool false))⟩,
 ⟨(some 70), none, .mov (.tmp 69)⟩,
 ⟨(some 71), (some (70, true)), .load true 2 (.tmp 15)⟩,
 ⟨(some 72), (some (70, true)), .build [(.int .i64 0), (.int .i64 0)] []⟩,
 ⟨(some 73), (some (70, true)), .eqs false [(some .i64), (some .i64)] (.tmp 71) (.tmp 72)⟩,
 ⟨(some 74), none, .pick (.tmp 70) (.tmp 73) (.lit (.bool false))⟩,
 ⟨(some 75), none, .mov (.tmp 74)⟩,
 ⟨(some 76), (some (75, true)), .call (.fn 24) []⟩,
 ⟨(some 77), none, .pick (.tmp 75) (.tmp 76) (.lit (.bool false))⟩,
 ⟨(some 12), none, .mov (.tmp 77)⟩])
 (.ret))))
 (.skip)))
 (.seq (.draw (.step ⟨(some 78), none, .faddr 6 (.tmp 6)⟩ (
 .step ⟨(some 79), none, .load false 1 (.tmp 78)⟩ (
 .step ⟨(some 80), none, .faddr 7 (.tmp 6)⟩ (
 .step ⟨(some 81), none, .load false 1 (.tmp 80)⟩ (
 .step ⟨(some 82), none, .mov (.tmp 1)⟩ (
 .step ⟨(some 83), none, .conv .i64 (.tmp 82)⟩ (
 .step ⟨(some 84), none, .bin .and (.tmp 81) (.tmp 83)⟩ (
 .step ⟨(some 85), none, .bin .or (.tmp 79) (.tmp 84)⟩ (
 .step ⟨(some 86), none, .mov (.tmp 4)⟩ (
 .step ⟨(some 87), none, .conv .i64 (.tmp 86)⟩ (
 .step ⟨(some 88), none, .faddr 4 (.tmp 6)⟩ (
 .step ⟨(some 89), none, .load false 1 (.tmp 88)⟩ (
 .step ⟨(some 90), none, .bin .add (.tmp 89) (.lit (.int .i64 1))⟩ (
 .step ⟨(some 91), none, .bin .rem (.tmp 87) (.tmp 90)⟩ (
 .step ⟨(some 92), none, .mov (.tmp 5)⟩ (
 .step ⟨(some 93), none, .conv .i64 (.tmp 92)⟩ (
 .step ⟨(some 94), none, .bin .rem (.tmp 93) (.lit (.int .i64 61))⟩ (
 .step ⟨(some 17), none, .mov (.tmp 85)⟩ (
 .step ⟨(some 18), none, .mov (.tmp 91)⟩ (
 .step ⟨(some 19), none, .mov (.tmp 94)⟩ (
 .done))))))))))))))))))))))
 (.seq (.reg [⟨(some 20), none, .mov (.lit (.int .i64 0))⟩,
 ⟨(some 21), none, .mov (.lit (.int .i64 0))⟩])
 (.seq (.seq (.reg [⟨(some 95), none, .faddr 8 (.tmp 6)⟩,
 ⟨(some 96), none, .load false 1 (.tmp 95)⟩,
 ⟨(some 97), none, .len (.tmp 96)⟩,
 ⟨(some 98), none, .mov (.lit (.int .i64 0))⟩])
 (.block 0 (.loop (.seq (.reg [⟨(some 99), none, .bin .lss (.tmp 98) (.tmp 97)⟩])
 (.seq (.cond (.tmp 99) (.skip)
 (.exit 0))
 (.seq (.block 1 (.seq (.reg [⟨(some 100), none, .mov (.tmp 98)⟩,
 ⟨(some 101), none, .iaddr 4 (.tmp 96) (.tmp 98)⟩,
 ⟨(some 102), none, .load true 4 (.tmp 101)⟩,
 ⟨(some 23), none, .alloc [(.int .i64 0), (.int .i64 0), (.int .i64 0), (.int .i64 0)]⟩,
 ⟨(some 22), none, .mov (.tmp 100)⟩,
 ⟨none, none, .store 4 (.tmp 23) (.tmp 102)⟩])
 (.seq (.reg [⟨(some 103), none, .faddr 2 (.tmp 23)⟩,
 ⟨(some 104), none, .faddr 0 (.tmp 103)⟩,
 ⟨(some 105), none, .load false 1 (.tmp 104)⟩,
 ⟨(some 24), none, .mov (.tmp 105)⟩])
 (.seq (.seq (.reg [⟨(some 106), none, .mov (.tmp 2)⟩,
 ⟨(some 107), none, .len (.tmp 106)⟩,
 ⟨(some 108), none, .bin .gtr (.tmp 107) (.lit (.int .i64 0))⟩])
 (.cond (.tmp 108) (.draw (.step ⟨(some 109), none, .mov (.tmp 24)⟩ (
 .step ⟨(some 110), none, .mov (.tmp 2)⟩ (
 .step ⟨(some 111), none, .mov (.tmp 22)⟩ (
 .step ⟨(some 112), none, .mov (.tmp 2)⟩ (
 .step ⟨(some 113), none, .len (.tmp 112)⟩ (
 .step ⟨(some 114), none, .bin .rem (.tmp 111) (.tmp 113)⟩ (
 .step ⟨(some 115), none, .iaddr 1 (.tmp 110) (.tmp 114)⟩ (
 .step ⟨(some 116), none, .load false 1 (.tmp 115)⟩ (
 .step ⟨(some 117), none, .conv .i64 (.tmp 116)⟩ (
 .step ⟨(some 118), none, .faddr 2 (.tmp 23)⟩ (
 .step ⟨(some 119), none, .faddr 1 (.tmp 118)⟩ (
 .step ⟨(some 120), none, .load false 1 (.tmp 119)⟩ (
 .step ⟨(some 121), none, .faddr 2 (.tmp 23)⟩ (
 .step ⟨(some 122), none, .faddr 0 (.tmp 121)⟩ (
 .step ⟨(some 123), none, .load false 1 (.tmp 122)⟩ (
 .step ⟨(some 124), none, .bin .sub (.tmp 120) (.tmp 123)⟩ (
 .step ⟨(some 125), none, .bin .add (.tmp 124) (.lit (.int .i64 1))⟩ (
 .step ⟨(some 126), none, .bin .rem (.tmp 117) (.tmp 125)⟩ (
 .step ⟨(some 127), none, .bin .add (.tmp 109) (.tmp 126)⟩ (
 .step ⟨(some 24), none, .mov (.tmp 127)⟩ (
 .done))))))))))))))))))))))
 (.skip)))
 (.seq (.reg [⟨(some 128), none, .load true 10 (.tmp 6)⟩,
 ⟨(some 129), none, .load true 4 (.tmp 23)⟩,
 ⟨(some 130), none, .mov (.tmp 17)⟩,
 ⟨(some 131), none, .mov (.tmp 24)⟩,
 ⟨(some 132), none, .call (.fn 38) [(.tmp 128), (.tmp 129), (.tmp 130), (.tmp 131)]⟩,
 ⟨(some 25), none, .mov (.tmp 132)⟩])
 (.seq (.reg [⟨(some 134), none, .load true 10 (.tmp 6)⟩,
 ⟨(some 135), none, .mov (.tmp 22)⟩,
 ⟨(some 136), none, .call (.fn 25) [(.tmp 134), (.tmp 135)]⟩,
 ⟨(some 133), none, .mov (.tmp 136)⟩,
 ⟨(some 137), none, .ext (.tmp 133) 0⟩,
 ⟨(some 138), none, .ext (.tmp 133) 1⟩,
 ⟨(some 26), none, .alloc [(.int .i64 0), (.int .i64 0)]⟩,
 ⟨none, none, .store 2 (.tmp 26) (.tmp 137)⟩,
 ⟨(some 27), none, .mov (.tmp 138)⟩])
 (.seq (.seq (.reg [⟨(some 139), none, .mov (.tmp 27)⟩,
 ⟨(some 140), none, .bin .eql (.tmp 139) (.lit (.int .i64 0))⟩,
 ⟨(some 141), none, .mov (.tmp 140)⟩,
 ⟨(some 142), (some (141, true)), .mov (.tmp 25)⟩,
 ⟨(some 143), (some (141, true)), .load true 2 (.tmp 26)⟩,
 ⟨(some 144), (some (141, true)), .call (.fn 39) [(.tmp 142), (.tmp 143)]⟩,
 ⟨(some 145), (some (141, true)), .un .not (.tmp 144)⟩,
 ⟨(some 146), none, .pick (.tmp 141) (.tmp 145) (.lit (.bool false))⟩,
 ⟨(some 147), none, .mov (.tmp 146)⟩,
 ⟨(some 148), (some (147, false)), .mov (.tmp 27)⟩,
 ⟨(some 149), (some (147, false)), .bin .neq (.tmp 148) (.lit (.int .i64 0))⟩,
 ⟨(some 150), (some (147, false)), .mov (.tmp 149)⟩,
 ⟨(some 151), (some (150, true)), .mov (.tmp 27)⟩,
 ⟨(some 152), (some (150, true)), .bin .neq (.tmp 151) (.lit (.int .i64 11))⟩,
 ⟨(some 153), (some (150, true)), .mov (.tmp 152)⟩,
 ⟨(some 154), (some (153, false)), .load true 2 (.tmp 26)⟩,
 ⟨(some 155), (some (153, false)), .build [(.int .i64 0), (.int .i64 0)] []⟩,
 ⟨(some 156), (some (153, false)), .eqs true [(some .i64), (some .i64)] (.tmp 154) (.tmp 155)⟩,
 ⟨(some 157), (some (150, true)), .pick (.tmp 153) (.lit (.bool true)) (.tmp 156)⟩,
 ⟨(some 158), (some (147, false)), .pick (.tmp 150) (.tmp 157) (.lit (.bool false))⟩,
 ⟨(some 159), none, .pick (.tmp 147) (.lit (.bool true)) (.tmp 158)⟩])
 (.cond (.tmp 159) (.seq (.reg [⟨(some 12), none, .mov (.lit (.bool false))⟩])
 (.ret))
 (.skip)))
 (.seq (.reg [⟨(some 160), none, .mov (.tmp 25)⟩,
 ⟨(some 161), none, .mov (.tmp 18)⟩,
 ⟨(some 162), none, .bin .gtr (.tmp 160) (.tmp 161)⟩])
 (.cond (.tmp 162) (.reg [⟨(some 163), none, .mov (.tmp 20)⟩,
 ⟨(some 164), none, .faddr 0 (.tmp 23)⟩,
 ⟨(some 165), none, .load false 1 (.tmp 164)⟩,
 ⟨(some 166), none, .bin .add (.tmp 163) (.tmp 165)⟩,
 ⟨(some 20), none, .mov (.tmp 166)⟩])
 (.reg [⟨(some 167), none, .mov (.tmp 21)⟩,
 ⟨(some 168), none, .faddr 0 (.tmp 23)⟩,
 ⟨(some 169), none, .load false 1 (.tmp 168)⟩,
 ⟨(some 170), none, .bin .add (.tmp 167) (.tmp 169)⟩,
 ⟨(some 21), none, .mov (.tmp 170)⟩]))))))))))
 (.reg [⟨(some 171), none, .bin .add (.tmp 98) (.lit (.int .i64 1))⟩,
 ⟨(some 98), none, .mov (.tmp 171)⟩])))))))
 (.seq (.reg [⟨(some 173), none, .load true 10 (.tmp 6)⟩,
 ⟨(some 174), none, .mov (.tmp 18)⟩,
 ⟨(some 175), none, .call (.fn 27) [(.tmp 173), (.tmp 174)]⟩,
 ⟨(some 172), none, .mov (.tmp 175)⟩,
 ⟨(some 176), none, .ext (.tmp 172) 0⟩,
 ⟨(some 177), none, .ext (.tmp 172) 1⟩,
 ⟨(some 28), none, .alloc [(.int .i64 0), (.int .i64 0)]⟩,
 ⟨none, none, .store 2 (.tmp 28) (.tmp 176)⟩,
 ⟨(some 29), none, .mov (.tmp 177)⟩])
 (.seq (.reg [⟨(some 179), none, .faddr 0 (.tmp 6)⟩,
 ⟨(some 180), none, .load true 3 (.tmp 179)⟩,
 ⟨(some 181), none, .call (.fn 15) [(.tmp 180)]⟩,
 ⟨(some 178), none, .mov (.tmp 181)⟩,
 ⟨(some 182), none, .ext (.tmp 178) 0⟩,
 ⟨(some 183), none, .ext (.tmp 178) 1⟩,
 ⟨(some 30), none, .alloc [(.int .i64 0), (.int .i64 0)]⟩,
 ⟨none, none, .store 2 (.tmp 30) (.tmp 182)⟩,
 ⟨(some 31), none, .mov (.tmp 183)⟩])
 (.seq (.reg [⟨(some 185), none, .load true 10 (.tmp 6)⟩,
 ⟨(some 186), none, .mov (.tmp 18)⟩,
 ⟨(some 187), none, .call (.fn 14) [(.tmp 185), (.tmp 186)]⟩,
 ⟨(some 184), none, .mov (.tmp 187)⟩,
 ⟨(some 188), none, .ext (.tmp 184) 0⟩,
 ⟨(some 189), none, .ext (.tmp 184) 1⟩,
 ⟨(some 32), none, .alloc [(.int .i64 0), (.int .i64 0)]⟩,
 ⟨none, none, .store 2 (.tmp 32) (.tmp 188)⟩,
 ⟨(some 33), none, .mov (.tmp 189)⟩])
 (.seq (.reg [⟨(some 191), none, .load true 10 (.tmp 6)⟩,
 ⟨(some 192), none, .mov (.tmp 18)⟩,
 ⟨(some 193), none, .mov (.tmp 19)⟩,
 ⟨(some 194), none, .call (.fn 32) [(.tmp 191), (.tmp 192), (.tmp 193)]⟩,
 ⟨(some 190), none, .mov (.tmp 194)⟩,
 ⟨(some 195), none, .ext (.tmp 190) 0⟩,
 ⟨(some 196), none, .ext (.tmp 190) 1⟩,
 ⟨(some 34), none, .mov (.tmp 195)⟩,
 ⟨(some 35), none, .mov (.tmp 196)⟩])
 (.seq (.reg [⟨(some 198), none, .load true 10 (.tmp 6)⟩,
 ⟨(some 199), none, .mov (.tmp 19)⟩,
 ⟨(some 200), none, .call (.fn 33) [(.tmp 198), (.tmp 199)]⟩,
 ⟨(some 197), none, .mov (.tmp 200)⟩,
 ⟨(some 201), none, .ext (.tmp 197) 0⟩,
 ⟨(some 202), none, .ext (.tmp 197) 1⟩,
 ⟨(some 36), none, .mov (.tmp 201)⟩,
 ⟨(some 37), none, .mov (.tmp 202)⟩])
 (.seq (.reg [⟨(some 204), none, .load true 10 (.tmp 6)⟩,
 ⟨(some 205), none, .mov (.tmp 18)⟩,
 ⟨(some 206), none, .mov (.tmp 19)⟩,
 ⟨(some 207), none, .call (.fn 34) [(.tmp 204), (.tmp 205), (.tmp 206)]⟩,
 ⟨(some 203), none, .mov (.tmp 207)⟩,
 ⟨(some 208), none, .ext (.tmp 203) 0⟩,
 ⟨(some 209), none, .ext (.tmp 203) 1⟩,
 ⟨(some 38), none, .mov (.tmp 208)⟩,
 ⟨(some 39), none, .mov (.tmp 209)⟩])
 (.seq (.seq (.reg [⟨(some 210), none, .mov (.tmp 29)⟩,
 ⟨(some 211), none, .bin .neq (.tmp 210) (.lit (.int .i64 0))⟩,
 ⟨(some 212), none, .mov (.tmp 211)⟩,
 ⟨(some 213), (some (212, false)), .mov (.tmp 20)⟩,
 ⟨(some 214), (some (212, false)), .load true 2 (.tmp 28)⟩,
 ⟨(some 215), (some (212, false)), .call (.fn 39) [(.tmp 213), (.tmp 214)]⟩,
 ⟨(some 216), (some (212, false)), .un .not (.tmp 215)⟩,
 ⟨(some 217), none, .pick (.tmp 212) (.lit (.bool true)) (.tmp 216)⟩,
 ⟨(some 218), none, .mov (.tmp 217)⟩,
 ⟨(some 219), (some (218, false)), .mov (.tmp 33)⟩,
 ⟨(some 220), (some (218, false)), .mov (.tmp 31)⟩,
 ⟨(some 221), (some (218, false)), .bin .neq (.tmp 219) (.tmp 220)⟩,
 ⟨(some 222), none, .pick (.tmp 218) (.lit (.bool true)) (.tmp 221)⟩,
 ⟨(some 223), none, .mov (.tmp 222)⟩,
 ⟨(some 224), (some (223, false)), .mov (.tmp 35)⟩,
 ⟨(some 225), (some (223, false)), .mov (.tmp 31)⟩,
 ⟨(some 226), (some (223, false)), .bin .neq (.tmp 224) (.tmp 225)⟩,
 ⟨(some 227), none, .pick (.tmp 223) (.lit (.bool true)) (.tmp 226)⟩,
 ⟨(some 228), none, .mov (.tmp 227)⟩,
 ⟨(some 229), (some (228, false)), .mov (.tmp 39)⟩,
 ⟨(some 230), (some (228, false)), .mov (.tmp 31)⟩,
 ⟨(some 231), (some (228, false)), .bin .neq (.tmp 229) (.tmp 230)⟩,
 ⟨(some 232), none, .pick (.tmp 228) (.lit (.bool true)) (.tmp 231)⟩,
 ⟨(some 233), none, .mov (.tmp 232)⟩,
 ⟨(some 234), (some (233, false)), .mov (.tmp 31)⟩,
 ⟨(some 235), (some (233, false)), .bin .neq (.tmp 234) (.lit (.int .i64 0))⟩,
 ⟨(some 236), (some (233, false)), .mov (.tmp 235)⟩,
 ⟨(some 237), (some (236, true)), .mov (.tmp 37)⟩,
 ⟨(some 238), (some (236, true)), .mov (.tmp 31)⟩,
 ⟨(some 239), (some (236, true)), .bin .neq (.tmp 237) (.tmp 238)⟩,
 ⟨(some 240), (some (233, false)), .pick (.tmp 236) (.tmp 239) (.lit (.bool false))⟩,
 ⟨(some 241), none, .pick (.tmp 233) (.lit (.bool true)) (.tmp 240)⟩])
 (.cond (.tmp 241) (.seq (.reg [⟨(some 12), none, .mov (.lit (.bool false))⟩])
 (.ret))
 (.skip)))
 (.seq (.seq (.reg [⟨(some 242), none, .mov (.tmp 31)⟩,
 ⟨(some 243), none, .bin .neq (.tmp 242) (.lit (.int .i64 0))⟩])
 (.cond (.tmp 243) (.seq (.reg [⟨(some 244), none, .mov (.tmp 31)⟩,
 ⟨(some 245), none, .bin .eql (.tmp 244) (.lit (.int .i64 10))⟩,
 ⟨(some 246), none, .mov (.tmp 245)⟩,
 ⟨(some 247), (some (246, true)), .load true 2 (.tmp 32)⟩,
 ⟨(some 248), (some (246, true)), .build [(.int .i64 0), (.int .i64 0)] []⟩,
 ⟨(some 249), (some (246, true)), .eqs false [(some .i64), (some .i64)] (.tmp 247) (.tmp 248)⟩,
 ⟨(some 250), none, .pick (.tmp 246) (.tmp 249) (.lit (.bool false))⟩,
 ⟨(some 251), none, .mov (.tmp 250)⟩,
 ⟨(some 252), (some (251, true)), .mov (.tmp 34)⟩,
 ⟨(some 253), (some (251, true)), .bin .eql (.tmp 252) (.lit (.int .i64 0))⟩,
 ⟨(some 254), none, .pick (.tmp 251) (.tmp 253) (.lit (.bool false))⟩,
 ⟨(some 255), none, .mov (.tmp 254)⟩,
 ⟨(some 256), (some (255, true)), .mov (.tmp 36)⟩,
 ⟨(some 257), (some (255, true)), .bin .eql (.tmp 256) (.lit (.int .i64 0))⟩,
 ⟨(some 258), none, .pick (.tmp 255) (.tmp 257) (.lit (.bool false))⟩,
 ⟨(some 259), none, .mov (.tmp 258)⟩,
 ⟨(some 260), (some (259, true)), .mov (.tmp 38)⟩,
 ⟨(some 261), (some (259, true)), .bin .eql (.tmp 260) (.lit (.int .i64 0))⟩,
 ⟨(some 262), none, .pick (.tmp 259) (.tmp 261) (.lit (.bool false))⟩,
 ⟨(some 263), none, .mov (.tmp 262)⟩,
 ⟨(some 264), (some (263, true)), .call (.fn 24) []⟩,
 ⟨(some 265), none, .pick (.tmp 263) (.tmp 264) (.lit (.bool false))⟩,
 ⟨(some 12), none, .mov (.tmp 265)⟩])
 (.ret))
 (.skip)))
 (.seq (.draw (.step ⟨(some 266), none, .faddr 0 (.tmp 30)⟩ (
 .step ⟨(some 267), none, .load false 1 (.tmp 266)⟩ (
 .step ⟨(some 268), none, .mov (.tmp 3)⟩ (
 .step ⟨(some 269), none, .conv .i64 (.tmp 268)⟩ (
 .step ⟨(some 270), none, .faddr 1 (.tmp 30)⟩ (
 .step ⟨(some 271), none, .load false 1 (.tmp 270)⟩ (
 .step ⟨(some 272), none, .faddr 0 (.tmp 30)⟩ (
 .step ⟨(some 273), none, .load false 1 (.tmp 272)⟩ (
 .step ⟨(some 274), none, .bin .sub (.tmp 271) (.tmp 273)⟩ (
 .step ⟨(some 275), none, .bin .add (.tmp 274) (.lit (.int .i64 1))⟩ (
 .step ⟨(some 276), none, .bin .rem (.tmp 269) (.tmp 275)⟩ (
 .step ⟨(some 277), none, .bin .add (.tmp 267) (.tmp 276)⟩ (
 .step ⟨(some 40), none, .mov (.tmp 277)⟩ (
 .done)))))))))))))))
 (.seq (.reg [⟨(some 278), none, .faddr 3 (.tmp 6)⟩,
 ⟨(some 279), none, .load false 1 (.tmp 278)⟩,
 ⟨(some 280), none, .mov (.tmp 40)⟩,
 ⟨(some 281), none, .bin .sub (.tmp 279) (.tmp 280)⟩,
 ⟨(some 282), none, .mov (.tmp 20)⟩,
 ⟨(some 283), none, .bin .sub (.tmp 281) (.tmp 282)⟩,
 ⟨(some 284), none, .mxmn true (.lit (.int .i64 0)) [(.tmp 283)]⟩,
 ⟨(some 41), none, .mov (.tmp 284)⟩])
 (.seq (.seq (.reg [⟨(some 285), none, .mov (.tmp 41)⟩,
 ⟨(some 286), none, .load true 2 (.tmp 32)⟩,
 ⟨(some 287), none, .call (.fn 39) [(.tmp 285), (.tmp 286)]⟩,
 ⟨(some 288), none, .un .not (.tmp 287)⟩,
 ⟨(some 289), none, .mov (.tmp 288)⟩,
 ⟨(some 290), (some (289, false)), .mov (.tmp 34)⟩,
 ⟨(some 291), (some (289, false)), .bin .eql (.tmp 290) (.lit (.int .i64 2))⟩,
 ⟨(some 292), (some (289, false)), .mov (.tmp 291)⟩,
 ⟨(some 293), (some (292, true)), .mov (.tmp 41)⟩,
 ⟨(some 294), (some (292, true)), .mov (.tmp 19)⟩,
 ⟨(some 295), (some (292, true)), .bin .lss (.tmp 293) (.tmp 294)⟩,
 ⟨(some 296), (some (289, false)), .pick (.tmp 292) (.tmp 295) (.lit (.bool false))⟩,
 ⟨(some 297), none, .pick (.tmp 289) (.lit (.bool true)) (.tmp 296)⟩,
 ⟨(some 298), none, .mov (.tmp 297)⟩,
 ⟨(some 299), (some (298, false)), .mov (.tmp 34)⟩,
 ⟨(some 300), (some (298, false)), .bin .eql (.tmp 299) (.lit (.int .i64 0))⟩,
 ⟨(some 301), (some (298, false)), .mov (.tmp 300)⟩,
 ⟨(some 302), (some (301, true)), .mov (.tmp 41)⟩,
 ⟨(some 303), (some (301, true)), .mov (.tmp 19)⟩,
 ⟨(some 304), (some (301, true)), .bin .geq (.tmp 302) (.tmp 303)⟩,
 ⟨(some 305), (some (298, false)), .pick (.tmp 301) (.tmp 304) (.lit (.bool false))⟩,
 ⟨(some 306), none, .pick (.tmp 298) (.lit (.bool true)) (.tmp 305)⟩,
 ⟨(some 307), none, .mov (.tmp 306)⟩,
 ⟨(some 308), (some (307, false)), .mov (.tmp 37)⟩,
 ⟨(some 309), (some (307, false)), .bin .neq (.tmp 308) (.lit (.int .i64 0))⟩,
 ⟨(some 310), (some (307, false)), .mov (.tmp 309)⟩,
 ⟨(some 311), (some (310, true)), .mov (.tmp 37)⟩,
 ⟨(some 312), (some (310, true)), .bin .neq (.tmp 311) (.lit (.int .i64 4))⟩,
 ⟨(some 313), (some (310, true)), .mov (.tmp 312)⟩,
 ⟨(some 314), (some (313, false)), .mov (.tmp 36)⟩,
 ⟨(some 315), (some (313, false)), .bin .neq (.tmp 314) (.lit (.int .i64 0))⟩,
 ⟨(some 316), (some (310, true)), .pick (.tmp 313) (.lit (.bool true)) (.tmp 315)⟩,
 ⟨(some 317), (some (307, false)), .pick (.tmp 310) (.tmp 316) (.lit (.bool false))⟩,
 ⟨(some 318), none, .pick (.tmp 307) (.lit (.bool true)) (.tmp 317)⟩,
 ⟨(some 319), none, .mov (.tmp 318)⟩,
 ⟨(some 320), (some (319, false)), .mov (.tmp 37)⟩,
 ⟨(some 321), (some (319, false)), .bin .eql (.tmp 320) (.lit (.int .i64 0))⟩,
 ⟨(some 322), (some (319, false)), .mov (.tmp 321)⟩,
 ⟨(some 323), (some (322, true)), .mov (.tmp 18)⟩,
 ⟨(some 324), (some (322, true)), .mov (.tmp 36)⟩,
 ⟨(some 325), (some (322, true)), .bin .geq (.tmp 323) (.tmp 324)⟩,
 ⟨(some 326), (some (319, false)), .pick (.tmp 322) (.tmp 325) (.lit (.bool false))⟩,
 ⟨(some 327), (some (319, false)), .mov (.tmp 326)⟩,
 ⟨(some 328), (some (327, true)), .mov (.tmp 41)⟩,
 ⟨(some 329), (some (327, true)), .mov (.tmp 19)⟩,
 ⟨(some 330), (some (327, true)), .bin .lss (.tmp 328) (.tmp 329)⟩,
 ⟨(some 331), (some (319, false)), .pick (.tmp 327) (.tmp 330) (.lit (.bool false))⟩,
 ⟨(some 332), none, .pick (.tmp 319) (.lit (.bool true)) (.tmp 331)⟩])
 (.cond (.tmp 332) (.seq (.reg [⟨(some 12), none, .mov (.lit (.bool false))⟩])
 (.ret))
 (.skip)))
 (.seq (.reg [⟨(some 333), none, .mov (.tmp 38)⟩,
 ⟨(some 334), none, .bin .geq (.tmp 333) (.lit (.int .i64 0))⟩,
 ⟨(some 335), none, .mov (.tmp 334)⟩,
 ⟨(some 336), (some (335, true)), .faddr 3 (.tmp 6)⟩,
 ⟨(some 337), (some (335, true)), .load false 1 (.tmp 336)⟩,
 ⟨(some 338), (some (335, true)), .mov (.tmp 38)⟩,
 ⟨(some 339), (some (335, true)), .bin .add (.tmp 337) (.tmp 338)⟩,
 ⟨(some 340), (some (335, true)), .mov (.tmp 40)⟩,
 ⟨(some 341), (some (335, true)), .bin .sub (.tmp 339) (.tmp 340)⟩,
 ⟨(some 342), (some (335, true)), .mov (.tmp 20)⟩,
 ⟨(some 343), (some (335, true)), .bin .sub (.tmp 341) (.tmp 342)⟩,
 ⟨(some 344), (some (335, true)), .mxmn true (.lit (.int .i64 0)) [(.tmp 343)]⟩,
 ⟨(some 345), (some (335, true)), .mov (.tmp 19)⟩,
 ⟨(some 346), (some (335, true)), .bin .geq (.tmp 344) (.tmp 345)⟩,
 ⟨(some 347), none, .pick (.tmp 335) (.tmp 346) (.lit (.bool false))⟩,
 ⟨(some 348), none, .mov (.tmp 347)⟩,
 ⟨(some 349), (some (348, true)), .mov (.tmp 38)⟩,
 ⟨(some 350), (some (348, true)), .bin .gtr (.tmp 349) (.lit (.int .i64 0))⟩,
 ⟨(some 351), (some (348, true)), .mov (.tmp 34)⟩,
 ⟨(some 352), (some (348, true)), .bin .neq (.tmp 351) (.lit (.int .i64 2))⟩,
 ⟨(some 353), (some (348, true)), .eqb false (.tmp 350) (.tmp 352)⟩,
 ⟨(some 354), none, .pick (.tmp 348) (.tmp 353) (.lit (.bool false))⟩,
 ⟨(some 355), none, .mov (.tmp 354)⟩,
 ⟨(some 356), (some (355, true)), .call (.fn 24) []⟩,
 ⟨(some 357), none, .pick (.tmp 355) (.tmp 356) (.lit (.bool false))⟩,
 ⟨(some 12), none, .mov (.tmp 357)⟩])
 (.ret))))))))))))))))))
theorem k6 : FnC Try.prog 6 358 [] [] [.tmp 12] c6 6 := ⟨Try.f6, _, Try.func6, rfl, by decide, rfl, by decide, by kernel_rfl, by kernel_rfl⟩
end Go.Proofs.Ytcpkkjbkbdmopaa

/- RailTrue: whatever is true, it is within what is told. -/
namespace Go.Proofs.Ytcpkkjbkbdmopaa
open Go Go.Ab

abbrev tB8 (ws : List Nat) : T := .slice 1 (ws.map fun w : Nat => .lit (.int .u8 w))

/-- What rains truly. -/
def Ra.tru (r : Ra) (w : Nat) : Nat := r.R ||| (r.Pe &&& w)
theorem tru_lt {r : Ra} (hr : r.OK) (w : Nat) : r.tru w < 4096 := by
  obtain ⟨b1, b2, b3⟩ := hr.rains
  unfold Ra.tru
  exact Nat.or_lt_two_pow (n := 12) b1 (Nat.lt_of_le_of_lt Nat.and_le_left b2)
theorem tru_le (r : Ra) (w h : Nat) : dr r.S (r.tru w) h ≤ r.f false h := dr_mono fun hb => by
  have hb : r.R.testBit h = true := hb
  show (r.R ||| (r.Pe &&& w)).testBit h = true
  rw [Nat.testBit_or, hb]; rfl
theorem tru_ge (r : Ra) (w h : Nat) : r.f true h ≤ dr r.S (r.tru w) h := dr_mono fun hb => by
  show (r.R ||| r.Pe).testBit h = true
  have hb : (r.R ||| (r.Pe &&& w)).testBit h = true := hb
  rw [Nat.testBit_or, Nat.testBit_and, Bool.or_eq_true, Bool.and_eq_true] at hb
  rw [Nat.testBit_or, Bool.or_eq_true]
  rcases hb with h | h
  · exact .inl h
  · exact .inr h.1
/-- Truly it is dry within what is told. -/
theorem tru_tm {r : Ra} (hr : r.OK) (w : Nat) {l : Ln} (hl : l ∈ r.lines) {n : Nat} (hn : l.lo ≤ n ∧ (n : Int) ≤ l.hi) :
    r.tm false l ≤ tm (dr r.S (r.tru w)) r.H l.from_.toNat n ∧ tm (dr r.S (r.tru w)) r.H l.from_.toNat n ≤ r.tm true l := by
  obtain ⟨g1, g2, g3⟩ := hr.H
  have := hr.ln l hl
  have e0 : l.wet false = l.lo.toNat := rfl
  have e1 : l.wet true = l.hi.toNat := rfl
  unfold Ra.tm
  rw [e0, e1]
  exact ⟨tm_mono g2 (by omega) (fun h _ => tru_le r w h) (Nat.le_refl _) (by omega), tm_mono g2 (by omega) (fun h _ => tru_ge r w h) (Nat.le_refl _) (by omega)⟩

def TrA (r : Ra) (R hour many : Nat) (ws : List Nat) (w3 : Nat) (s : St) : Prop := lk s.env 2 = .t (tB8 ws) ∧ lk s.env 3 = .t (.lit (.int .u8 w3)) ∧ lk s.env 6 = .ptr 0 0 ∧ lk s.env 17 = .t (vi R) ∧ lk s.env 18 = .t (vi hour) ∧ lk s.env 19 = .t (vi many) ∧ s.σ = [.cells ((tw3 r.tw ++ ra7 r).map .t)] ∧ s.df = [] ∧ s.k = 0

set_option maxRecDepth 8000 in
set_option maxHeartbeats 8000000 in
theorem RailTrue_ok (r : Ra) (hL : Lens r) (w1 : Nat) (hw1 : w1 < 65536) (ws : List Nat) (hws : ∀ w ∈ ws, w < 256) (hwl : ws.length < 9223372036854775808) (w3 : Nat) (hw3 : w3 < 256) (w4 : Nat) (hw4 : w4 < 256) (w5 : Nat) (hw5 : w5 < 256) :
    ACall Try.prog 6 [.t (tRa r), .t (.lit (.int .u16 w1)), .t (tB8 ws), .t (.lit (.int .u8 w3)), .t (.lit (.int .u8 w4)), .t (.lit (.int .u8 w5))] [] (ret (vb true)) := by
  refine ACall.walk k6 ?_
  have hlong := long_ok r
  have hrail := rrail_ok r hL.l
  unfold c6
  refine awpL_chop 4 (c1 := ?a1) (c2 := ?a2) (fun s => r.OK ∧ r.ok = true ∧ TrA r (r.tru w1) (w4 % (r.H + 1)) (w5 % 61) ws w3 s) ?hc ?_ ?_
  case hc => simp only [chop]; rfl
  · have hWt := Wet_ok r 0 hL
    have hRd := Ready_ok r 0 hL
    unfold tRa at hlong hrail hWt hRd ⊢
    unfold tw3 ra7 at hlong hrail hWt hRd ⊢
    simp only [List.cons_append, List.nil_append] at hlong hrail hWt hRd
    simp only [go_sem, Nat.reduceEqDiff, Nat.reduceAdd]
    refine ACallL.quiet1 hlong rfl rfl rfl ?_
    cases h1 : r.long
    rotate_left
    · simp only [go_sem, Nat.reduceEqDiff]
      refine aliveL ?_
      simp only [go_sem, Nat.reduceEqDiff]
      exact finL_ret [] ⟨rfl, rfl, rfl, rfl, _, rfl, ret_mk rfl⟩
    simp only [go_sem, Nat.reduceEqDiff, Nat.reduceAdd]
    refine ACallL.quiet1 hrail rfl rfl rfl ?_
    cases hok : r.ok
    · have s1 : specWet r 0 = ((0, 0), 1) := by unfold specWet; rw [hok]; rfl
      have s2 : specReady r 0 = ((0, 0), 1) := by unfold specReady ans; rw [hok]; rfl
      rw [s1] at hWt
      rw [s2] at hRd
      simp only [spanE, tS] at hWt hRd
      simp only [go_sem, Nat.reduceEqDiff, Nat.reduceAdd, Bool.not_false]
      refine ACallL.fresh1 hWt rfl ?_
      simp only [go_sem, Nat.reduceEqDiff, Nat.reduceAdd, undef]
      refine ACallL.fresh1 hRd rfl ?_
      simp only [go_sem, Nat.reduceEqDiff, Nat.reduceAdd, Bool.not_true, undef, beq_self_eq_true, Bool.and_true, toKey, cellKeys, cellKey, kEq, cellEq]
      refine aliveL ?_
      simp only [go_sem, Nat.reduceEqDiff]
      exact finL_ret [] ⟨rfl, rfl, rfl, rfl, _, rfl, ret_mk rfl⟩
    have hr := (r.ok_iff).1 hok
    obtain ⟨g1, g2, g3⟩ := hr.H
    obtain ⟨b1, b2, b3⟩ := hr.rains
    have hR : r.rain = ((r.R : Nat) : Int) := by unfold Ra.R; have := hr.rain; omega
    have hP : r.perhaps = ((r.Pe : Nat) : Int) := by unfold Ra.Pe; have := hr.perhaps; omega
    have e1 : IntKind.i64.wrap (w4 : Int) = w4 := wrap_id (by omega) (by omega)
    have e2 : IntKind.i64.wrap (w5 : Int) = w5 := wrap_id (by omega) (by omega)
    have e0 : IntKind.i64.wrap (w1 : Int) = w1 := wrap_id (by omega) (by omega)
    have e3 : IntKind.i64.wrap (r.hours + 1) = ((r.H + 1 : Nat) : Int) := by rw [g3, wrap_id (by omega) (by omega)]; omega
    have e4 : (((r.H + 1 : Nat) : Int) = 0) = False := by simp; omega
    have e5 : (w5 : Int).tmod 61 = ((w5 % 61 : Nat) : Int) := mod_nat w5 61
    have e6 : bits .and .i64 r.perhaps (w1 : Int) = ((r.Pe &&& w1 : Nat) : Int) := by rw [hP]; exact bits_and (by omega) (by omega)
    have e7 : bits .or .i64 r.rain ((r.Pe &&& w1 : Nat) : Int) = ((r.tru w1 : Nat) : Int) := by rw [hR]; exact bits_or (by omega) (Nat.lt_of_le_of_lt Nat.and_le_left (by omega))
    simp only [go_sem, Nat.reduceEqDiff, Nat.reduceAdd, Nat.reduceLeDiff, Bool.not_true, Int.reduceEq, e0, e1, e2, e3, e4, e5, e6, e7, mod_nat]
    exact ⟨hr, rfl, rfl, rfl, rfl, rfl, rfl, rfl, rfl, rfl⟩
  rintro ⟨env, σ, df, k⟩ ⟨hr, hok, q2, q3, q6, q17, q18, q19, hσ, hdf, hk⟩
  simp only at q2 q3 q6 q17 q18 q19 hσ hdf hk
  subst hσ hdf hk
  obtain ⟨g1, g2, g3⟩ := hr.H
  obtain ⟨hour, hhe, hh⟩ : ∃ n, w4 % (r.H + 1) = n ∧ n ≤ r.H := ⟨_, rfl, by have := Nat.mod_lt w4 (show 0 < r.H + 1 by omega); omega⟩
  obtain ⟨many, hme, hm⟩ : ∃ n, w5 % 61 = n ∧ n ≤ 60 := ⟨_, rfl, by omega⟩
  rw [hhe] at q18
  rw [hme] at q19
  clear hhe hme
  have htlt := tru_lt hr w1
  have hnl := hr.nl
  refine awpL_chop 2 (c1 := ?b1) (c2 := ?b2) (fun s => ∃ A : Int, r.left false hour ≤ A ∧ A ≤ r.left true hour ∧ lk s.env 20 = .t (vi A) ∧ lk s.env 3 = .t (.lit (.int .u8 w3)) ∧ lk s.env 6 = .ptr 0 0 ∧ lk s.env 18 = .t (vi hour) ∧ lk s.env 19 = .t (vi many) ∧ s.σ = [.cells ((tw3 r.tw ++ ra7 r).map .t)] ∧ s.df = [] ∧ s.k = 0) ?hc2 ?_ ?_
  case hc2 => simp only [chop]; rfl
  · unfold tw3 ra7
    simp only [go_sem, Nat.reduceEqDiff, Nat.reduceAdd, Nat.reduceLeDiff, q6, List.length_map]
    refine awpL_for (i := 98) (L := 97) r.lines.length (fun j s => ∃ A B : Int, leftT (r.tm false) (r.lines.take j) hour ≤ A ∧ A ≤ leftT (r.tm true) (r.lines.take j) hour ∧ 0 ≤ B ∧ B ≤ 6 * j ∧ s = { env := [(98, .t (vi j)), (97, .t (vi r.lines.length)), (96, .t (.slice 4 (r.lines.map tLn))), (2, .t (tB8 ws)), (3, .t (.lit (.int .u8 w3))), (6, .ptr 0 0), (17, .t (vi (r.tru w1))), (18, .t (vi hour)), (19, .t (vi many)), (20, .t (vi A)), (21, .t (vi B))], σ := [.cells ((tw3 r.tw ++ ra7 r).map .t)] }) ?_
      ⟨_, Sub.gc [0] [98, 97, 96, 2, 3, 6, 17, 18, 19, 20, 21] rfl rfl, 0, 0, Int.le_refl _, Int.le_refl _, Int.le_refl _, by omega, St.gc_mk (by simp only [List.map_cons, List.map_nil, lk, Nat.reduceEqDiff, reduceIte, q2, q3, q6, q17, q18, q19]; rfl) rfl rfl rfl⟩ ?_ ?_
    · rintro k s ⟨A, B, _, _, _, _, rfl⟩; exact ⟨rfl, rfl⟩
    · rintro j s hj ⟨A, B, hA0, hA1, hB0, hB1, rfl⟩
      have hx : r.lines[j]? = some r.lines[j] := List.getElem?_eq_getElem hj
      have hmem : r.lines[j] ∈ r.lines := List.getElem_mem hj
      have s0 := leftT_succ (r.tm false) r.lines hour hx
      have s1 := leftT_succ (r.tm true) r.lines hour hx
      have hsp := specDry_at hok hx
      have htr := @tru_tm r hr w1 _ hmem
      generalize r.lines[j] = l at *
      obtain ⟨l1, l2, l3, l4, l5, l6, l7⟩ := hr.ln l hmem
      have hD := Dry_ok r j hL
      rw [hsp] at hD
      have hw1 : IntKind.i64.wrap ((j : Int) + 1) = ((j + 1 : Nat) : Int) := by rw [wrap_id (by omega) (by omega)]; omega
      have bd0 := leftT_bd (r.tm false) hour (r.lines.take j) fun l hl => by have := hr.ln l (List.mem_of_mem_take hl); omega
      have bd1 := leftT_bd (r.tm true) hour (r.lines.take j) fun l hl => by have := hr.ln l (List.mem_of_mem_take hl); omega
      rw [List.length_take] at bd0 bd1
      rw [s0, s1]
      generalize leftT (r.tm false) (r.lines.take j) hour = A0 at *
      generalize leftT (r.tm true) (r.lines.take j) hour = A1 at *
      -- how wet it truly is
      obtain ⟨D, hD1, hD2⟩ : ∃ D : Nat, l.hi - l.lo + 1 = D ∧ 1 ≤ D := ⟨(l.hi - l.lo + 1).toNat, by omega, by omega⟩
      have e1 : IntKind.i64.wrap (l.hi - l.lo) = l.hi - l.lo := wrap_id (by omega) (by omega)
      have e2 : IntKind.i64.wrap (l.hi - l.lo + 1) = ((D : Nat) : Int) := by rw [wrap_id (by omega) (by omega), hD1]
      have e3 : (((D : Nat) : Int) = 0) = False := by simp; omega
      have htl : tLn l = .agg [vi l.many, vi l.from_, vi l.lo, vi l.hi] := rfl
      rw [awpL_seq, awpL_block]
      refine awpL_chop 3 (c1 := ?d1) (c2 := ?d2) (fun s => ∃ n : Nat, l.lo ≤ n ∧ (n : Int) ≤ l.hi ∧ lk s.env 98 = .t (vi j) ∧ lk s.env 97 = .t (vi r.lines.length) ∧ lk s.env 96 = .t (.slice 4 (r.lines.map tLn)) ∧ lk s.env 2 = .t (tB8 ws) ∧ lk s.env 3 = .t (.lit (.int .u8 w3)) ∧ lk s.env 6 = .ptr 0 0 ∧ lk s.env 17 = .t (vi (r.tru w1)) ∧ lk s.env 18 = .t (vi hour) ∧ lk s.env 19 = .t (vi many) ∧ lk s.env 20 = .t (vi A) ∧ lk s.env 21 = .t (vi B) ∧
        lk s.env 22 = .t (vi j) ∧ lk s.env 23 = .ptr 1 0 ∧ lk s.env 24 = .t (vi n) ∧ s.σ = [.cells ((tw3 r.tw ++ ra7 r).map .t), .cells [.t (vi l.many), .t (vi l.from_), .t (vi l.lo), .t (vi l.hi)]] ∧ s.df = [] ∧ s.k = 0) ?hc3 ?_ ?_
      case hc3 => simp only [chop]; rfl
      · rcases Nat.eq_zero_or_pos ws.length with hz | hz
        · have z1 : decide ((ws.length : Int) > 0) = false := decide_eq_false (by omega)
          have hlo : l.lo = ((l.lo.toNat : Nat) : Int) := by omega
          simp only [go_sem, Nat.reduceEqDiff, Nat.reduceAdd, Nat.reduceLeDiff, undef, List.getElem?_map, List.length_map, hx, Option.map_some, htl, z1]
          refine ⟨l.lo.toNat, by omega, by omega, ?_⟩
          rw [← hlo]
        · have z1 : decide ((ws.length : Int) > 0) = true := decide_eq_true (by omega)
          have z2 : ((ws.length : Int) = 0) = False := eq_false (by omega)
          have hlt := Nat.mod_lt j hz
          have hxw : ws[j % ws.length]? = some ws[j % ws.length] := List.getElem?_eq_getElem hlt
          have hwb := hws _ (List.getElem_mem hlt)
          generalize ws[j % ws.length] = w at *
          have e4 : IntKind.i64.wrap (w : Int) = w := wrap_id (by omega) (by omega)
          have hmd := Nat.mod_lt w (show 0 < D by omega)
          have e5 : IntKind.i64.wrap (l.lo + ((w % D : Nat) : Int)) = ((l.lo.toNat + w % D : Nat) : Int) := by rw [wrap_id (by omega) (by omega)]; omega
          simp only [go_sem, Nat.reduceEqDiff, Nat.reduceAdd, Nat.reduceLeDiff, undef, List.getElem?_map, List.length_map, hx, Option.map_some, htl, z1, z2, mod_nat, hxw, e1, e2, e3, e4, e5]
          exact ⟨l.lo.toNat + w % D, by omega, by omega, rfl⟩
      rintro ⟨env, σ, df, k⟩ ⟨n, hn0, hn1, t98, t97, t96, t2, t3, t6, t17, t18, t19, t20, t21, t22, t23, t24, hσ, hdf, hk⟩
      simp only at t98 t97 t96 t2 t3 t6 t17 t18 t19 t20 t21 t22 t23 t24 hσ hdf hk
      subst hσ hdf hk
      have d0 := dryAt_ok r hr l ⟨l3, l4⟩ (r.tru w1) n htlt (by omega)
      obtain ⟨ht0, ht1⟩ := htr ⟨hn0, hn1⟩
      have hto := tm_or (r.f false) r.H l.from_.toNat (l.wet false)
      rw [show tm (r.f false) r.H l.from_.toNat (l.wet false) = r.tm false l from rfl] at hto
      generalize tm (dr r.S (r.tru w1)) r.H l.from_.toNat n = TT at *
      generalize r.tm false l = T0 at *
      generalize r.tm true l = T1 at *
      rw [htl] at d0
      unfold tRa at d0 hD
      unfold tw3 ra7 at d0 hD ⊢
      simp only [List.cons_append, List.nil_append] at d0 hD
      have v1 : IntKind.i64.wrap (A + l.many) = A + l.many := wrap_id (by omega) (by omega)
      have v2 : IntKind.i64.wrap (B + l.many) = B + l.many := wrap_id (by omega) (by omega)
      have gt0 : decide ((TT : Int) > hour) = decide (hour < TT) := decide_eq_decide.2 (by omega)
      have fin : ∀ (s' : St) (A' B' : Int), (A' = A + (if hour < TT then l.many else 0)) → (0 ≤ B' ∧ B' ≤ B + 6) → lk s'.env 98 = .t (vi (j + 1 : Nat)) → lk s'.env 97 = .t (vi r.lines.length) → lk s'.env 96 = .t (.slice 4 (r.lines.map tLn)) → lk s'.env 2 = .t (tB8 ws) → lk s'.env 3 = .t (.lit (.int .u8 w3)) → lk s'.env 6 = .ptr 0 0 → lk s'.env 17 = .t (vi (r.tru w1)) → lk s'.env 18 = .t (vi hour) → lk s'.env 19 = .t (vi many) → lk s'.env 20 = .t (vi A') → lk s'.env 21 = .t (vi B') →
          s'.σ[0]? = some (.cells ((tw3 r.tw ++ ra7 r).map .t)) → s'.df = [] → s'.k = 0 → ∃ s'', Sub 0 s' s'' ∧ ∃ A B : Int, (A0 + if hour < T0 then l.many else 0) ≤ A ∧ A ≤ (A1 + if hour < T1 then l.many else 0) ∧ 0 ≤ B ∧ B ≤ 6 * ((j + 1 : Nat) : Int) ∧ s'' = { env := [(98, .t (vi (j + 1 : Nat))), (97, .t (vi r.lines.length)), (96, .t (.slice 4 (r.lines.map tLn))), (2, .t (tB8 ws)), (3, .t (.lit (.int .u8 w3))), (6, .ptr 0 0), (17, .t (vi (r.tru w1))), (18, .t (vi hour)), (19, .t (vi many)), (20, .t (vi A)), (21, .t (vi B))], σ := [.cells ((tw3 r.tw ++ ra7 r).map .t)] } := by
        intro s' A' B' hA' hB' h1 h2 h3 h4 h5 h6 h7 h8 h9 h10 h11 h12 h13 h14
        refine ⟨_, Sub.gc [0] [98, 97, 96, 2, 3, 6, 17, 18, 19, 20, 21] (by unfold gcOK; simp; exact (List.getElem?_eq_some_iff.1 h12).1) rfl, A', B', ?_, ?_, by omega, by omega, ?_⟩
        · rw [hA']
          split <;> split <;> omega
        · rw [hA']
          split <;> split <;> omega
        refine St.gc_mk ?_ ?_ (by rw [h13]; rfl) h14
        · simp only [List.map_cons, List.map_nil, h1, h2, h3, h4, h5, h6, h7, h8, h9, h10, h11]; rfl
        · unfold σgc
          rw [List.map_cons, List.map_nil, List.getD_eq_getElem?_getD, h12]
          show [AO.cells (((tw3 r.tw ++ ra7 r).map E.t).map (E.gc _ _ _))] = _
          rw [gc_row]
      unfold tw3 ra7 at fin
      simp only [List.cons_append, List.nil_append] at fin
      by_cases hT1 : T1 ≤ r.H
      · rw [if_pos hT1] at hD
        simp only [spanE, tS] at hD
        have hin := inside_ok TT T0 T1
        rw [show wI (TT : Int) T0 T1 = true from decide_eq_true (by omega)] at hin
        simp only [tS] at hin
        simp only [go_sem, Nat.reduceEqDiff, Nat.reduceAdd, t6, t17, t23, t24]
        refine ACallL.fresh1 d0 rfl ?_
        simp only [go_sem, Nat.reduceEqDiff, Nat.reduceAdd, t6, t22]
        refine ACallL.fresh1 hD rfl ?_
        simp only [go_sem, Nat.reduceEqDiff, Nat.reduceAdd, undef, beq_self_eq_true]
        refine ACallL.quiet1 hin rfl rfl rfl ?_
        cases c0 : decide (hour < TT)
        · have n0 : ¬ hour < TT := of_decide_eq_false c0
          simp only [go_sem, Nat.reduceEqDiff, Nat.reduceAdd, Nat.reduceLeDiff, Bool.not_true, undef, beq_self_eq_true, bne_self_eq_false, t98, t18, t21, t23, gt0, c0, v2, hw1]
          exact fin _ A (B + l.many) (by rw [if_neg n0, Int.add_zero]) (by omega) rfl t97 t96 t2 t3 t6 t17 t18 t19 t20 rfl rfl rfl rfl
        · have n0 : hour < TT := of_decide_eq_true c0
          simp only [go_sem, Nat.reduceEqDiff, Nat.reduceAdd, Nat.reduceLeDiff, Bool.not_true, undef, beq_self_eq_true, bne_self_eq_false, t98, t18, t20, t23, gt0, c0, v1, hw1]
          exact fin _ (A + l.many) B (by rw [if_pos n0]) (by omega) rfl t97 t96 t2 t3 t6 t17 t18 t19 rfl t21 rfl rfl rfl
      · rw [if_neg hT1] at hD
        simp only [spanE, tS] at hD
        simp only [go_sem, Nat.reduceEqDiff, Nat.reduceAdd, t6, t17, t23, t24]
        refine ACallL.fresh1 d0 rfl ?_
        simp only [go_sem, Nat.reduceEqDiff, Nat.reduceAdd, t6, t22]
        refine ACallL.fresh1 hD rfl ?_
        cases c0 : decide (hour < TT)
        · have n0 : ¬ hour < TT := of_decide_eq_false c0
          simp only [go_sem, Nat.reduceEqDiff, Nat.reduceAdd, Nat.reduceLeDiff, Bool.not_true, Int.reduceBEq, Int.reduceBNe, undef, beq_self_eq_true, bne_self_eq_false, Bool.and_true, toKey, cellKeys, cellKey, kEq, cellEq, t98, t18, t21, t23, gt0, c0, v2, hw1]
          exact fin _ A (B + l.many) (by rw [if_neg n0, Int.add_zero]) (by omega) rfl t97 t96 t2 t3 t6 t17 t18 t19 t20 rfl rfl rfl rfl
        · have n0 : hour < TT := of_decide_eq_true c0
          simp only [go_sem, Nat.reduceEqDiff, Nat.reduceAdd, Nat.reduceLeDiff, Bool.not_true, Int.reduceBEq, Int.reduceBNe, undef, beq_self_eq_true, bne_self_eq_false, Bool.and_true, toKey, cellKeys, cellKey, kEq, cellEq, t98, t18, t20, t23, gt0, c0, v1, hw1]
          exact fin _ (A + l.many) B (by rw [if_pos n0]) (by omega) rfl t97 t96 t2 t3 t6 t17 t18 t19 rfl t21 rfl rfl rfl
    · rintro s ⟨A, B, hA0, hA1, _, _, rfl⟩
      rw [List.take_length] at hA0 hA1
      simp only [go_sem, Nat.reduceEqDiff]
      exact ⟨A, hA0, hA1, rfl, rfl⟩
  clear q2 q3 q6 q17 q18 q19 htlt
  rintro ⟨env, σ, df, k⟩ ⟨A, hA0, hA1, q20, q3, q6, q18, q19, hσ, hdf, hk⟩
  simp only at q20 q3 q6 q18 q19 hσ hdf hk
  subst hσ hdf hk
  have hC := Wet_ok r hour hL
  have hAl := All_ok r.tw
  have hR := Ready_ok r hour hL
  have hE := Enough_ok r hour many hL
  have hW := When_ok r many hL
  have hB := Buy_ok r hour many hL
  have hin : (r.isH hour && isMany many) = true := by rw [isH_in hr hh, isMany_in hm]; rfl
  have sW : specWhen r many = _ := ans_in hok (isMany_in hm) _ _
  have sE : specEnough r hour many = _ := ans_in hok hin _ _
  have sB : specBuy r hour many = _ := ans_in hok hin _ _
  rw [Int.toNat_natCast] at sE sB
  rw [specWet_at hr hok hh] at hC
  rw [specAll_at hr] at hAl
  rw [specReady_at hr hok hh] at hR
  obtain ⟨W1, W2, eW⟩ : ∃ a b, specWhen r many = (a, b) := ⟨_, _, rfl⟩
  rw [eW] at hW sW
  rw [sE] at hE
  rw [sB] at hB
  clear sE sB hin eW
  have hIn := inside_ok A (r.left false hour) (r.left true hour)
  rw [show wI A (r.left false hour) (r.left true hour) = true from decide_eq_true ⟨hA0, hA1⟩] at hIn
  have hst := hr.stock
  have hl0 := r.left_bd hr false hour
  have hl1 := r.left_bd hr true hour
  have hrd : r.ready hour = (r.stock - (r.all.2 + r.left true hour), r.stock - (r.all.1 + r.left false hour)) := rfl
  cases hT : isT r.tw
  · rw [hT, if_neg (by decide)] at hAl hR hE hB sW
    obtain ⟨rfl, rfl⟩ := Prod.mk.inj sW
    simp only [spanE, oneE, tS] at hC hAl hR hE hW hB hIn
    clear hrd
    generalize r.left false hour = L0 at *
    generalize r.left true hour = L1 at *
    unfold tRa at hC hR hE hW hB
    unfold tw3 at hAl
    unfold tw3 ra7 at hC hR hE hW hB ⊢
    simp only [List.cons_append, List.nil_append] at hC hR hE hW hB
    simp only [go_sem, Nat.reduceEqDiff, Nat.reduceAdd, q6, q18]
    refine ACallL.fresh1 hC rfl ?_
    simp only [go_sem, Nat.reduceEqDiff, Nat.reduceAdd, Nat.reduceLeDiff, undef, q6]
    refine ACallL.fresh1 hAl rfl ?_
    simp only [go_sem, Nat.reduceEqDiff, Nat.reduceAdd, undef, q6, q18]
    refine ACallL.fresh1 hR rfl ?_
    simp only [go_sem, Nat.reduceEqDiff, Nat.reduceAdd, undef, q6, q18, q19]
    refine ACallL.fresh1 hE rfl ?_
    simp only [go_sem, Nat.reduceEqDiff, Nat.reduceAdd, q6, q19]
    refine ACallL.fresh1 hW rfl ?_
    simp only [go_sem, Nat.reduceEqDiff, Nat.reduceAdd, q6, q18, q19]
    refine ACallL.fresh1 hB rfl ?_
    simp only [go_sem, Nat.reduceEqDiff, Nat.reduceAdd, beq_self_eq_true, bne_self_eq_false, q20]
    refine ACallL.quiet1 hIn rfl rfl rfl ?_
    simp only [go_sem, Nat.reduceEqDiff, Nat.reduceAdd, Bool.not_true, Int.reduceBNe, beq_self_eq_true, bne_self_eq_false, Bool.and_true, toKey, cellKeys, cellKey, kEq, cellEq]
    refine aliveL ?_
    simp only [go_sem, Nat.reduceEqDiff]
    exact finL_ret [] ⟨rfl, rfl, rfl, rfl, _, rfl, ret_mk rfl⟩
  rw [hT, if_pos rfl] at hAl hR hE hB sW
  have hall := r.all_bd hr hT
  have hrb := r.ready_bd hr hT hour
  obtain ⟨S0, hS0⟩ : ∃ x, max 0 (r.ready hour).1 = x := ⟨_, rfl⟩
  obtain ⟨S1, hS1⟩ : ∃ x, max 0 (r.ready hour).2 = x := ⟨_, rfl⟩
  rw [hS0, hS1] at hR
  obtain ⟨N1, hN⟩ : ∃ x : Int, (if (many : Int) = 0 ∨ (many : Int) ≤ (r.ready hour).1 then 2 else if (r.ready hour).2 < (many : Int) then 0 else 1) = x := ⟨_, rfl⟩
  rw [hN] at hE
  obtain ⟨M1, hM⟩ : ∃ x : Int, (if (many : Int) = 0 then 0 else max 0 ((many : Int) - (r.ready hour).1)) = x := ⟨_, rfl⟩
  rw [hM] at hB
  obtain ⟨D, hD1, hD2⟩ : ∃ D : Nat, r.all.2 - r.all.1 + 1 = D ∧ 1 ≤ D := ⟨(r.all.2 - r.all.1 + 1).toNat, by omega, by omega⟩
  have hmd := Nat.mod_lt w3 (show 0 < D by omega)
  obtain ⟨m, hme⟩ : ∃ m : Int, r.all.1 + ((w3 % D : Nat) : Int) = m := ⟨_, rfl⟩
  have hmb : r.all.1 ≤ m ∧ m ≤ r.all.2 := by omega
  obtain ⟨Hd, hHd⟩ : ∃ x, max 0 (r.stock - m - A) = x := ⟨_, rfl⟩
  have e1 : IntKind.i64.wrap (r.all.2 - r.all.1) = r.all.2 - r.all.1 := wrap_id (by omega) (by omega)
  have e2 : IntKind.i64.wrap (r.all.2 - r.all.1 + 1) = ((D : Nat) : Int) := by rw [wrap_id (by omega) (by omega), hD1]
  have e3 : (((D : Nat) : Int) = 0) = False := eq_false (by omega)
  have e4 : IntKind.i64.wrap (w3 : Int) = w3 := wrap_id (by omega) (by omega)
  have e5 : IntKind.i64.wrap (r.all.1 + ((w3 % D : Nat) : Int)) = m := by rw [wrap_id (by omega) (by omega), hme]
  have e6 : IntKind.i64.wrap (r.stock - m) = r.stock - m := wrap_id (by omega) (by omega)
  have e7 : IntKind.i64.wrap (r.stock - m - A) = r.stock - m - A := wrap_id (by omega) (by omega)
  have hMb : 0 ≤ M1 ∧ M1 ≤ 108 := by rw [← hM]; split <;> omega
  have e8 : IntKind.i64.wrap (r.stock + M1) = r.stock + M1 := wrap_id (by omega) (by omega)
  have e9 : IntKind.i64.wrap (r.stock + M1 - m) = r.stock + M1 - m := wrap_id (by omega) (by omega)
  have e10 : IntKind.i64.wrap (r.stock + M1 - m - A) = r.stock + M1 - m - A := wrap_id (by omega) (by omega)
  rw [hrd] at hS0 hS1 hN hM
  simp only at hS0 hS1 hN hM
  have hHb : S0 ≤ Hd ∧ Hd ≤ S1 := by omega
  have hIn2 := inside_ok Hd S0 S1
  rw [show wI Hd S0 S1 = true from decide_eq_true hHb] at hIn2
  have g1 : decide (M1 ≥ 0) = true := decide_eq_true hMb.1
  have g2 : decide (max 0 (r.stock + M1 - m - A) ≥ (many : Int)) = true := by
    refine decide_eq_true ?_
    rw [← hM]
    split <;> omega
  have hNc : (N1 = 2 ∧ decide (Hd < (many : Int)) = false ∧ decide (M1 > 0) = false) ∨ (N1 = 0 ∧ decide (Hd ≥ (many : Int)) = false ∧ decide (M1 > 0) = true) ∨ (N1 = 1 ∧ decide (M1 > 0) = true) := by
    rw [← hN]
    split
    · refine .inl ⟨rfl, decide_eq_false ?_, decide_eq_false ?_⟩
      · omega
      · rw [← hM]; split <;> omega
    · split
      · refine .inr (.inl ⟨rfl, decide_eq_false ?_, decide_eq_true ?_⟩)
        · omega
        · rw [← hM, if_neg (by omega)]; omega
      · refine .inr (.inr ⟨rfl, decide_eq_true ?_⟩)
        rw [← hM, if_neg (by omega)]; omega
  have hWc : (W2 = 4 ∧ W1 = 0) ∨ (W2 = 0 ∧ (decide ((hour : Int) ≥ W1) = true → decide (Hd < (many : Int)) = false)) := by
    cases hw : r.when many with
    | none =>
      rw [hw] at sW
      obtain ⟨rfl, rfl⟩ := Prod.mk.inj sW
      exact .inl ⟨rfl, rfl⟩
    | some x =>
      rw [hw] at sW
      obtain ⟨rfl, rfl⟩ := Prod.mk.inj sW
      have hx := Ra.when_some hr hw hh
      rw [hrd] at hx
      simp only at hx
      rw [hS0] at hx
      refine .inr ⟨rfl, fun h => decide_eq_false ?_⟩
      have := of_decide_eq_true h
      have := hx.2 (by omega)
      omega
  clear sW hS0 hS1 hN hM hrd hrb
  generalize r.left false hour = L0 at *
  generalize r.left true hour = L1 at *
  simp only [spanE, oneE, tS] at hC hAl hR hE hW hB hIn hIn2
  unfold tRa at hC hR hE hW hB
  unfold tw3 at hAl
  unfold tw3 ra7 at hC hR hE hW hB
  simp only [List.cons_append, List.nil_append] at hC hR hE hW hB
  refine awpL_chop 10 (c1 := ?e1) (c2 := ?e2) (fun s => lk s.env 6 = .ptr 0 0 ∧ lk s.env 18 = .t (vi hour) ∧ lk s.env 19 = .t (vi many) ∧ lk s.env 20 = .t (vi A) ∧ lk s.env 32 = .ptr 3 0 ∧ lk s.env 34 = .t (vi N1) ∧ lk s.env 36 = .t (vi W1) ∧ lk s.env 37 = .t (vi W2) ∧ lk s.env 38 = .t (vi M1) ∧ lk s.env 40 = .t (vi m) ∧ lk s.env 41 = .t (vi Hd) ∧ (∃ o1 o2, s.σ = [.cells ((tw3 r.tw ++ ra7 r).map .t), o1, o2, .cells [.t (vi S0), .t (vi S1)]]) ∧ s.df = [] ∧ s.k = 0) ?hc4 ?_ ?_
  case hc4 => simp only [chop]; rfl
  · unfold tw3 ra7
    simp only [go_sem, Nat.reduceEqDiff, Nat.reduceAdd, q6, q18]
    refine ACallL.fresh1 hC rfl ?_
    simp only [go_sem, Nat.reduceEqDiff, Nat.reduceAdd, Nat.reduceLeDiff, undef, q6]
    refine ACallL.fresh1 hAl rfl ?_
    simp only [go_sem, Nat.reduceEqDiff, Nat.reduceAdd, undef, q6, q18]
    refine ACallL.fresh1 hR rfl ?_
    simp only [go_sem, Nat.reduceEqDiff, Nat.reduceAdd, undef, q6, q18, q19]
    refine ACallL.fresh1 hE rfl ?_
    simp only [go_sem, Nat.reduceEqDiff, Nat.reduceAdd, q6, q19]
    refine ACallL.fresh1 hW rfl ?_
    simp only [go_sem, Nat.reduceEqDiff, Nat.reduceAdd, q6, q18, q19]
    refine ACallL.fresh1 hB rfl ?_
    simp only [go_sem, Nat.reduceEqDiff, Nat.reduceAdd, beq_self_eq_true, bne_self_eq_false, q20]
    refine ACallL.quiet1 hIn rfl rfl rfl ?_
    simp only [go_sem, Nat.reduceEqDiff, Nat.reduceAdd, Nat.reduceLeDiff, Bool.not_true, undef, beq_self_eq_true, bne_self_eq_false, q20, q3, q6, q18, q19, e1, e2, e3, e4, mod_nat, e5, e6, e7, hHd]
    exact ⟨_, _, rfl⟩
  clear q20 q3 q6 q18 q19
  rintro ⟨env, σ, df, k⟩ ⟨q6, q18, q19, q20, q32, q34, q36, q37, q38, q40, q41, ⟨o1, o2, hσ⟩, hdf, hk⟩
  simp only at q6 q18 q19 q20 q32 q34 q36 q37 q38 q40 q41 hσ hdf hk
  subst hσ hdf hk
  unfold tw3 ra7
  simp only [go_sem, Nat.reduceEqDiff, Nat.reduceAdd, q32, q41]
  refine ACallL.quiet1 hIn2 rfl rfl rfl ?_
  rcases hWc with ⟨rfl, rfl⟩ | ⟨rfl, hx⟩
  · rcases hNc with ⟨rfl, n1, n2⟩ | ⟨rfl, n1, n2⟩ | ⟨rfl, n2⟩
    · simp only [go_sem, Nat.reduceEqDiff, Nat.reduceAdd, Nat.reduceLeDiff, Bool.not_true, Int.reduceBEq, Int.reduceBNe, undef, beq_self_eq_true, bne_self_eq_false, q6, q19, q20, q34, q36, q37, q38, q40, q41, n1, g1, g2, n2, e8, e9, e10]
      refine aliveL ?_
      simp only [go_sem, Nat.reduceEqDiff]
      exact finL_ret [] ⟨rfl, rfl, rfl, rfl, _, rfl, ret_mk rfl⟩
    · simp only [go_sem, Nat.reduceEqDiff, Nat.reduceAdd, Nat.reduceLeDiff, Bool.not_true, Int.reduceBEq, Int.reduceBNe, undef, beq_self_eq_true, bne_self_eq_false, q6, q19, q20, q34, q36, q37, q38, q40, q41, n1, g1, g2, n2, e8, e9, e10]
      refine aliveL ?_
      simp only [go_sem, Nat.reduceEqDiff]
      exact finL_ret [] ⟨rfl, rfl, rfl, rfl, _, rfl, ret_mk rfl⟩
    · simp only [go_sem, Nat.reduceEqDiff, Nat.reduceAdd, Nat.reduceLeDiff, Bool.not_true, Int.reduceBEq, Int.reduceBNe, undef, beq_self_eq_true, bne_self_eq_false, q6, q19, q20, q34, q36, q37, q38, q40, g1, g2, n2, e8, e9, e10]
      refine aliveL ?_
      simp only [go_sem, Nat.reduceEqDiff]
      exact finL_ret [] ⟨rfl, rfl, rfl, rfl, _, rfl, ret_mk rfl⟩
  · cases hb : decide ((hour : Int) ≥ W1)
    · rcases hNc with ⟨rfl, n1, n2⟩ | ⟨rfl, n1, n2⟩ | ⟨rfl, n2⟩
      · simp only [go_sem, Nat.reduceEqDiff, Nat.reduceAdd, Nat.reduceLeDiff, Bool.not_true, Int.reduceBEq, undef, beq_self_eq_true, bne_self_eq_false, q6, q18, q19, q20, q34, q36, q37, q38, q40, q41, n1, hb, g1, g2, n2, e8, e9, e10]
        refine aliveL ?_
        simp only [go_sem, Nat.reduceEqDiff]
        exact finL_ret [] ⟨rfl, rfl, rfl, rfl, _, rfl, ret_mk rfl⟩
      · simp only [go_sem, Nat.reduceEqDiff, Nat.reduceAdd, Nat.reduceLeDiff, Bool.not_true, Int.reduceBEq, Int.reduceBNe, undef, beq_self_eq_true, bne_self_eq_false, q6, q18, q19, q20, q34, q36, q37, q38, q40, q41, n1, hb, g1, g2, n2, e8, e9, e10]
        refine aliveL ?_
        simp only [go_sem, Nat.reduceEqDiff]
        exact finL_ret [] ⟨rfl, rfl, rfl, rfl, _, rfl, ret_mk rfl⟩
      · simp only [go_sem, Nat.reduceEqDiff, Nat.reduceAdd, Nat.reduceLeDiff, Bool.not_true, Int.reduceBEq, Int.reduceBNe, undef, beq_self_eq_true, bne_self_eq_false, q6, q18, q19, q20, q34, q36, q37, q38, q40, hb, g1, g2, n2, e8, e9, e10]
        refine aliveL ?_
        simp only [go_sem, Nat.reduceEqDiff]
        exact finL_ret [] ⟨rfl, rfl, rfl, rfl, _, rfl, ret_mk rfl⟩
    · have hx' := hx hb
      rcases hNc with ⟨rfl, n1, n2⟩ | ⟨rfl, n1, n2⟩ | ⟨rfl, n2⟩
      · simp only [go_sem, Nat.reduceEqDiff, Nat.reduceAdd, Nat.reduceLeDiff, Bool.not_true, Int.reduceBEq, undef, beq_self_eq_true, bne_self_eq_false, q6, q18, q19, q20, q34, q36, q37, q38, q40, q41, n1, hb, g1, g2, n2, e8, e9, e10]
        refine aliveL ?_
        simp only [go_sem, Nat.reduceEqDiff]
        exact finL_ret [] ⟨rfl, rfl, rfl, rfl, _, rfl, ret_mk rfl⟩
      · simp only [go_sem, Nat.reduceEqDiff, Nat.reduceAdd, Nat.reduceLeDiff, Bool.not_true, Int.reduceBEq, Int.reduceBNe, undef, beq_self_eq_true, bne_self_eq_false, q6, q18, q19, q20, q34, q36, q37, q38, q40, q41, n1, hb, hx', g1, g2, n2, e8, e9, e10]
        refine aliveL ?_
        simp only [go_sem, Nat.reduceEqDiff]
        exact finL_ret [] ⟨rfl, rfl, rfl, rfl, _, rfl, ret_mk rfl⟩
      · simp only [go_sem, Nat.reduceEqDiff, Nat.reduceAdd, Nat.reduceLeDiff, Bool.not_true, Int.reduceBEq, Int.reduceBNe, undef, beq_self_eq_true, bne_self_eq_false, q6, q18, q19, q20, q34, q36, q37, q38, q40, q41, hb, hx', g1, g2, n2, e8, e9, e10]
        refine aliveL ?_
        simp only [go_sem, Nat.reduceEqDiff]
        exact finL_ret [] ⟨rfl, rfl, rfl, rfl, _, rfl, ret_mk rfl⟩
end Go.Proofs.Ytcpkkjbkbdmopaa
